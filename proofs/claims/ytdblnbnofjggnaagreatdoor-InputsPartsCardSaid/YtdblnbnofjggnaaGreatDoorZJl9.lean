/- chapter 49's law: InputsParts (printed by gen49ao.py). -/
import Derived.Test.YtdblnbnofjggnaaGreatDoorZJl8
namespace Go.Proofs.YtdblnbnofjggnaaGreatDoor
open Go.RowKit
def pZ (z : Inp) (k : Int) : Inp := { zP with mi := z.mi, ce := z.ce, no := z.no, kind := k }
def pA (z : Inp) (l : List Nod) : Inp := { pZ z 4 with tree := l }
def pB (z : Inp) (r : Rp) : Inp := { pZ z 7 with rep := r }
def pC (z : Inp) (q : Stn) : Inp := { pZ z 2 with stn := q }
def sA (v : Value) : Slc := { nilS with tree := v }
def sC (v : Value) : Slc := { nilS with vols := v }
theorem ok_of {x : Inp} (hk : inB x.kind 1 10 = true) (hu : useI x = x) : okI x = (stampB x && valI x) := by
 unfold okI; rw [hk, decide_eq_true hu]; simp
theorem ok_pA (z : Inp) (l : List Nod) : okI (pA z l) = (stampB z && treeB l) := ok_of (x := pA z l) (show inB 4 1 10 = true by decide) rfl
theorem ok_pB (z : Inp) (r : Rp) : okI (pB z r) = (stampB z && repB 4 3 r) := ok_of (x := pB z r) (show inB 7 1 10 = true by decide) rfl
theorem ok_pC (z : Inp) (q : Stn) : okI (pC z q) = (stampB z && staB 64 q.vols q.sh q.fa) := ok_of (x := pC z q) (show inB 2 1 10 = true by decide) rfl
theorem ok_pD (z : Inp) : okI (pZ z 10) = (stampB z && true) := ok_of (x := pZ z 10) (show inB 10 1 10 = true by decide) rfl
theorem rd_A {z : Inp} {l : List Nod} {v : Value} {W : World} (h : TreeAt W l v) : InpR W (pA z l) (sA v) := ⟨LsAt.nil _ _ _ _, h, LsAt.nil _ _ _ _, LsAt.nil _ _ _ _⟩
theorem rd_B (z : Inp) (r : Rp) (W : World) : InpR W (pB z r) nilS := nil_rd _ rfl rfl rfl rfl W
theorem rd_C {z : Inp} {q : Stn} {v : Value} {W : World} (h : LsAt nuK W.heap.size W q.vols v) : InpR W (pC z q) (sC v) := ⟨LsAt.nil _ _ _ _, TreeAt.nil _ _ _, LsAt.nil _ _ _ _, h⟩
theorem rd_D (z : Inp) (W : World) : InpR W (pZ z 10) nilS := nil_rd _ rfl rfl rfl rfl W
theorem few_lit {x : Inp} {s : Slc} {W : World} (hx : InpR W x s) (z1 : x.text.size ≤ maxLen) (z2 : x.flt.call.size ≤ maxLen) (z3 : x.rep.cl.size ≤ maxLen) {b : Bool} (hb : fewB x = b) : Calls Tryz.prog 12 #[.agg (x.cells s).toArray] W fun e W' => e = .returned (.bool b) ∧ Below W.heap.size W W' :=
 (few_any x s W hx z1 z2 z3).mono fun e W' h => by rw [hb] at h; exact h
theorem fc_lit {l : List Nod} {v : Value} {W : World} (hl : TreeAt W l v) {E : Int} (hE : (if treeB l then (0 : Int) else 180) = E) : Calls Tryz.prog 30 #[v] W fun e W' => e = .returned (.int .i64 E) ∧ Below W.heap.size W W' :=
 (fcheck_any l v W hl).mono fun e W' h => by rw [hE] at h; exact h
theorem rc_lit {r : Rp} (W : World) (hs : r.cl.size ≤ 9223372036854775807) {E : Int} (hE : (if repB 4 3 r then (0 : Int) else 220) = E) : Calls Tryz.prog 31 #[.int .i64 4, .agg r.cells.toArray] W fun e W' => e = .returned (.int .i64 E) ∧ Below W.heap.size W W' :=
 (check22_any 4 3 r W (by decide) hs).mono fun e W' h => by unfold ChkR at h; rw [hE] at h; exact h
theorem rs_lit {q : Stn} {v : Value} {W : World} (hl : LsAt nuK W.heap.size W q.vols v) {E : Int} (hE : (if staB 64 q.vols q.sh q.fa then (0 : Int) else 220) = E) : Calls Tryz.prog 32 #[.int .i64 64, .agg (q.cells v).toArray] W fun e W' => e = .returned (.int .i64 E) ∧ Below W.heap.size W W' :=
 (station_any 64 q.sh q.fa q.vols v W (ints_of hl)).mono fun e W' h => by unfold ChkR at h; rw [hE] at h; exact h
theorem ok_E {b : Bool} {n E : Int} (hn : n ≠ 0) (h : (if b then (0 : Int) else n) = E) : b = (E == 0) := by
 cases b with
 | true => rw [← h]; rfl
 | false => rw [← h]; exact (beq_false_of_ne hn).symm
theorem three_cb (w : World) (t1 t2 t3 : TypeId) (c1 c2 c3 : List Value) : CB (((w.alloc (.cells c1.toArray t1)).alloc (.cells c2.toArray t2)).alloc (.cells c3.toArray t3)) w.heap.size t1 c1 ∧ CB (((w.alloc (.cells c1.toArray t1)).alloc (.cells c2.toArray t2)).alloc (.cells c3.toArray t3)) (w.heap.size + 1) t2 c2 ∧ CB (((w.alloc (.cells c1.toArray t1)).alloc (.cells c2.toArray t2)).alloc (.cells c3.toArray t3)) (w.heap.size + 2) t3 c3 := by
 refine ⟨((CB.new w t1 c1).alloc _).alloc _, (cb_two w _ _ _).alloc _, ?_⟩
 have := CB.new ((w.alloc (.cells c1.toArray t1)).alloc (.cells c2.toArray t2)) t3 c3
 rw [World.size_alloc, World.size_alloc] at this
 exact this
set_option maxRecDepth 100000 in
set_option maxHeartbeats 16000000 in
theorem prt0 (z : Inp) (l : List Nod) (oa : Option Addr) (n cap : Nat) (v2 : Value) (r : Rp) (q : Stn) (w : World) (hl : TreeAt w l (.slice oa n cap)) (hv : LsAt nuK w.heap.size w q.vols v2) (hcl : r.cl.size ≤ maxLen) (hL : Laid w) (fA : fewB (pA z l) = false) : Calls Tryz.prog 10 #[.agg (stC z).toArray, .slice oa n cap, .agg r.cells.toArray, .agg (q.cells v2).toArray] w (TrueP w) := by
 have hb1 : Below w.heap.size w ((w.alloc (.cells (stC z).toArray 23)).alloc (.cells r.cells.toArray 33)) := (b_al (w := w) (.cells (stC z).toArray 23)).alloc (b_al (w := w) (.cells (stC z).toArray 23)).size _
 have hb0 : Below w.heap.size w (((w.alloc (.cells (stC z).toArray 23)).alloc (.cells r.cells.toArray 33)).alloc (.cells (q.cells v2).toArray 37)) := hb1.alloc hb1.size _
 have h3 := three_cb w 23 33 37 (stC z) r.cells (q.cells v2)
 have HS := Lib.hid h3.1; have HR := Lib.hid h3.2.1; have HQ := Lib.hid h3.2.2
 have HB := Lib.hid hb0; have HT := Lib.hid (hl.ext hb0); have HV := Lib.hid (hv.ext hb0); have Hcl := Lib.hid hcl; have HL := Lib.hid hL
 clear hb0 hb1 h3 hl hv hcl hL
 have hmf : ∀ (fn : Fn) (first cap : Array Value) (w : World), (Instr.makeFunc fn first cap).run Tryz.prog w = .ok (.func fn first cap) w := fun _ _ _ _ => rfl
 go_enter Tryz.func10, Tryz.ntmps10
 go_upto_region 1 with fail
 change Code.wp _ _ _ _ (((w.alloc (.cells (stC z).toArray 23)).alloc (.cells r.cells.toArray 33)).alloc (.cells (q.cells v2).toArray 37))
 generalize (((w.alloc (.cells (stC z).toArray 23)).alloc (.cells r.cells.toArray 33)).alloc (.cells (q.cells v2).toArray 37)) = w0 at *
 have HfA := Lib.hid fA; clear fA
 have T0 := Lib.hid (Nat.le_refl 0)
 go_upto_region 3 with (first
  | (have _g := T0.out; go_at_call 11; refine (sane49_any _ (HL.out.ext HB.out)).mono ?_; go_loud (rintro e w1 ⟨rfl, hb⟩; replace HS := Lib.hid (HS.out.ext hb); replace HR := Lib.hid (HR.out.ext hb); replace HQ := Lib.hid (HQ.out.ext hb); replace HT := Lib.hid (HT.out.ext hb); replace HV := Lib.hid (HV.out.ext hb); replace HB := Lib.hid (below_ext HB.out hb); have HZ : Hid (CB (w1.alloc ZI) w1.heap.size 41 ZIc) := Lib.hid (cb_one w1 ZI _ _ rfl); clear hb; clear T0; have T1 := Lib.hid (Nat.le_refl 1))))
 go_upto_region 4 with (first
  | (have _g := T1.out; refine wpList_load_cs (by rfl) 23 (.tmp 4) rfl w.heap.size (stC z) rfl 23 _ HS.out Tryz.underlying23 rfl (by kernel_rfl) ?_; clear T1; have T2 := Lib.hid (Nat.le_refl 2))
  | (have _g := T2.out; refine wpList_built (by rfl) 41 #[(0, .tmp 15), (1, .const (.int .i64 4)), (4, .tmp 16)] rfl ((pA z l).cells (sA (.slice oa n cap))) [(0, .agg (stC z).toArray), (1, .int .i64 4), (4, .slice oa n cap)] rfl (by kernel_rfl) ?_; clear T2; have T3 := Lib.hid (Nat.le_refl 3))
  | (have _g := T3.out; have _h := HZ.out; refine wpList_store_cs rfl 41 (.tmp 9) (.tmp 17) rfl w1.heap.size ((pA z l).cells (sA (.slice oa n cap))) rfl rfl 41 ZIc HZ.out rfl (by kernel_rfl) (inpR_one (rd_A HT.out)) (fun w2 HC HG HS_ => ?_); have hbs : Below w1.heap.size w1 w2 := (b_al (w := w1) ZI).grown HG.out (b_al (w := w1) ZI).size (fun q e => by injection e with e; omega); replace HS := Lib.hid (HS.out.ext hbs); replace HR := Lib.hid (HR.out.ext hbs); replace HQ := Lib.hid (HQ.out.ext hbs); replace HT := Lib.hid (HT.out.ext hbs); replace HV := Lib.hid (HV.out.ext hbs); replace HB := Lib.hid (below_ext HB.out hbs); have B1 := HC; clear hbs HC HG HS_ HZ _h; clear T3; have T4 := Lib.hid (Nat.le_refl 4)))
 have HZ : Hid (CB (w2.alloc ZI) w2.heap.size 41 ZIc) := Lib.hid (cb_one w2 ZI _ _ rfl)
 go_upto_region 5 with (first
  | (have _g := T4.out; refine wpList_load_cs (by rfl) 23 (.tmp 4) rfl w.heap.size (stC z) rfl 23 _ HS.out Tryz.underlying23 rfl (by kernel_rfl) ?_; clear T4; have T5 := Lib.hid (Nat.le_refl 5))
  | (have _g := T5.out; refine wpList_load_cs (by rfl) 33 (.tmp 6) rfl (w.heap.size + 1) r.cells rfl 33 _ HR.out Tryz.underlying33 rfl (by kernel_rfl) ?_; clear T5; have T6 := Lib.hid (Nat.le_refl 6))
  | (have _g := T6.out; refine wpList_built (by rfl) 41 #[(0, .tmp 18), (1, .const (.int .i64 7)), (6, .tmp 19)] rfl ((pB z r).cells nilS) [(0, .agg (stC z).toArray), (1, .int .i64 7), (6, .agg r.cells.toArray)] rfl (by kernel_rfl) ?_; clear T6; have T7 := Lib.hid (Nat.le_refl 7))
  | (have _g := T7.out; have _h := HZ.out; refine wpList_store_cs rfl 41 (.tmp 10) (.tmp 20) rfl w2.heap.size ((pB z r).cells nilS) rfl rfl 41 ZIc HZ.out rfl (by kernel_rfl) (inpR_one (rd_B z r w)) (fun w3 HC HG HS_ => ?_); have hbs : Below w2.heap.size w2 w3 := (b_al (w := w2) ZI).grown HG.out (b_al (w := w2) ZI).size (fun q e => by injection e with e; omega); replace HS := Lib.hid (HS.out.ext hbs); replace HR := Lib.hid (HR.out.ext hbs); replace HQ := Lib.hid (HQ.out.ext hbs); replace HT := Lib.hid (HT.out.ext hbs); replace HV := Lib.hid (HV.out.ext hbs); replace B1 := Lib.hid (B1.out.ext hbs); replace HB := Lib.hid (below_ext HB.out hbs); have B2 := HC; clear hbs HC HG HS_ HZ _h; clear T7; have T8 := Lib.hid (Nat.le_refl 8)))
 have HZ : Hid (CB (w3.alloc ZI) w3.heap.size 41 ZIc) := Lib.hid (cb_one w3 ZI _ _ rfl)
 go_upto_region 6 with (first
  | (have _g := T8.out; refine wpList_load_cs (by rfl) 23 (.tmp 4) rfl w.heap.size (stC z) rfl 23 _ HS.out Tryz.underlying23 rfl (by kernel_rfl) ?_; clear T8; have T9 := Lib.hid (Nat.le_refl 9))
  | (have _g := T9.out; refine wpList_load_cs (by rfl) 37 (.tmp 7) rfl (w.heap.size + 2) (q.cells v2) rfl 37 _ HQ.out Tryz.underlying37 rfl (by kernel_rfl) ?_; clear T9; have T10 := Lib.hid (Nat.le_refl 10))
  | (have _g := T10.out; refine wpList_built (by rfl) 41 #[(0, .tmp 21), (1, .const (.int .i64 2)), (9, .tmp 22)] rfl ((pC z q).cells (sC v2)) [(0, .agg (stC z).toArray), (1, .int .i64 2), (9, .agg (q.cells v2).toArray)] rfl (by kernel_rfl) ?_; clear T10; have T11 := Lib.hid (Nat.le_refl 11))
  | (have _g := T11.out; have _h := HZ.out; refine wpList_store_cs rfl 41 (.tmp 11) (.tmp 23) rfl w3.heap.size ((pC z q).cells (sC v2)) rfl rfl 41 ZIc HZ.out rfl (by kernel_rfl) (inpR_one (rd_C HV.out)) (fun w4 HC HG HS_ => ?_); have hbs : Below w3.heap.size w3 w4 := (b_al (w := w3) ZI).grown HG.out (b_al (w := w3) ZI).size (fun q e => by injection e with e; omega); replace HS := Lib.hid (HS.out.ext hbs); replace HR := Lib.hid (HR.out.ext hbs); replace HQ := Lib.hid (HQ.out.ext hbs); replace HT := Lib.hid (HT.out.ext hbs); replace HV := Lib.hid (HV.out.ext hbs); replace B1 := Lib.hid (B1.out.ext hbs); replace B2 := Lib.hid (B2.out.ext hbs); replace HB := Lib.hid (below_ext HB.out hbs); have B3 := HC; clear hbs HC HG HS_ HZ _h; clear T11; have T12 := Lib.hid (Nat.le_refl 12)))
 go_wp2_with (first
  | (have _g := T12.out; refine wpList_load_cs (by rfl) 41 (.tmp 9) rfl w1.heap.size ((pA z l).cells (sA (.slice oa n cap))) rfl 41 _ B1.out Tryz.underlying41 rfl (by kernel_rfl) ?_; clear T12; have T13 := Lib.hid (Nat.le_refl 13))
  | (have _g := T13.out; go_at_call 12; refine (few_lit (rd_A HT.out) (Nat.zero_le _) (Nat.zero_le _) (Nat.zero_le _) HfA.out).mono ?_; go_loud (rintro e w5 ⟨rfl, hb⟩; replace HS := Lib.hid (HS.out.ext hb); replace HR := Lib.hid (HR.out.ext hb); replace HQ := Lib.hid (HQ.out.ext hb); replace HT := Lib.hid (HT.out.ext hb); replace HV := Lib.hid (HV.out.ext hb); replace B1 := Lib.hid (B1.out.ext hb); replace B2 := Lib.hid (B2.out.ext hb); replace B3 := Lib.hid (B3.out.ext hb); replace HB := Lib.hid (below_ext HB.out hb); clear hb; clear T13; have T14 := Lib.hid (Nat.le_refl 14))))
 go_ret
 exact ⟨rfl, HB.out⟩
set_option maxRecDepth 100000 in
set_option maxHeartbeats 16000000 in
theorem prt1 (z : Inp) (l : List Nod) (oa : Option Addr) (n cap : Nat) (v2 : Value) (r : Rp) (q : Stn) (w : World) (hl : TreeAt w l (.slice oa n cap)) (hv : LsAt nuK w.heap.size w q.vols v2) (hcl : r.cl.size ≤ maxLen) (hL : Laid w) (fA : fewB (pA z l) = true) (fB : fewB (pB z r) = false) : Calls Tryz.prog 10 #[.agg (stC z).toArray, .slice oa n cap, .agg r.cells.toArray, .agg (q.cells v2).toArray] w (TrueP w) := by
 have hb1 : Below w.heap.size w ((w.alloc (.cells (stC z).toArray 23)).alloc (.cells r.cells.toArray 33)) := (b_al (w := w) (.cells (stC z).toArray 23)).alloc (b_al (w := w) (.cells (stC z).toArray 23)).size _
 have hb0 : Below w.heap.size w (((w.alloc (.cells (stC z).toArray 23)).alloc (.cells r.cells.toArray 33)).alloc (.cells (q.cells v2).toArray 37)) := hb1.alloc hb1.size _
 have h3 := three_cb w 23 33 37 (stC z) r.cells (q.cells v2)
 have HS := Lib.hid h3.1; have HR := Lib.hid h3.2.1; have HQ := Lib.hid h3.2.2
 have HB := Lib.hid hb0; have HT := Lib.hid (hl.ext hb0); have HV := Lib.hid (hv.ext hb0); have Hcl := Lib.hid hcl; have HL := Lib.hid hL
 clear hb0 hb1 h3 hl hv hcl hL
 have hmf : ∀ (fn : Fn) (first cap : Array Value) (w : World), (Instr.makeFunc fn first cap).run Tryz.prog w = .ok (.func fn first cap) w := fun _ _ _ _ => rfl
 go_enter Tryz.func10, Tryz.ntmps10
 go_upto_region 1 with fail
 change Code.wp _ _ _ _ (((w.alloc (.cells (stC z).toArray 23)).alloc (.cells r.cells.toArray 33)).alloc (.cells (q.cells v2).toArray 37))
 generalize (((w.alloc (.cells (stC z).toArray 23)).alloc (.cells r.cells.toArray 33)).alloc (.cells (q.cells v2).toArray 37)) = w0 at *
 have HfA := Lib.hid fA; clear fA; have HfB := Lib.hid fB; clear fB
 have T0 := Lib.hid (Nat.le_refl 0)
 go_upto_region 3 with (first
  | (have _g := T0.out; go_at_call 11; refine (sane49_any _ (HL.out.ext HB.out)).mono ?_; go_loud (rintro e w1 ⟨rfl, hb⟩; replace HS := Lib.hid (HS.out.ext hb); replace HR := Lib.hid (HR.out.ext hb); replace HQ := Lib.hid (HQ.out.ext hb); replace HT := Lib.hid (HT.out.ext hb); replace HV := Lib.hid (HV.out.ext hb); replace HB := Lib.hid (below_ext HB.out hb); have HZ : Hid (CB (w1.alloc ZI) w1.heap.size 41 ZIc) := Lib.hid (cb_one w1 ZI _ _ rfl); clear hb; clear T0; have T1 := Lib.hid (Nat.le_refl 1))))
 go_upto_region 4 with (first
  | (have _g := T1.out; refine wpList_load_cs (by rfl) 23 (.tmp 4) rfl w.heap.size (stC z) rfl 23 _ HS.out Tryz.underlying23 rfl (by kernel_rfl) ?_; clear T1; have T2 := Lib.hid (Nat.le_refl 2))
  | (have _g := T2.out; refine wpList_built (by rfl) 41 #[(0, .tmp 15), (1, .const (.int .i64 4)), (4, .tmp 16)] rfl ((pA z l).cells (sA (.slice oa n cap))) [(0, .agg (stC z).toArray), (1, .int .i64 4), (4, .slice oa n cap)] rfl (by kernel_rfl) ?_; clear T2; have T3 := Lib.hid (Nat.le_refl 3))
  | (have _g := T3.out; have _h := HZ.out; refine wpList_store_cs rfl 41 (.tmp 9) (.tmp 17) rfl w1.heap.size ((pA z l).cells (sA (.slice oa n cap))) rfl rfl 41 ZIc HZ.out rfl (by kernel_rfl) (inpR_one (rd_A HT.out)) (fun w2 HC HG HS_ => ?_); have hbs : Below w1.heap.size w1 w2 := (b_al (w := w1) ZI).grown HG.out (b_al (w := w1) ZI).size (fun q e => by injection e with e; omega); replace HS := Lib.hid (HS.out.ext hbs); replace HR := Lib.hid (HR.out.ext hbs); replace HQ := Lib.hid (HQ.out.ext hbs); replace HT := Lib.hid (HT.out.ext hbs); replace HV := Lib.hid (HV.out.ext hbs); replace HB := Lib.hid (below_ext HB.out hbs); have B1 := HC; clear hbs HC HG HS_ HZ _h; clear T3; have T4 := Lib.hid (Nat.le_refl 4)))
 have HZ : Hid (CB (w2.alloc ZI) w2.heap.size 41 ZIc) := Lib.hid (cb_one w2 ZI _ _ rfl)
 go_upto_region 5 with (first
  | (have _g := T4.out; refine wpList_load_cs (by rfl) 23 (.tmp 4) rfl w.heap.size (stC z) rfl 23 _ HS.out Tryz.underlying23 rfl (by kernel_rfl) ?_; clear T4; have T5 := Lib.hid (Nat.le_refl 5))
  | (have _g := T5.out; refine wpList_load_cs (by rfl) 33 (.tmp 6) rfl (w.heap.size + 1) r.cells rfl 33 _ HR.out Tryz.underlying33 rfl (by kernel_rfl) ?_; clear T5; have T6 := Lib.hid (Nat.le_refl 6))
  | (have _g := T6.out; refine wpList_built (by rfl) 41 #[(0, .tmp 18), (1, .const (.int .i64 7)), (6, .tmp 19)] rfl ((pB z r).cells nilS) [(0, .agg (stC z).toArray), (1, .int .i64 7), (6, .agg r.cells.toArray)] rfl (by kernel_rfl) ?_; clear T6; have T7 := Lib.hid (Nat.le_refl 7))
  | (have _g := T7.out; have _h := HZ.out; refine wpList_store_cs rfl 41 (.tmp 10) (.tmp 20) rfl w2.heap.size ((pB z r).cells nilS) rfl rfl 41 ZIc HZ.out rfl (by kernel_rfl) (inpR_one (rd_B z r w)) (fun w3 HC HG HS_ => ?_); have hbs : Below w2.heap.size w2 w3 := (b_al (w := w2) ZI).grown HG.out (b_al (w := w2) ZI).size (fun q e => by injection e with e; omega); replace HS := Lib.hid (HS.out.ext hbs); replace HR := Lib.hid (HR.out.ext hbs); replace HQ := Lib.hid (HQ.out.ext hbs); replace HT := Lib.hid (HT.out.ext hbs); replace HV := Lib.hid (HV.out.ext hbs); replace B1 := Lib.hid (B1.out.ext hbs); replace HB := Lib.hid (below_ext HB.out hbs); have B2 := HC; clear hbs HC HG HS_ HZ _h; clear T7; have T8 := Lib.hid (Nat.le_refl 8)))
 have HZ : Hid (CB (w3.alloc ZI) w3.heap.size 41 ZIc) := Lib.hid (cb_one w3 ZI _ _ rfl)
 go_upto_region 6 with (first
  | (have _g := T8.out; refine wpList_load_cs (by rfl) 23 (.tmp 4) rfl w.heap.size (stC z) rfl 23 _ HS.out Tryz.underlying23 rfl (by kernel_rfl) ?_; clear T8; have T9 := Lib.hid (Nat.le_refl 9))
  | (have _g := T9.out; refine wpList_load_cs (by rfl) 37 (.tmp 7) rfl (w.heap.size + 2) (q.cells v2) rfl 37 _ HQ.out Tryz.underlying37 rfl (by kernel_rfl) ?_; clear T9; have T10 := Lib.hid (Nat.le_refl 10))
  | (have _g := T10.out; refine wpList_built (by rfl) 41 #[(0, .tmp 21), (1, .const (.int .i64 2)), (9, .tmp 22)] rfl ((pC z q).cells (sC v2)) [(0, .agg (stC z).toArray), (1, .int .i64 2), (9, .agg (q.cells v2).toArray)] rfl (by kernel_rfl) ?_; clear T10; have T11 := Lib.hid (Nat.le_refl 11))
  | (have _g := T11.out; have _h := HZ.out; refine wpList_store_cs rfl 41 (.tmp 11) (.tmp 23) rfl w3.heap.size ((pC z q).cells (sC v2)) rfl rfl 41 ZIc HZ.out rfl (by kernel_rfl) (inpR_one (rd_C HV.out)) (fun w4 HC HG HS_ => ?_); have hbs : Below w3.heap.size w3 w4 := (b_al (w := w3) ZI).grown HG.out (b_al (w := w3) ZI).size (fun q e => by injection e with e; omega); replace HS := Lib.hid (HS.out.ext hbs); replace HR := Lib.hid (HR.out.ext hbs); replace HQ := Lib.hid (HQ.out.ext hbs); replace HT := Lib.hid (HT.out.ext hbs); replace HV := Lib.hid (HV.out.ext hbs); replace B1 := Lib.hid (B1.out.ext hbs); replace B2 := Lib.hid (B2.out.ext hbs); replace HB := Lib.hid (below_ext HB.out hbs); have B3 := HC; clear hbs HC HG HS_ HZ _h; clear T11; have T12 := Lib.hid (Nat.le_refl 12)))
 go_wp2_with (first
  | (have _g := T12.out; refine wpList_load_cs (by rfl) 41 (.tmp 9) rfl w1.heap.size ((pA z l).cells (sA (.slice oa n cap))) rfl 41 _ B1.out Tryz.underlying41 rfl (by kernel_rfl) ?_; clear T12; have T13 := Lib.hid (Nat.le_refl 13))
  | (have _g := T13.out; go_at_call 12; refine (few_lit (rd_A HT.out) (Nat.zero_le _) (Nat.zero_le _) (Nat.zero_le _) HfA.out).mono ?_; go_loud (rintro e w5 ⟨rfl, hb⟩; replace HS := Lib.hid (HS.out.ext hb); replace HR := Lib.hid (HR.out.ext hb); replace HQ := Lib.hid (HQ.out.ext hb); replace HT := Lib.hid (HT.out.ext hb); replace HV := Lib.hid (HV.out.ext hb); replace B1 := Lib.hid (B1.out.ext hb); replace B2 := Lib.hid (B2.out.ext hb); replace B3 := Lib.hid (B3.out.ext hb); replace HB := Lib.hid (below_ext HB.out hb); clear hb; clear T13; have T14 := Lib.hid (Nat.le_refl 14)))
  | (have _g := T14.out; refine wpList_load_cs (by rfl) 41 (.tmp 10) rfl w2.heap.size ((pB z r).cells nilS) rfl 41 _ B2.out Tryz.underlying41 rfl (by kernel_rfl) ?_; clear T14; have T15 := Lib.hid (Nat.le_refl 15))
  | (have _g := T15.out; go_at_call 12; refine (few_lit (rd_B z r _) (Nat.zero_le _) (Nat.zero_le _) Hcl.out HfB.out).mono ?_; go_loud (rintro e w6 ⟨rfl, hb⟩; replace HS := Lib.hid (HS.out.ext hb); replace HR := Lib.hid (HR.out.ext hb); replace HQ := Lib.hid (HQ.out.ext hb); replace HT := Lib.hid (HT.out.ext hb); replace HV := Lib.hid (HV.out.ext hb); replace B1 := Lib.hid (B1.out.ext hb); replace B2 := Lib.hid (B2.out.ext hb); replace B3 := Lib.hid (B3.out.ext hb); replace HB := Lib.hid (below_ext HB.out hb); clear hb; clear T15; have T16 := Lib.hid (Nat.le_refl 16))))
 go_ret
 exact ⟨rfl, HB.out⟩
set_option maxRecDepth 100000 in
set_option maxHeartbeats 16000000 in
theorem prt2 (z : Inp) (l : List Nod) (oa : Option Addr) (n cap : Nat) (v2 : Value) (r : Rp) (q : Stn) (w : World) (hl : TreeAt w l (.slice oa n cap)) (hv : LsAt nuK w.heap.size w q.vols v2) (hcl : r.cl.size ≤ maxLen) (hL : Laid w) (fA : fewB (pA z l) = true) (fB : fewB (pB z r) = true) (fC : fewB (pC z q) = false) : Calls Tryz.prog 10 #[.agg (stC z).toArray, .slice oa n cap, .agg r.cells.toArray, .agg (q.cells v2).toArray] w (TrueP w) := by
 have hb1 : Below w.heap.size w ((w.alloc (.cells (stC z).toArray 23)).alloc (.cells r.cells.toArray 33)) := (b_al (w := w) (.cells (stC z).toArray 23)).alloc (b_al (w := w) (.cells (stC z).toArray 23)).size _
 have hb0 : Below w.heap.size w (((w.alloc (.cells (stC z).toArray 23)).alloc (.cells r.cells.toArray 33)).alloc (.cells (q.cells v2).toArray 37)) := hb1.alloc hb1.size _
 have h3 := three_cb w 23 33 37 (stC z) r.cells (q.cells v2)
 have HS := Lib.hid h3.1; have HR := Lib.hid h3.2.1; have HQ := Lib.hid h3.2.2
 have HB := Lib.hid hb0; have HT := Lib.hid (hl.ext hb0); have HV := Lib.hid (hv.ext hb0); have Hcl := Lib.hid hcl; have HL := Lib.hid hL
 clear hb0 hb1 h3 hl hv hcl hL
 have hmf : ∀ (fn : Fn) (first cap : Array Value) (w : World), (Instr.makeFunc fn first cap).run Tryz.prog w = .ok (.func fn first cap) w := fun _ _ _ _ => rfl
 go_enter Tryz.func10, Tryz.ntmps10
 go_upto_region 1 with fail
 change Code.wp _ _ _ _ (((w.alloc (.cells (stC z).toArray 23)).alloc (.cells r.cells.toArray 33)).alloc (.cells (q.cells v2).toArray 37))
 generalize (((w.alloc (.cells (stC z).toArray 23)).alloc (.cells r.cells.toArray 33)).alloc (.cells (q.cells v2).toArray 37)) = w0 at *
 have HfA := Lib.hid fA; clear fA; have HfB := Lib.hid fB; clear fB; have HfC := Lib.hid fC; clear fC
 have T0 := Lib.hid (Nat.le_refl 0)
 go_upto_region 3 with (first
  | (have _g := T0.out; go_at_call 11; refine (sane49_any _ (HL.out.ext HB.out)).mono ?_; go_loud (rintro e w1 ⟨rfl, hb⟩; replace HS := Lib.hid (HS.out.ext hb); replace HR := Lib.hid (HR.out.ext hb); replace HQ := Lib.hid (HQ.out.ext hb); replace HT := Lib.hid (HT.out.ext hb); replace HV := Lib.hid (HV.out.ext hb); replace HB := Lib.hid (below_ext HB.out hb); have HZ : Hid (CB (w1.alloc ZI) w1.heap.size 41 ZIc) := Lib.hid (cb_one w1 ZI _ _ rfl); clear hb; clear T0; have T1 := Lib.hid (Nat.le_refl 1))))
 go_upto_region 4 with (first
  | (have _g := T1.out; refine wpList_load_cs (by rfl) 23 (.tmp 4) rfl w.heap.size (stC z) rfl 23 _ HS.out Tryz.underlying23 rfl (by kernel_rfl) ?_; clear T1; have T2 := Lib.hid (Nat.le_refl 2))
  | (have _g := T2.out; refine wpList_built (by rfl) 41 #[(0, .tmp 15), (1, .const (.int .i64 4)), (4, .tmp 16)] rfl ((pA z l).cells (sA (.slice oa n cap))) [(0, .agg (stC z).toArray), (1, .int .i64 4), (4, .slice oa n cap)] rfl (by kernel_rfl) ?_; clear T2; have T3 := Lib.hid (Nat.le_refl 3))
  | (have _g := T3.out; have _h := HZ.out; refine wpList_store_cs rfl 41 (.tmp 9) (.tmp 17) rfl w1.heap.size ((pA z l).cells (sA (.slice oa n cap))) rfl rfl 41 ZIc HZ.out rfl (by kernel_rfl) (inpR_one (rd_A HT.out)) (fun w2 HC HG HS_ => ?_); have hbs : Below w1.heap.size w1 w2 := (b_al (w := w1) ZI).grown HG.out (b_al (w := w1) ZI).size (fun q e => by injection e with e; omega); replace HS := Lib.hid (HS.out.ext hbs); replace HR := Lib.hid (HR.out.ext hbs); replace HQ := Lib.hid (HQ.out.ext hbs); replace HT := Lib.hid (HT.out.ext hbs); replace HV := Lib.hid (HV.out.ext hbs); replace HB := Lib.hid (below_ext HB.out hbs); have B1 := HC; clear hbs HC HG HS_ HZ _h; clear T3; have T4 := Lib.hid (Nat.le_refl 4)))
 have HZ : Hid (CB (w2.alloc ZI) w2.heap.size 41 ZIc) := Lib.hid (cb_one w2 ZI _ _ rfl)
 go_upto_region 5 with (first
  | (have _g := T4.out; refine wpList_load_cs (by rfl) 23 (.tmp 4) rfl w.heap.size (stC z) rfl 23 _ HS.out Tryz.underlying23 rfl (by kernel_rfl) ?_; clear T4; have T5 := Lib.hid (Nat.le_refl 5))
  | (have _g := T5.out; refine wpList_load_cs (by rfl) 33 (.tmp 6) rfl (w.heap.size + 1) r.cells rfl 33 _ HR.out Tryz.underlying33 rfl (by kernel_rfl) ?_; clear T5; have T6 := Lib.hid (Nat.le_refl 6))
  | (have _g := T6.out; refine wpList_built (by rfl) 41 #[(0, .tmp 18), (1, .const (.int .i64 7)), (6, .tmp 19)] rfl ((pB z r).cells nilS) [(0, .agg (stC z).toArray), (1, .int .i64 7), (6, .agg r.cells.toArray)] rfl (by kernel_rfl) ?_; clear T6; have T7 := Lib.hid (Nat.le_refl 7))
  | (have _g := T7.out; have _h := HZ.out; refine wpList_store_cs rfl 41 (.tmp 10) (.tmp 20) rfl w2.heap.size ((pB z r).cells nilS) rfl rfl 41 ZIc HZ.out rfl (by kernel_rfl) (inpR_one (rd_B z r w)) (fun w3 HC HG HS_ => ?_); have hbs : Below w2.heap.size w2 w3 := (b_al (w := w2) ZI).grown HG.out (b_al (w := w2) ZI).size (fun q e => by injection e with e; omega); replace HS := Lib.hid (HS.out.ext hbs); replace HR := Lib.hid (HR.out.ext hbs); replace HQ := Lib.hid (HQ.out.ext hbs); replace HT := Lib.hid (HT.out.ext hbs); replace HV := Lib.hid (HV.out.ext hbs); replace B1 := Lib.hid (B1.out.ext hbs); replace HB := Lib.hid (below_ext HB.out hbs); have B2 := HC; clear hbs HC HG HS_ HZ _h; clear T7; have T8 := Lib.hid (Nat.le_refl 8)))
 have HZ : Hid (CB (w3.alloc ZI) w3.heap.size 41 ZIc) := Lib.hid (cb_one w3 ZI _ _ rfl)
 go_upto_region 6 with (first
  | (have _g := T8.out; refine wpList_load_cs (by rfl) 23 (.tmp 4) rfl w.heap.size (stC z) rfl 23 _ HS.out Tryz.underlying23 rfl (by kernel_rfl) ?_; clear T8; have T9 := Lib.hid (Nat.le_refl 9))
  | (have _g := T9.out; refine wpList_load_cs (by rfl) 37 (.tmp 7) rfl (w.heap.size + 2) (q.cells v2) rfl 37 _ HQ.out Tryz.underlying37 rfl (by kernel_rfl) ?_; clear T9; have T10 := Lib.hid (Nat.le_refl 10))
  | (have _g := T10.out; refine wpList_built (by rfl) 41 #[(0, .tmp 21), (1, .const (.int .i64 2)), (9, .tmp 22)] rfl ((pC z q).cells (sC v2)) [(0, .agg (stC z).toArray), (1, .int .i64 2), (9, .agg (q.cells v2).toArray)] rfl (by kernel_rfl) ?_; clear T10; have T11 := Lib.hid (Nat.le_refl 11))
  | (have _g := T11.out; have _h := HZ.out; refine wpList_store_cs rfl 41 (.tmp 11) (.tmp 23) rfl w3.heap.size ((pC z q).cells (sC v2)) rfl rfl 41 ZIc HZ.out rfl (by kernel_rfl) (inpR_one (rd_C HV.out)) (fun w4 HC HG HS_ => ?_); have hbs : Below w3.heap.size w3 w4 := (b_al (w := w3) ZI).grown HG.out (b_al (w := w3) ZI).size (fun q e => by injection e with e; omega); replace HS := Lib.hid (HS.out.ext hbs); replace HR := Lib.hid (HR.out.ext hbs); replace HQ := Lib.hid (HQ.out.ext hbs); replace HT := Lib.hid (HT.out.ext hbs); replace HV := Lib.hid (HV.out.ext hbs); replace B1 := Lib.hid (B1.out.ext hbs); replace B2 := Lib.hid (B2.out.ext hbs); replace HB := Lib.hid (below_ext HB.out hbs); have B3 := HC; clear hbs HC HG HS_ HZ _h; clear T11; have T12 := Lib.hid (Nat.le_refl 12)))
 go_wp2_with (first
  | (have _g := T12.out; refine wpList_load_cs (by rfl) 41 (.tmp 9) rfl w1.heap.size ((pA z l).cells (sA (.slice oa n cap))) rfl 41 _ B1.out Tryz.underlying41 rfl (by kernel_rfl) ?_; clear T12; have T13 := Lib.hid (Nat.le_refl 13))
  | (have _g := T13.out; go_at_call 12; refine (few_lit (rd_A HT.out) (Nat.zero_le _) (Nat.zero_le _) (Nat.zero_le _) HfA.out).mono ?_; go_loud (rintro e w5 ⟨rfl, hb⟩; replace HS := Lib.hid (HS.out.ext hb); replace HR := Lib.hid (HR.out.ext hb); replace HQ := Lib.hid (HQ.out.ext hb); replace HT := Lib.hid (HT.out.ext hb); replace HV := Lib.hid (HV.out.ext hb); replace B1 := Lib.hid (B1.out.ext hb); replace B2 := Lib.hid (B2.out.ext hb); replace B3 := Lib.hid (B3.out.ext hb); replace HB := Lib.hid (below_ext HB.out hb); clear hb; clear T13; have T14 := Lib.hid (Nat.le_refl 14)))
  | (have _g := T14.out; refine wpList_load_cs (by rfl) 41 (.tmp 10) rfl w2.heap.size ((pB z r).cells nilS) rfl 41 _ B2.out Tryz.underlying41 rfl (by kernel_rfl) ?_; clear T14; have T15 := Lib.hid (Nat.le_refl 15))
  | (have _g := T15.out; go_at_call 12; refine (few_lit (rd_B z r _) (Nat.zero_le _) (Nat.zero_le _) Hcl.out HfB.out).mono ?_; go_loud (rintro e w6 ⟨rfl, hb⟩; replace HS := Lib.hid (HS.out.ext hb); replace HR := Lib.hid (HR.out.ext hb); replace HQ := Lib.hid (HQ.out.ext hb); replace HT := Lib.hid (HT.out.ext hb); replace HV := Lib.hid (HV.out.ext hb); replace B1 := Lib.hid (B1.out.ext hb); replace B2 := Lib.hid (B2.out.ext hb); replace B3 := Lib.hid (B3.out.ext hb); replace HB := Lib.hid (below_ext HB.out hb); clear hb; clear T15; have T16 := Lib.hid (Nat.le_refl 16)))
  | (have _g := T16.out; refine wpList_load_cs (by rfl) 41 (.tmp 11) rfl w3.heap.size ((pC z q).cells (sC v2)) rfl 41 _ B3.out Tryz.underlying41 rfl (by kernel_rfl) ?_; clear T16; have T17 := Lib.hid (Nat.le_refl 17))
  | (have _g := T17.out; go_at_call 12; refine (few_lit (rd_C HV.out) (Nat.zero_le _) (Nat.zero_le _) (Nat.zero_le _) HfC.out).mono ?_; go_loud (rintro e w7 ⟨rfl, hb⟩; replace HS := Lib.hid (HS.out.ext hb); replace HR := Lib.hid (HR.out.ext hb); replace HQ := Lib.hid (HQ.out.ext hb); replace HT := Lib.hid (HT.out.ext hb); replace HV := Lib.hid (HV.out.ext hb); replace B1 := Lib.hid (B1.out.ext hb); replace B2 := Lib.hid (B2.out.ext hb); replace B3 := Lib.hid (B3.out.ext hb); replace HB := Lib.hid (below_ext HB.out hb); clear hb; clear T17; have T18 := Lib.hid (Nat.le_refl 18))))
 go_ret
 exact ⟨rfl, HB.out⟩
set_option maxRecDepth 100000 in
set_option maxHeartbeats 16000000 in
theorem prt3 (z : Inp) (l : List Nod) (oa : Option Addr) (n cap : Nat) (v2 : Value) (r : Rp) (q : Stn) (w : World) (hl : TreeAt w l (.slice oa n cap)) (hv : LsAt nuK w.heap.size w q.vols v2) (hcl : r.cl.size ≤ maxLen) (hL : Laid w) (fA : fewB (pA z l) = true) (fB : fewB (pB z r) = true) (fC : fewB (pC z q) = true) : Calls Tryz.prog 10 #[.agg (stC z).toArray, .slice oa n cap, .agg r.cells.toArray, .agg (q.cells v2).toArray] w (TrueP w) := by
 obtain ⟨E1, e1⟩ : ∃ e, (if treeB l then (0 : Int) else 180) = e := ⟨_, rfl⟩
 obtain ⟨E2, e2⟩ : ∃ e, (if repB 4 3 r then (0 : Int) else 220) = e := ⟨_, rfl⟩
 obtain ⟨E3, e3⟩ : ∃ e, (if staB 64 q.vols q.sh q.fa then (0 : Int) else 220) = e := ⟨_, rfl⟩
 have HO1 : Hid (okI (pA z l) = (stampB z && (E1 == 0))) := Lib.hid (by rw [ok_pA, ok_E (by decide) e1])
 have HO2 : Hid (okI (pB z r) = (stampB z && (E2 == 0))) := Lib.hid (by rw [ok_pB, ok_E (by decide) e2])
 have HO3 : Hid (okI (pC z q) = (stampB z && (E3 == 0))) := Lib.hid (by rw [ok_pC, ok_E (by decide) e3])
 have Hc9 : Hid (r.cl.size ≤ 9223372036854775807) := Lib.hid (by unfold maxLen at hcl; omega)
 have HE1 := Lib.hid e1; have HE2 := Lib.hid e2; have HE3 := Lib.hid e3
 clear e1 e2 e3
 have hb1 : Below w.heap.size w ((w.alloc (.cells (stC z).toArray 23)).alloc (.cells r.cells.toArray 33)) := (b_al (w := w) (.cells (stC z).toArray 23)).alloc (b_al (w := w) (.cells (stC z).toArray 23)).size _
 have hb0 : Below w.heap.size w (((w.alloc (.cells (stC z).toArray 23)).alloc (.cells r.cells.toArray 33)).alloc (.cells (q.cells v2).toArray 37)) := hb1.alloc hb1.size _
 have h3 := three_cb w 23 33 37 (stC z) r.cells (q.cells v2)
 have HS := Lib.hid h3.1; have HR := Lib.hid h3.2.1; have HQ := Lib.hid h3.2.2
 have HB := Lib.hid hb0; have HT := Lib.hid (hl.ext hb0); have HV := Lib.hid (hv.ext hb0); have Hcl := Lib.hid hcl; have HL := Lib.hid hL
 clear hb0 hb1 h3 hl hv hcl hL
 have hmf : ∀ (fn : Fn) (first cap : Array Value) (w : World), (Instr.makeFunc fn first cap).run Tryz.prog w = .ok (.func fn first cap) w := fun _ _ _ _ => rfl
 go_enter Tryz.func10, Tryz.ntmps10
 go_upto_region 1 with fail
 change Code.wp _ _ _ _ (((w.alloc (.cells (stC z).toArray 23)).alloc (.cells r.cells.toArray 33)).alloc (.cells (q.cells v2).toArray 37))
 generalize (((w.alloc (.cells (stC z).toArray 23)).alloc (.cells r.cells.toArray 33)).alloc (.cells (q.cells v2).toArray 37)) = w0 at *
 have HfA := Lib.hid fA; clear fA; have HfB := Lib.hid fB; clear fB; have HfC := Lib.hid fC; clear fC
 have T0 := Lib.hid (Nat.le_refl 0)
 go_upto_region 3 with (first
  | (have _g := T0.out; go_at_call 11; refine (sane49_any _ (HL.out.ext HB.out)).mono ?_; go_loud (rintro e w1 ⟨rfl, hb⟩; replace HS := Lib.hid (HS.out.ext hb); replace HR := Lib.hid (HR.out.ext hb); replace HQ := Lib.hid (HQ.out.ext hb); replace HT := Lib.hid (HT.out.ext hb); replace HV := Lib.hid (HV.out.ext hb); replace HB := Lib.hid (below_ext HB.out hb); have HZ : Hid (CB (w1.alloc ZI) w1.heap.size 41 ZIc) := Lib.hid (cb_one w1 ZI _ _ rfl); clear hb; clear T0; have T1 := Lib.hid (Nat.le_refl 1))))
 go_upto_region 4 with (first
  | (have _g := T1.out; refine wpList_load_cs (by rfl) 23 (.tmp 4) rfl w.heap.size (stC z) rfl 23 _ HS.out Tryz.underlying23 rfl (by kernel_rfl) ?_; clear T1; have T2 := Lib.hid (Nat.le_refl 2))
  | (have _g := T2.out; refine wpList_built (by rfl) 41 #[(0, .tmp 15), (1, .const (.int .i64 4)), (4, .tmp 16)] rfl ((pA z l).cells (sA (.slice oa n cap))) [(0, .agg (stC z).toArray), (1, .int .i64 4), (4, .slice oa n cap)] rfl (by kernel_rfl) ?_; clear T2; have T3 := Lib.hid (Nat.le_refl 3))
  | (have _g := T3.out; have _h := HZ.out; refine wpList_store_cs rfl 41 (.tmp 9) (.tmp 17) rfl w1.heap.size ((pA z l).cells (sA (.slice oa n cap))) rfl rfl 41 ZIc HZ.out rfl (by kernel_rfl) (inpR_one (rd_A HT.out)) (fun w2 HC HG HS_ => ?_); have hbs : Below w1.heap.size w1 w2 := (b_al (w := w1) ZI).grown HG.out (b_al (w := w1) ZI).size (fun q e => by injection e with e; omega); replace HS := Lib.hid (HS.out.ext hbs); replace HR := Lib.hid (HR.out.ext hbs); replace HQ := Lib.hid (HQ.out.ext hbs); replace HT := Lib.hid (HT.out.ext hbs); replace HV := Lib.hid (HV.out.ext hbs); replace HB := Lib.hid (below_ext HB.out hbs); have B1 := HC; clear hbs HC HG HS_ HZ _h; clear T3; have T4 := Lib.hid (Nat.le_refl 4)))
 have HZ : Hid (CB (w2.alloc ZI) w2.heap.size 41 ZIc) := Lib.hid (cb_one w2 ZI _ _ rfl)
 go_upto_region 5 with (first
  | (have _g := T4.out; refine wpList_load_cs (by rfl) 23 (.tmp 4) rfl w.heap.size (stC z) rfl 23 _ HS.out Tryz.underlying23 rfl (by kernel_rfl) ?_; clear T4; have T5 := Lib.hid (Nat.le_refl 5))
  | (have _g := T5.out; refine wpList_load_cs (by rfl) 33 (.tmp 6) rfl (w.heap.size + 1) r.cells rfl 33 _ HR.out Tryz.underlying33 rfl (by kernel_rfl) ?_; clear T5; have T6 := Lib.hid (Nat.le_refl 6))
  | (have _g := T6.out; refine wpList_built (by rfl) 41 #[(0, .tmp 18), (1, .const (.int .i64 7)), (6, .tmp 19)] rfl ((pB z r).cells nilS) [(0, .agg (stC z).toArray), (1, .int .i64 7), (6, .agg r.cells.toArray)] rfl (by kernel_rfl) ?_; clear T6; have T7 := Lib.hid (Nat.le_refl 7))
  | (have _g := T7.out; have _h := HZ.out; refine wpList_store_cs rfl 41 (.tmp 10) (.tmp 20) rfl w2.heap.size ((pB z r).cells nilS) rfl rfl 41 ZIc HZ.out rfl (by kernel_rfl) (inpR_one (rd_B z r w)) (fun w3 HC HG HS_ => ?_); have hbs : Below w2.heap.size w2 w3 := (b_al (w := w2) ZI).grown HG.out (b_al (w := w2) ZI).size (fun q e => by injection e with e; omega); replace HS := Lib.hid (HS.out.ext hbs); replace HR := Lib.hid (HR.out.ext hbs); replace HQ := Lib.hid (HQ.out.ext hbs); replace HT := Lib.hid (HT.out.ext hbs); replace HV := Lib.hid (HV.out.ext hbs); replace B1 := Lib.hid (B1.out.ext hbs); replace HB := Lib.hid (below_ext HB.out hbs); have B2 := HC; clear hbs HC HG HS_ HZ _h; clear T7; have T8 := Lib.hid (Nat.le_refl 8)))
 have HZ : Hid (CB (w3.alloc ZI) w3.heap.size 41 ZIc) := Lib.hid (cb_one w3 ZI _ _ rfl)
 go_upto_region 6 with (first
  | (have _g := T8.out; refine wpList_load_cs (by rfl) 23 (.tmp 4) rfl w.heap.size (stC z) rfl 23 _ HS.out Tryz.underlying23 rfl (by kernel_rfl) ?_; clear T8; have T9 := Lib.hid (Nat.le_refl 9))
  | (have _g := T9.out; refine wpList_load_cs (by rfl) 37 (.tmp 7) rfl (w.heap.size + 2) (q.cells v2) rfl 37 _ HQ.out Tryz.underlying37 rfl (by kernel_rfl) ?_; clear T9; have T10 := Lib.hid (Nat.le_refl 10))
  | (have _g := T10.out; refine wpList_built (by rfl) 41 #[(0, .tmp 21), (1, .const (.int .i64 2)), (9, .tmp 22)] rfl ((pC z q).cells (sC v2)) [(0, .agg (stC z).toArray), (1, .int .i64 2), (9, .agg (q.cells v2).toArray)] rfl (by kernel_rfl) ?_; clear T10; have T11 := Lib.hid (Nat.le_refl 11))
  | (have _g := T11.out; have _h := HZ.out; refine wpList_store_cs rfl 41 (.tmp 11) (.tmp 23) rfl w3.heap.size ((pC z q).cells (sC v2)) rfl rfl 41 ZIc HZ.out rfl (by kernel_rfl) (inpR_one (rd_C HV.out)) (fun w4 HC HG HS_ => ?_); have hbs : Below w3.heap.size w3 w4 := (b_al (w := w3) ZI).grown HG.out (b_al (w := w3) ZI).size (fun q e => by injection e with e; omega); replace HS := Lib.hid (HS.out.ext hbs); replace HR := Lib.hid (HR.out.ext hbs); replace HQ := Lib.hid (HQ.out.ext hbs); replace HT := Lib.hid (HT.out.ext hbs); replace HV := Lib.hid (HV.out.ext hbs); replace B1 := Lib.hid (B1.out.ext hbs); replace B2 := Lib.hid (B2.out.ext hbs); replace HB := Lib.hid (below_ext HB.out hbs); have B3 := HC; clear hbs HC HG HS_ HZ _h; clear T11; have T12 := Lib.hid (Nat.le_refl 12)))
 go_upto_region 9 with (first
  | (have _g := T12.out; refine wpList_load_cs (by rfl) 41 (.tmp 9) rfl w1.heap.size ((pA z l).cells (sA (.slice oa n cap))) rfl 41 _ B1.out Tryz.underlying41 rfl (by kernel_rfl) ?_; clear T12; have T13 := Lib.hid (Nat.le_refl 13))
  | (have _g := T13.out; go_at_call 12; refine (few_lit (rd_A HT.out) (Nat.zero_le _) (Nat.zero_le _) (Nat.zero_le _) HfA.out).mono ?_; go_loud (rintro e w5 ⟨rfl, hb⟩; replace HS := Lib.hid (HS.out.ext hb); replace HR := Lib.hid (HR.out.ext hb); replace HQ := Lib.hid (HQ.out.ext hb); replace HT := Lib.hid (HT.out.ext hb); replace HV := Lib.hid (HV.out.ext hb); replace B1 := Lib.hid (B1.out.ext hb); replace B2 := Lib.hid (B2.out.ext hb); replace B3 := Lib.hid (B3.out.ext hb); replace HB := Lib.hid (below_ext HB.out hb); clear hb; clear T13; have T14 := Lib.hid (Nat.le_refl 14)))
  | (have _g := T14.out; refine wpList_load_cs (by rfl) 41 (.tmp 10) rfl w2.heap.size ((pB z r).cells nilS) rfl 41 _ B2.out Tryz.underlying41 rfl (by kernel_rfl) ?_; clear T14; have T15 := Lib.hid (Nat.le_refl 15))
  | (have _g := T15.out; go_at_call 12; refine (few_lit (rd_B z r _) (Nat.zero_le _) (Nat.zero_le _) Hcl.out HfB.out).mono ?_; go_loud (rintro e w6 ⟨rfl, hb⟩; replace HS := Lib.hid (HS.out.ext hb); replace HR := Lib.hid (HR.out.ext hb); replace HQ := Lib.hid (HQ.out.ext hb); replace HT := Lib.hid (HT.out.ext hb); replace HV := Lib.hid (HV.out.ext hb); replace B1 := Lib.hid (B1.out.ext hb); replace B2 := Lib.hid (B2.out.ext hb); replace B3 := Lib.hid (B3.out.ext hb); replace HB := Lib.hid (below_ext HB.out hb); clear hb; clear T15; have T16 := Lib.hid (Nat.le_refl 16)))
  | (have _g := T16.out; refine wpList_load_cs (by rfl) 41 (.tmp 11) rfl w3.heap.size ((pC z q).cells (sC v2)) rfl 41 _ B3.out Tryz.underlying41 rfl (by kernel_rfl) ?_; clear T16; have T17 := Lib.hid (Nat.le_refl 17))
  | (have _g := T17.out; go_at_call 12; refine (few_lit (rd_C HV.out) (Nat.zero_le _) (Nat.zero_le _) (Nat.zero_le _) HfC.out).mono ?_; go_loud (rintro e w7 ⟨rfl, hb⟩; replace HS := Lib.hid (HS.out.ext hb); replace HR := Lib.hid (HR.out.ext hb); replace HQ := Lib.hid (HQ.out.ext hb); replace HT := Lib.hid (HT.out.ext hb); replace HV := Lib.hid (HV.out.ext hb); replace B1 := Lib.hid (B1.out.ext hb); replace B2 := Lib.hid (B2.out.ext hb); replace B3 := Lib.hid (B3.out.ext hb); replace HB := Lib.hid (below_ext HB.out hb); clear hb; clear T17; have T18 := Lib.hid (Nat.le_refl 18))))
 refine wp_region_late_drew (S := fun w' => CB w' w1.heap.size 41 ((pA z l).cells (sA (.slice oa n cap))) ∧ CB w' w2.heap.size 41 ((pB z r).cells nilS) ∧ CB w' w3.heap.size 41 ((pC z q).cells (sC v2)) ∧ CB w' w.heap.size 23 (stC z) ∧ CB w' (w.heap.size + 1) 33 (r.cells) ∧ CB w' (w.heap.size + 2) 37 (q.cells v2)) (late := fun _ => false) (by kernel_rfl) ⟨B1.out.ext (Below.refl w7.heap.size w7).drew, B2.out.ext (Below.refl w7.heap.size w7).drew, B3.out.ext (Below.refl w7.heap.size w7).drew, HS.out.ext (Below.refl w7.heap.size w7).drew, HR.out.ext (Below.refl w7.heap.size w7).drew, HQ.out.ext (Below.refl w7.heap.size w7).drew⟩ (fun hHeld => ?_)
 have hdr := (Below.refl w7.heap.size w7).drew
 replace HS := Lib.hid (HS.out.ext hdr); replace HR := Lib.hid (HR.out.ext hdr); replace HQ := Lib.hid (HQ.out.ext hdr); replace HT := Lib.hid (HT.out.ext hdr); replace HV := Lib.hid (HV.out.ext hdr); replace B1 := Lib.hid (B1.out.ext hdr); replace B2 := Lib.hid (B2.out.ext hdr); replace B3 := Lib.hid (B3.out.ext hdr); replace HB := Lib.hid (below_ext HB.out hdr)
 clear hdr
 generalize w7.drew = W1 at *
 refine tkL (some 38) 0 ?_ (hy := fun wS hSw => by (obtain ⟨s1, s2, s3, s4, s5, s6⟩ := hSw); go_simp; first | done | with_reducible rfl)
 refine tkLy (some 39) 1 rfl (.agg ((pA z l).cells (sA (.slice oa n cap))).toArray) (yieldsIf_load_mid (by rfl) 41 _ rfl w1.heap.size 0 rfl ((pA z l).cells (sA (.slice oa n cap))) _ (fun wS hSw => cb_rng0 hSw.1) Tryz.underlying41 rfl (by kernel_rfl)) ?_
 refine tkL (some 40) 2 ?_ (hy := fun wS hSw => by (obtain ⟨s1, s2, s3, s4, s5, s6⟩ := hSw); go_simp; first | done | with_reducible rfl)
 refine rdL 3 fun K hK => ?_
 go_simp
 go_at_call 30
 refine (fc_lit HT.out HE1.out).mono ?_
 rintro e W2 ⟨rfl, hb⟩
 replace HS := Lib.hid (HS.out.ext hb); replace HR := Lib.hid (HR.out.ext hb); replace HQ := Lib.hid (HQ.out.ext hb); replace HT := Lib.hid (HT.out.ext hb); replace HV := Lib.hid (HV.out.ext hb); replace B1 := Lib.hid (B1.out.ext hb); replace B2 := Lib.hid (B2.out.ext hb); replace B3 := Lib.hid (B3.out.ext hb); replace HB := Lib.hid (below_ext HB.out hb)
 clear hb
 refine goLc hK ⟨B1.out, B2.out, B3.out, HS.out, HR.out, HQ.out⟩ fun hHeld => ?_
 clear hK K
 refine rdL 4 fun K hK => ?_
 go_simp
 refine (part49 (pA z l) z (sA (.slice oa n cap)) E1 w.heap.size _ (rd_A HT.out) HS.out (Nat.zero_le _) (Nat.zero_le _) (Nat.zero_le _) HO1.out).mono ?_
 rintro e W3 ⟨rfl, hb⟩
 replace HS := Lib.hid (HS.out.ext hb); replace HR := Lib.hid (HR.out.ext hb); replace HQ := Lib.hid (HQ.out.ext hb); replace HT := Lib.hid (HT.out.ext hb); replace HV := Lib.hid (HV.out.ext hb); replace B1 := Lib.hid (B1.out.ext hb); replace B2 := Lib.hid (B2.out.ext hb); replace B3 := Lib.hid (B3.out.ext hb); replace HB := Lib.hid (below_ext HB.out hb)
 clear hb
 refine goLc hK ⟨B1.out, B2.out, B3.out, HS.out, HR.out, HQ.out⟩ fun hHeld => ?_
 clear hK K
 refine tkL (some 43) 5 ?_ (hy := fun wS hSw => by (obtain ⟨s1, s2, s3, s4, s5, s6⟩ := hSw); go_simp; first | done | with_reducible rfl)
 refine tkL (some 44) 6 ?_ (hy := fun wS hSw => by (obtain ⟨s1, s2, s3, s4, s5, s6⟩ := hSw); go_simp; first | done | with_reducible rfl)
 refine tkLy (some 45) 7 rfl (.agg ((pB z r).cells nilS).toArray) (yieldsIf_load_mid (by rfl) 41 _ rfl w2.heap.size 0 rfl ((pB z r).cells nilS) _ (fun wS hSw => cb_rng0 hSw.2.1) Tryz.underlying41 rfl (by kernel_rfl)) ?_
 refine tkLy (some 46) 8 rfl (.agg (r.cells).toArray) (yieldsIf_load_mid (by rfl) 33 _ rfl (w.heap.size + 1) 0 rfl (r.cells) _ (fun wS hSw => cb_rng0 hSw.2.2.2.2.1) Tryz.underlying33 rfl (by kernel_rfl)) ?_
 refine rdL 9 fun K hK => ?_
 go_simp
 go_at_call 31
 refine (rc_lit _ Hc9.out HE2.out).mono ?_
 rintro e W4 ⟨rfl, hb⟩
 replace HS := Lib.hid (HS.out.ext hb); replace HR := Lib.hid (HR.out.ext hb); replace HQ := Lib.hid (HQ.out.ext hb); replace HT := Lib.hid (HT.out.ext hb); replace HV := Lib.hid (HV.out.ext hb); replace B1 := Lib.hid (B1.out.ext hb); replace B2 := Lib.hid (B2.out.ext hb); replace B3 := Lib.hid (B3.out.ext hb); replace HB := Lib.hid (below_ext HB.out hb)
 clear hb
 refine goLc hK ⟨B1.out, B2.out, B3.out, HS.out, HR.out, HQ.out⟩ fun hHeld => ?_
 clear hK K
 refine rdL 10 fun K hK => ?_
 go_simp
 refine (part49 (pB z r) z nilS E2 w.heap.size _ (rd_B z r _) HS.out (Nat.zero_le _) (Nat.zero_le _) Hc9.out HO2.out).mono ?_
 rintro e W5 ⟨rfl, hb⟩
 replace HS := Lib.hid (HS.out.ext hb); replace HR := Lib.hid (HR.out.ext hb); replace HQ := Lib.hid (HQ.out.ext hb); replace HT := Lib.hid (HT.out.ext hb); replace HV := Lib.hid (HV.out.ext hb); replace B1 := Lib.hid (B1.out.ext hb); replace B2 := Lib.hid (B2.out.ext hb); replace B3 := Lib.hid (B3.out.ext hb); replace HB := Lib.hid (below_ext HB.out hb)
 clear hb
 refine goLc hK ⟨B1.out, B2.out, B3.out, HS.out, HR.out, HQ.out⟩ fun hHeld => ?_
 clear hK K
 refine tkL (some 49) 11 ?_ (hy := fun wS hSw => by (obtain ⟨s1, s2, s3, s4, s5, s6⟩ := hSw); go_simp; first | done | with_reducible rfl)
 refine tkL (some 50) 12 ?_ (hy := fun wS hSw => by (obtain ⟨s1, s2, s3, s4, s5, s6⟩ := hSw); go_simp; first | done | with_reducible rfl)
 refine tkL (some 51) 13 ?_ (hy := fun wS hSw => by (obtain ⟨s1, s2, s3, s4, s5, s6⟩ := hSw); go_simp; first | done | with_reducible rfl)
 refine tkLy (some 52) 14 rfl (.agg ((pC z q).cells (sC v2)).toArray) (yieldsIf_load_mid (by rfl) 41 _ rfl w3.heap.size 0 rfl ((pC z q).cells (sC v2)) _ (fun wS hSw => cb_rng0 hSw.2.2.1) Tryz.underlying41 rfl (by kernel_rfl)) ?_
 refine tkLy (some 53) 15 rfl (.agg (q.cells v2).toArray) (yieldsIf_load_mid (by rfl) 37 _ rfl (w.heap.size + 2) 0 rfl (q.cells v2) _ (fun wS hSw => cb_rng0 hSw.2.2.2.2.2) Tryz.underlying37 rfl (by kernel_rfl)) ?_
 refine rdL 16 fun K hK => ?_
 go_simp
 go_at_call 32
 refine (rs_lit HV.out HE3.out).mono ?_
 rintro e W6 ⟨rfl, hb⟩
 replace HS := Lib.hid (HS.out.ext hb); replace HR := Lib.hid (HR.out.ext hb); replace HQ := Lib.hid (HQ.out.ext hb); replace HT := Lib.hid (HT.out.ext hb); replace HV := Lib.hid (HV.out.ext hb); replace B1 := Lib.hid (B1.out.ext hb); replace B2 := Lib.hid (B2.out.ext hb); replace B3 := Lib.hid (B3.out.ext hb); replace HB := Lib.hid (below_ext HB.out hb)
 clear hb
 refine goLc hK ⟨B1.out, B2.out, B3.out, HS.out, HR.out, HQ.out⟩ fun hHeld => ?_
 clear hK K
 refine rdL 17 fun K hK => ?_
 go_simp
 refine (part49 (pC z q) z (sC v2) E3 w.heap.size _ (rd_C HV.out) HS.out (Nat.zero_le _) (Nat.zero_le _) (Nat.zero_le _) HO3.out).mono ?_
 rintro e W7 ⟨rfl, hb⟩
 replace HS := Lib.hid (HS.out.ext hb); replace HR := Lib.hid (HR.out.ext hb); replace HQ := Lib.hid (HQ.out.ext hb); replace HT := Lib.hid (HT.out.ext hb); replace HV := Lib.hid (HV.out.ext hb); replace B1 := Lib.hid (B1.out.ext hb); replace B2 := Lib.hid (B2.out.ext hb); replace B3 := Lib.hid (B3.out.ext hb); replace HB := Lib.hid (below_ext HB.out hb)
 clear hb
 refine goLc hK ⟨B1.out, B2.out, B3.out, HS.out, HR.out, HQ.out⟩ fun hHeld => ?_
 clear hK K
 refine tkL (some 56) 18 ?_ (hy := fun wS hSw => by (obtain ⟨s1, s2, s3, s4, s5, s6⟩ := hSw); go_simp; first | done | with_reducible rfl)
 refine tkL (some 57) 19 ?_ (hy := fun wS hSw => by (obtain ⟨s1, s2, s3, s4, s5, s6⟩ := hSw); go_simp; first | done | with_reducible rfl)
 refine tkL (some 58) 20 ?_ (hy := fun wS hSw => by (obtain ⟨s1, s2, s3, s4, s5, s6⟩ := hSw); go_simp; first | done | with_reducible rfl)
 refine tkLy (some 59) 21 rfl (.agg (stC z).toArray) (yieldsIf_load_mid (by rfl) 23 _ rfl w.heap.size 0 rfl (stC z) _ (fun wS hSw => cb_rng0 hSw.2.2.2.1) Tryz.underlying23 rfl (by kernel_rfl)) ?_
 refine tkLy (some 60) 22 rfl (.agg ((pZ z 10).cells nilS).toArray) (yields_built (by rfl) 41 #[(0, .tmp 59), (1, .const (.int .i64 10))] rfl ((pZ z 10).cells nilS) [(0, .agg (stC z).toArray), (1, .int .i64 10)] rfl (by kernel_rfl)) ?_
 refine rdL 23 fun K hK => ?_
 go_simp
 refine (part49 (pZ z 10) z nilS 0 w.heap.size _ (rd_D z _) HS.out (Nat.zero_le _) (Nat.zero_le _) (Nat.zero_le _) (ok_pD z)).mono ?_
 rintro e W8 ⟨rfl, hb⟩
 replace HS := Lib.hid (HS.out.ext hb); replace HR := Lib.hid (HR.out.ext hb); replace HQ := Lib.hid (HQ.out.ext hb); replace HT := Lib.hid (HT.out.ext hb); replace HV := Lib.hid (HV.out.ext hb); replace B1 := Lib.hid (B1.out.ext hb); replace B2 := Lib.hid (B2.out.ext hb); replace B3 := Lib.hid (B3.out.ext hb); replace HB := Lib.hid (below_ext HB.out hb)
 clear hb
 refine goLc hK ⟨B1.out, B2.out, B3.out, HS.out, HR.out, HQ.out⟩ fun hHeld => ?_
 clear hK K
 refine tkL (some 62) 24 ?_ (hy := fun wS hSw => by (obtain ⟨s1, s2, s3, s4, s5, s6⟩ := hSw); go_simp; first | done | with_reducible rfl)
 refine tkL (some 8) 25 ?_ (hy := fun wS hSw => by (obtain ⟨s1, s2, s3, s4, s5, s6⟩ := hSw); go_simp; first | done | with_reducible rfl)
 refine wpAnyL_done (by kernel_rfl) ?_ _
 go_wp2_with fail
 go_ret
 exact ⟨rfl, HB.out⟩
theorem lawparts_any (z : Inp) (l : List Nod) (oa : Option Addr) (n cap : Nat) (v2 : Value) (r : Rp) (q : Stn) (w : World) (hl : TreeAt w l (.slice oa n cap)) (hv : LsAt nuK w.heap.size w q.vols v2) (hcl : r.cl.size ≤ maxLen) (hL : Laid w) : Calls Tryz.prog 10 #[.agg (stC z).toArray, .slice oa n cap, .agg r.cells.toArray, .agg (q.cells v2).toArray] w (TrueP w) := by
 cases fA : fewB (pA z l) with
 | false => exact prt0 z l oa n cap v2 r q w hl hv hcl hL fA
 | true =>
  cases fB : fewB (pB z r) with
  | false => exact prt1 z l oa n cap v2 r q w hl hv hcl hL fA fB
  | true =>
   cases fC : fewB (pC z q) with
   | false => exact prt2 z l oa n cap v2 r q w hl hv hcl hL fA fB fC
   | true => exact prt3 z l oa n cap v2 r q w hl hv hcl hL fA fB fC
end Go.Proofs.YtdblnbnofjggnaaGreatDoor
