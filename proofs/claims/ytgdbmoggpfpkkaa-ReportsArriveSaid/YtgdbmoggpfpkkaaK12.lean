/- Merged: Rsq Rsn Opb Opr. -/
import Derived.Test.YtgdbmoggpfpkkaaK01
import Derived.Test.YtgdbmoggpfpkkaaK06
import Derived.Test.YtgdbmoggpfpkkaaK11
import Derived.Deep.QuietTactic
import Derived.BigQuiet
import Derived.Deep.Slices
import Derived.WideShapes
import Derived.ChangeArms
import Derived.Carry
import Derived.ProofKit
import Derived.ChangeSame
/- the reference: Station. -/
namespace Go.Proofs.Ytgdbmoggpfpkkaa
open Go.RowKit
theorem in_still (n a b : Int) (t : Bool) (h : Hid (badL (n, a, b) = t)) (w : World) : Calls Try.prog 28 #[.int .i64 n, .int .i64 a, .int .i64 b] w fun e w' => e = .returned (.bool (!t)) ∧ w' = w :=
  (in_any n a b w).mono fun _ _ q => ⟨by rw [← h.out]; exact q.1, q.2.symm⟩
theorem below_drewN' {B : Nat} {w0 w : World} (h : Below B w0 w) (n : Nat) : Below B w0 (w.drewN n) := h.trans ⟨rfl, rfl, rfl, Nat.le_refl _, fun _ _ => rfl⟩
/-- the reference's round: all before are fine, and x is the one before -/
def SqRel (vol : Int) (l : List Int) (w : World) (i : Value) (wr : World) : Prop :=
  ∃ (k n : Nat) (x : Int), k ≤ l.length ∧ i = .int .i64 k ∧ incF (-1) vol l = incF x vol (l.drop k) ∧ (k = 0 → x = -1) ∧ (∀ j, k = j + 1 → l[j]? = some x ∧ 0 ≤ x) ∧ wr = w.drewN n
theorem sq_drewN {vol : Int} {l : List Int} {w wr : World} {i : Value} (h : SqRel vol l w i wr) (q : Nat) : SqRel vol l w i (wr.drewN q) := by
  obtain ⟨k, n, x, h1, h2, h3, h4, h5, rfl⟩ := h
  exact ⟨k, n + q, x, h1, h2, h3, h4, h5, by rw [World.drewN_drewN]⟩
theorem sq_next {vol : Int} {l : List Int} {w wr : World} (k n : Nat) (y : Int) (hk : k + 1 ≤ l.length) (hi : incF (-1) vol l = incF y vol (l.drop (k + 1))) (hy : l[k]? = some y) (h0 : 0 ≤ y) (hw : wr = w.drewN n) : SqRel vol l w (.int .i64 ((k + 1 : Nat) : Int)) wr := by
  refine ⟨k + 1, n, y, hk, rfl, hi, fun h => by omega, fun j h => ?_, hw⟩
  obtain rfl : j = k := by omega
  exact ⟨hy, h0⟩
theorem sq_val {vol : Int} {l : List Int} {w wr : World} {i i' : Value} (h : SqRel vol l w i wr) (e : i' = i) : SqRel vol l w i' wr := e ▸ h
set_option maxRecDepth 100000 in
set_option maxHeartbeats 4000000 in
theorem rstation_any (vol m1 sh fa : Int) (l : List Int) (v : Value) (w : World) (hm : IntKind.i64.wrap (vol - 1) = m1) (hl : IntsAt w.heap.size w l v) :
    Calls Try.prog 16 #[.int .i64 vol, .agg #[v, .int .i64 sh, .int .i64 fa]] w (ChkR (staB vol l sh fa) w) := by
  obtain ⟨oa, cap, rfl, hlm⟩ := hl.shape
  have HI := Lib.hid hl
  have bl : (l.length : Int) ≤ 9223372036854775807 := by omega
  have Hm := Lib.hid hm
  clear hl hlm hm
  obtain ⟨t0, h0⟩ : ∃ t, badL (vol, 1, 64) = t := ⟨_, rfl⟩
  obtain ⟨t1, h1⟩ : ∃ t, badL (sh, 0, 3) = t := ⟨_, rfl⟩
  obtain ⟨t2, h2⟩ : ∃ t, badL (fa, 0, 3) = t := ⟨_, rfl⟩
  have hfin : Hid (staB vol l sh fa = ((!(t0 || t1 || t2) && !l.isEmpty) && incF (-1) vol l)) := by
    show _ = _
    unfold staB limsS
    simp only [List.any_cons, List.any_nil, h0, h1, h2]
    cases t0 <;> cases t1 <;> cases t2 <;> rfl
  have H0 := Lib.hid h0; have H1 := Lib.hid h1; have H2 := Lib.hid h2
  clear h0 h1 h2
  have hcb0 : Hid (CB (w.alloc (.cells #[.slice oa l.length cap, .int .i64 sh, .int .i64 fa] 26)) w.heap.size 26 [.slice oa l.length cap, .int .i64 sh, .int .i64 fa]) := CB.new w _ _
  have hb0 := Lib.hid ((Below.refl w.heap.size w).alloc (Nat.le_refl _) (.cells #[.slice oa l.length cap, .int .i64 sh, .int .i64 fa] 26))
  go_enter Try.func16, Try.ntmps16
  go_upto_region 1 with fail
  generalize w.alloc (.cells #[.slice oa l.length cap, .int .i64 sh, .int .i64 fa] 26) = w0 at *
  have c0 : w0.cell? ⟨w.heap.size, 0, none⟩ = some (.slice oa l.length cap) := hcb0.out.cell 0
  have c1 : w0.cell? ⟨w.heap.size, 1, none⟩ = some (.int .i64 sh) := hcb0.out.cell 1
  have c2 : w0.cell? ⟨w.heap.size, 2, none⟩ = some (.int .i64 fa) := hcb0.out.cell 2
  go_wp2_with fail
  refine (in_any vol 1 64 _).mono ?_
  rw [H0.out]
  rintro e w2 ⟨rfl, rfl⟩
  cases t0
  case true =>
    go_wp2_with fail
    go_ret
    exact ⟨by rw [hfin.out]; simp, hb0.out⟩
  have hm1 : m1 = vol - 1 := by
    have h := H0.out
    unfold badL at h
    simp at h
    rw [← Hm.out, IntWalk.i64_in _ (by omega)]
  have Hvol : Hid (1 ≤ vol ∧ vol ≤ 64) := by
    have h := H0.out
    unfold badL at h
    simp at h
    show _ ∧ _
    omega
  have HM1 := Lib.hid hm1
  clear hm1
  by_cases hz : l.length = 0
  · have Hf : Hid (staB vol l sh fa = false) := by
      show _ = _
      rw [List.eq_nil_of_length_eq_zero hz] at hfin ⊢; rw [hfin.out]; simp
    have k0 : ((l.length : Int) == 0) = true := by rw [hz]; rfl
    clear hz
    go_wp2_with fail
    go_ret
    exact ⟨by rw [Hf.out]; rfl, hb0.out⟩
  have k0 : ((l.length : Int) == 0) = false := by rw [beq_eq_false_iff_ne]; omega
  have hemp : l.isEmpty = false := by cases l <;> simp_all
  have Hemp := Lib.hid hemp
  clear hz hemp
  go_wp2_with fail
  refine (in_any sh 0 3 _).mono ?_
  rw [H1.out]
  rintro e w2 ⟨rfl, rfl⟩
  cases t1
  case true =>
    go_wp2_with fail
    go_ret
    exact ⟨by rw [hfin.out]; simp, hb0.out⟩
  go_wp2_with fail
  refine (in_any fa 0 3 _).mono ?_
  rw [H2.out]
  rintro e w2 ⟨rfl, rfl⟩
  cases t2
  case true =>
    go_wp2_with fail
    go_ret
    exact ⟨by rw [hfin.out]; simp, hb0.out⟩
  have Hf : Hid (staB vol l sh fa = incF (-1) vol l) := by show _ = _; rw [hfin.out, Hemp.out]; simp
  have e1 : IntKind.i64.wrap (vol - 1) = m1 := Hm.out
  clear hfin
  go_wp2_with fail
  clear c0 c1 c2 k0 e1
  go_loopw [5] (fun i wr => SqRel vol l w0 i wr) (fun i _ => l.length - (intOf i).toNat)
  case atStart => exact ⟨0, 0, -1, by omega, rfl, rfl, fun _ => rfl, fun j h => by omega, rfl⟩
  case round =>
    obtain ⟨k, n, x, hk, rfl, hi, hx0, hx1, rfl⟩ := hrel
    have HIn := Lib.hid hi; have HX0 := Lib.hid hx0; have HX1 := Lib.hid hx1
    clear hi hx0 hx1
    have c0 : (w0.drewN n).cell? ⟨w.heap.size, 0, none⟩ = some (.slice oa l.length cap) := hcb0.out.cell 0
    have hbn := Lib.hid (below_drewN' hb0.out n)
    by_cases hlt : k < l.length
    · have tj : decide ((k : Int) < (l.length : Int)) = true := by simp; omega
      have tj' : decide (k < l.length) = true := by simp; omega
      obtain ⟨y, hy⟩ : ∃ y, l[k]? = some y := ⟨_, List.getElem?_eq_getElem hlt⟩
      have hnn : ¬ l = [] := by rintro rfl; simp at hlt
      have hdr := Lib.hid (idrop_at hy)
      obtain ⟨b, off, rfl, hcell⟩ : ∃ b off, oa = some ⟨b, off, none⟩ ∧ ∀ j z, l[j]? = some z → (w0.drewN n).cell? ⟨b, off + j, none⟩ = some (.int .i64 z) := by
        rcases HI.out.ext hbn.out with ⟨h, _⟩ | ⟨b, off, cp, h1, _, _, _, h5⟩
        · exact absurd h hnn
        · injection h1 with h1 _ _
          exact ⟨b, off, h1, h5⟩
      have d0 := hcell k y hy
      have HC := Lib.hid hcell
      have HC0 := Lib.hid hy
      clear hy hnn hcell
      obtain ⟨s0, g0⟩ : ∃ t, badL (y, 0, m1) = t := ⟨_, rfl⟩
      have G0 := Lib.hid g0
      obtain ⟨s1, g1⟩ : ∃ t, decide (y ≤ x) = t := ⟨_, rfl⟩
      obtain ⟨s2, g2⟩ : ∃ t, decide (vol ≤ y) = t := ⟨_, rfl⟩
      have hst : Hid (incF (-1) vol l = (!(s1 || s2) && incF y vol (l.drop (k + 1)))) := by
        show _ = _
        rw [HIn.out, hdr.out, incF, g1, g2]
      have hs : Hid (s0 = (decide (y < 0) || s2)) := by
        show _ = _
        rw [← g0, ← g2]; unfold badL; rw [HM1.out, Bool.eq_iff_iff]; simp; omega
      have G1 := Lib.hid g1
      have e1 : IntKind.i64.wrap (vol - 1) = m1 := Hm.out
      clear g0 g1 g2
      generalize hwn : w0.drewN n = w5 at *
      have Hwn := Lib.hid hwn
      clear hwn
      cases s0
      case true =>
        have hbad : Hid (incF (-1) vol l = false) := by
          show _ = _
          rw [hst.out]
          have h1 := hs.out; have h2 := G1.out
          cases s2
          · simp at h1
            have : s1 = true := by
              rw [← h2]; simp
              by_cases hk0 : k = 0
              · rw [HX0.out hk0]; omega
              · obtain ⟨_, h⟩ := HX1.out (k - 1) (by omega); omega
            rw [this]; rfl
          · cases s1 <;> rfl
        go_wp2_with fail
        go_quiet ((go_at_call 28; exact Calls.quiet_of_same (in_still y 0 m1 true G0 _)))
        go_wp2
        go_ret
        exact ⟨by rw [Hf.out, hbad.out]; rfl, below_drewN' hbn.out _⟩
      case false =>
        have hs2 : s2 = false ∧ 0 ≤ y := by
          have h1 := hs.out
          cases s2
          · simp at h1; exact ⟨rfl, h1⟩
          · simp at h1
        obtain ⟨rfl, hy0⟩ := hs2
        have Hy0 := Lib.hid hy0
        clear hy0
        by_cases hk0 : k = 0
        · subst hk0
          have hs1 : s1 = false := by rw [← G1.out, HX0.out rfl]; simp; have := Hy0.out; omega
          subst hs1
          have hrel' : Hid (SqRel vol l w0 (.int .i64 ((1 : Nat) : Int)) w5) := by
            exact sq_next 0 n y (by omega) (by rw [hst.out]; rfl) HC0.out Hy0.out Hwn.out.symm
          have d00 : w5.cell? ⟨b, off, none⟩ = some (.int .i64 y) := d0
          have hpos : (0 : Int) < (l.length : Int) := by omega
          have hpos' : decide ((0 : Int) < (l.length : Int)) = true := by simp; omega
          go_wp2_with fail
          go_quiet ((go_at_call 28; exact Calls.quiet_of_same (in_still y 0 m1 false G0 _)))
          go_wp2
          go_roundw
          case rel =>
            have h := sq_drewN hrel'.out nq
            exact h
          case measure => simp [intOf]; omega
        · obtain ⟨j, hj⟩ : ∃ j, k = j + 1 := ⟨k - 1, by omega⟩
          obtain ⟨hx, hx0⟩ := HX1.out j hj
          have d1 := HC.out j x hx
          have e2 : IntKind.i64.wrap ((k : Int) - 1) = (j : Int) := by rw [IntWalk.i64_in _ (by omega)]; omega
          have tk : decide ((0 : Int) < (k : Int)) = true := by simp; omega
          have tk2 : decide (0 < k) = true := by simp; omega
          have tjj : decide ((j : Int) < (l.length : Int)) = true := by simp; omega
          have tjj' : (j : Int) < (l.length : Int) := by omega
          have tkk' : (k : Int) < (l.length : Int) := by omega
          have g1 := G1.out
          have Hx0 := Lib.hid hx0; have Hj := Lib.hid hj
          clear hx hx0 hk0 hj
          cases s1
          case true =>
            have hbad : Hid (incF (-1) vol l = false) := by show _ = _; rw [hst.out]; rfl
            go_wp2_with fail
            go_quiet ((go_at_call 28; exact Calls.quiet_of_same (in_still y 0 m1 false G0 _)))
            go_wp2
            go_ret
            exact ⟨by rw [Hf.out, hbad.out]; rfl, below_drewN' hbn.out _⟩
          case false =>
            have hrel' : Hid (SqRel vol l w0 (.int .i64 ((k + 1 : Nat) : Int)) w5) := by
              exact sq_next k n y (by omega) (by rw [hst.out]; rfl) HC0.out Hy0.out Hwn.out.symm
            go_wp2_with fail
            go_quiet ((go_at_call 28; exact Calls.quiet_of_same (in_still y 0 m1 false G0 _)))
            go_wp2
            go_roundw
            case rel =>
              have h := sq_drewN hrel'.out nq
              exact sq_val h (by go_num)
            case measure => simp [intOf]; omega
    · obtain rfl : k = l.length := by omega
      have tj : decide ((l.length : Int) < (l.length : Int)) = false := by simp
      have hend : Hid (incF (-1) vol l = true) := by show _ = _; rw [HIn.out, List.drop_of_length_le (Nat.le_refl _)]; rfl
      go_wp2_with fail
      go_ret
      exact ⟨by rw [Hf.out, hend.out]; rfl, hbn.out⟩
end Go.Proofs.Ytgdbmoggpfpkkaa
/- chapter 22's sane. -/
namespace Go.Proofs.Ytgdbmoggpfpkkaa
open Go.RowKit
def sr0 : Rp := ⟨1, 5, 60, 70, ⟨#[88, 49]⟩, 3⟩
def sr1 : Rp := ⟨1, 5, 60, 70, ⟨#[88, 49]⟩, 4⟩
theorem sn_rep0 : repB 4 3 sr0 = true := by decide +kernel
theorem sn_rep1 : repB 4 3 sr1 = true := by decide +kernel
theorem sn_add0 : addX [] sr0 = ([sr0], 0) := by
  have := addX_6 (l := []) (r := sr0) (by decide +kernel) sn_rep0 rfl (by simp)
  exact this
theorem sn_col : colB [sr0] = true := by decide +kernel
theorem sn_add1 : addX [sr0] sr0 = ([sr0], 0) := addX_3 sn_col sn_rep0 (by decide +kernel) (by decide +kernel)
theorem sn_add2 : addX [sr0] sr1 = ([], 220) := addX_4 sn_col sn_rep1 (by decide +kernel) (by decide +kernel)
theorem sn_enc : encR sr0 = enc (repV sr0) := by unfold encR; rw [sn_rep0]; rfl
theorem sn_dec : decR (enc (repV sr0)) = (some sr0, 0) := decR_enc sn_rep0
theorem sn_dec0 : decR [] = (none, 10) := decR_code (by decide +kernel)
theorem sn_c2 : repB 2 1 sr0 = true := by decide +kernel
theorem sn_c1 : repB 1 0 sr0 = false := by decide +kernel
theorem sn_c0 : repB 0 (-1) sr0 = false := by decide +kernel
theorem sn_s1 : staB 1 [0] 3 3 = true := by decide +kernel
theorem sn_s0 : staB 1 [] 0 0 = false := by decide +kernel
theorem sn_len : (enc (repV sr0)).length ≤ 1000000 := by decide +kernel
theorem rps_one {w : World} {g : Nat} {r : Rp} (h : CB w g 23 r.cells) : RpsAt w.heap.size w [r] (.slice (some ⟨g, 0, none⟩) 1 1) := by
  refine .inr ⟨g, 0, 1, rfl, Nat.le_refl _, by unfold maxLen; omega, h.lt, fun j x hj => ?_⟩
  cases j with
  | zero => simp at hj; subst hj; exact RpAt.of_cb h
  | succ j => simp at hj
theorem ints_one {w : World} {g : Nat} {t : TypeId} {n : Int} (h : CB w g t [.int .i64 n]) : IntsAt w.heap.size w [n] (.slice (some ⟨g, 0, none⟩) 1 1) := by
  refine .inr ⟨g, 0, 1, rfl, Nat.le_refl _, by unfold maxLen; omega, h.lt, fun j x hj => ?_⟩
  cases j with
  | zero => simp at hj; subst hj; exact h.cell 0
  | succ j => simp at hj
theorem chk_ok (m m1 : Int) (r : Rp) (w : World) (hm : IntKind.i64.wrap (m - 1) = m1) (hs : r.cl.size ≤ 9223372036854775807) (h : repB m m1 r = true) : Calls Try.prog 13 #[.int .i64 m, r.v] w fun e w' => e = .returned (.int .i64 0) ∧ Below w.heap.size w w' :=
  (check22_any m m1 r w hm hs).mono fun _ _ q => ⟨by rw [q.1, h]; rfl, q.2⟩
theorem chk_no (m m1 : Int) (r : Rp) (w : World) (hm : IntKind.i64.wrap (m - 1) = m1) (hs : r.cl.size ≤ 9223372036854775807) (h : repB m m1 r = false) : Calls Try.prog 13 #[.int .i64 m, r.v] w fun e w' => e = .returned (.int .i64 220) ∧ Below w.heap.size w w' :=
  (check22_any m m1 r w hm hs).mono fun _ _ q => ⟨by rw [q.1, h]; rfl, q.2⟩
theorem sta_ok (vol sh fa : Int) (l : List Int) (v : Value) (w : World) (hl : IntsAt w.heap.size w l v) (h : staB vol l sh fa = true) : Calls Try.prog 15 #[.int .i64 vol, .agg #[v, .int .i64 sh, .int .i64 fa]] w fun e w' => e = .returned (.int .i64 0) ∧ Below w.heap.size w w' :=
  (station_any vol sh fa l v w hl).mono fun _ _ q => ⟨by rw [q.1, h]; rfl, q.2⟩
theorem sta_no (vol sh fa : Int) (l : List Int) (v : Value) (w : World) (hl : IntsAt w.heap.size w l v) (h : staB vol l sh fa = false) : Calls Try.prog 15 #[.int .i64 vol, .agg #[v, .int .i64 sh, .int .i64 fa]] w fun e w' => e = .returned (.int .i64 220) ∧ Below w.heap.size w w' :=
  (station_any vol sh fa l v w hl).mono fun _ _ q => ⟨by rw [q.1, h]; rfl, q.2⟩
theorem AddPost.as {l L : List Rp} {r : Rp} {E : Int} {w w' : World} {e : Ending} (p : AddPost l r w e w') (h : addX l r = (L, E)) : ∃ oa cap, e = .returned (.tuple #[.slice oa L.length cap, .int .i64 E]) ∧ RpsAt w'.heap.size w' L (.slice oa L.length cap) ∧ Below w.heap.size w w' := by
  unfold AddPost at p; rw [h] at p; exact p
theorem DecRP.some {l : List UInt8} {r : Rp} {k : Int} {w w' : World} {e : Ending} (p : DecRP l w e w') (h : decR l = (some r, k)) : e = .returned (.tuple #[.agg #[.int .i64 r.st, .int .i64 r.no, .int .i64 r.mi, .int .i64 r.ar, .string r.cl, .int .i64 r.vo], .int .i64 k]) ∧ Below w.heap.size w w' := by
  unfold DecRP at p; rw [h] at p; exact p
theorem DecRP.none {l : List UInt8} {k : Int} {w w' : World} {e : Ending} (p : DecRP l w e w') (h : decR l = (none, k)) : e = .returned (.tuple #[.agg #[.int .i64 0, .int .i64 0, .int .i64 0, .int .i64 0, .string ⟨#[]⟩, .int .i64 0], .int .i64 k]) ∧ Below w.heap.size w w' := by
  unfold DecRP at p; rw [h] at p; exact p
theorem EncRP.good {r : Rp} {w w' : World} {e : Ending} (p : EncRP r w e w') (h : repB 4 3 r = true) : ∃ oa cap, e = .returned (.tuple #[.slice oa (enc (repV r)).length cap, .int .i64 0]) ∧ RdB w' (.slice oa (enc (repV r)).length cap) (enc (repV r)) ∧ Below w.heap.size w w' := by
  unfold EncRP encR at p; rw [h] at p
  obtain ⟨v, rfl, hv, hb⟩ := p
  obtain ⟨oa, cap, rfl⟩ := hv.form
  exact ⟨oa, cap, rfl, hv, hb⟩
theorem EncRP.bad {r : Rp} {w w' : World} {e : Ending} (p : EncRP r w e w') (h : repB 4 3 r = false) : ∃ oa cap, e = .returned (.tuple #[.slice oa 0 cap, .int .i64 220]) ∧ RdB w' (.slice oa 0 cap) [] ∧ Below w.heap.size w w' := by
  unfold EncRP encR at p; rw [h] at p
  obtain ⟨v, rfl, hv, hb⟩ := p
  obtain ⟨oa, cap, rfl⟩ := RdB.form hv
  exact ⟨oa, cap, rfl, hv, hb⟩
set_option maxRecDepth 100000 in
set_option maxHeartbeats 4000000 in
theorem sane22_any (w : World) : Calls Try.prog 11 #[] w (BoolPost true w) := by
  go_enter Try.func11, Try.ntmps11
  go_upto_region 4 with fail
  have HA0 : Hid (CB ((w.alloc (.cells #[.int .i64 1, .int .i64 5, .int .i64 60, .int .i64 70, .string ⟨#[88, 49]⟩, .int .i64 3] 23)).alloc (.cells #[.int .i64 1, .int .i64 5, .int .i64 60, .int .i64 70, .string ⟨#[88, 49]⟩, .int .i64 4] 23)) w.heap.size 23 sr0.cells) := (CB.new w 23 sr0.cells).alloc _
  have HN0 : Hid (CB ((w.alloc (.cells #[.int .i64 1, .int .i64 5, .int .i64 60, .int .i64 70, .string ⟨#[88, 49]⟩, .int .i64 3] 23)).alloc (.cells #[.int .i64 1, .int .i64 5, .int .i64 60, .int .i64 70, .string ⟨#[88, 49]⟩, .int .i64 4] 23)) (w.heap.size + 1) 23 sr1.cells) := cb_two w (.cells #[.int .i64 1, .int .i64 5, .int .i64 60, .int .i64 70, .string ⟨#[88, 49]⟩, .int .i64 3] 23) 23 sr1.cells
  have H0 := Lib.hid (((Below.refl w.heap.size w).alloc (Nat.le_refl _) (.cells #[.int .i64 1, .int .i64 5, .int .i64 60, .int .i64 70, .string ⟨#[88, 49]⟩, .int .i64 3] 23)).alloc (by simp) (.cells #[.int .i64 1, .int .i64 5, .int .i64 60, .int .i64 70, .string ⟨#[88, 49]⟩, .int .i64 4] 23))
  generalize (w.alloc (.cells #[.int .i64 1, .int .i64 5, .int .i64 60, .int .i64 70, .string ⟨#[88, 49]⟩, .int .i64 3] 23)).alloc (.cells #[.int .i64 1, .int .i64 5, .int .i64 60, .int .i64 70, .string ⟨#[88, 49]⟩, .int .i64 4] 23) = w0 at *
  have hs0 : sr0.cl.size ≤ 9223372036854775807 := by decide
  have hs1 : sr1.cl.size ≤ 9223372036854775807 := by decide
  have Hs0 := Lib.hid hs0; have Hs1 := Lib.hid hs1
  clear hs0 hs1
  obtain ⟨c0, c1, c2, c3, c4, c5⟩ := RpAt.of_cb HA0.out
  obtain ⟨d0, d1, d2, d3, d4, d5⟩ := RpAt.of_cb HN0.out
  go_wp2_with fail
  refine (add_any [] (.slice none 0 0) sr0 _ (rps_nil _ _ _ _) (fun x h => by cases h) Hs0.out).mono ?_
  intro e w1 hp
  obtain ⟨oa1, cap1, rfl, hv, hb⟩ := hp.as sn_add0
  have H1 := Lib.hid (below_ext H0.out hb)
  have HA1 := Lib.hid (HA0.out.ext hb)
  have HN1 := Lib.hid (HN0.out.ext hb)
  have HL1 := Lib.hid hv
  clear hv hp
  clear hb c0 c1 c2 c3 c4 c5 d0 d1 d2 d3 d4 d5
  obtain ⟨c0, c1, c2, c3, c4, c5⟩ := RpAt.of_cb HA1.out
  obtain ⟨d0, d1, d2, d3, d4, d5⟩ := RpAt.of_cb HN1.out
  go_wp2_with fail
  refine (add_any [sr0] _ sr0 _ HL1.out (fun x h => by rw [List.mem_singleton.1 h]; exact Hs0.out) Hs0.out).mono ?_
  intro e w2 hp
  obtain ⟨oa2, cap2, rfl, hv, hb⟩ := hp.as sn_add1
  have H2 := Lib.hid (below_ext H1.out hb)
  have HA2 := Lib.hid (HA1.out.ext hb)
  have HN2 := Lib.hid (HN1.out.ext hb)
  have HM2 := Lib.hid hv
  have HL2 := Lib.hid (HL1.out.ext hb)
  clear hv hp
  clear hb c0 c1 c2 c3 c4 c5 d0 d1 d2 d3 d4 d5
  obtain ⟨c0, c1, c2, c3, c4, c5⟩ := RpAt.of_cb HA2.out
  obtain ⟨d0, d1, d2, d3, d4, d5⟩ := RpAt.of_cb HN2.out
  go_wp2_with fail
  refine (add_any [sr0] _ sr1 _ HL2.out (fun x h => by rw [List.mem_singleton.1 h]; exact Hs0.out) Hs1.out).mono ?_
  intro e w3 hp
  obtain ⟨oa3, cap3, rfl, hv, hb⟩ := hp.as sn_add2
  have H3 := Lib.hid (below_ext H2.out hb)
  have HA3 := Lib.hid (HA2.out.ext hb)
  have HN3 := Lib.hid (HN2.out.ext hb)
  have HM3 := Lib.hid (HM2.out.ext hb)
  have HL3 := Lib.hid (HL2.out.ext hb)
  clear hv hp
  clear hb c0 c1 c2 c3 c4 c5 d0 d1 d2 d3 d4 d5
  obtain ⟨c0, c1, c2, c3, c4, c5⟩ := RpAt.of_cb HA3.out
  obtain ⟨d0, d1, d2, d3, d4, d5⟩ := RpAt.of_cb HN3.out
  go_wp2_with fail
  refine (encode22_any sr0 _ Hs0.out).mono ?_
  intro e w4 hp
  obtain ⟨oa4, cap4, rfl, hv, hb⟩ := hp.good sn_rep0
  have H4 := Lib.hid (below_ext H3.out hb)
  have HA4 := Lib.hid (HA3.out.ext hb)
  have HN4 := Lib.hid (HN3.out.ext hb)
  have HE4 := Lib.hid hv
  have HM4 := Lib.hid (HM3.out.ext hb)
  have HL4 := Lib.hid (HL3.out.ext hb)
  clear hv hp
  clear hb c0 c1 c2 c3 c4 c5 d0 d1 d2 d3 d4 d5
  obtain ⟨c0, c1, c2, c3, c4, c5⟩ := RpAt.of_cb HA4.out
  obtain ⟨d0, d1, d2, d3, d4, d5⟩ := RpAt.of_cb HN4.out
  go_wp2_with fail
  refine (decode22_any (enc (repV sr0)) sn_len _ _ HE4.out.bts).mono ?_
  intro e w5 hp
  obtain ⟨rfl, hb⟩ := hp.some sn_dec
  have H5 := Lib.hid (below_ext H4.out hb)
  have HA5 := Lib.hid (HA4.out.ext hb)
  have HN5 := Lib.hid (HN4.out.ext hb)
  have HM5 := Lib.hid (HM4.out.ext hb)
  have HL5 := Lib.hid (HL4.out.ext hb)
  clear hp
  clear hb c0 c1 c2 c3 c4 c5 d0 d1 d2 d3 d4 d5
  go_upto_region 9 with fail
  have H6 := Lib.hid (H5.out.alloc H5.out.size (.cells #[.int .i64 sr0.st, .int .i64 sr0.no, .int .i64 sr0.mi, .int .i64 sr0.ar, .string sr0.cl, .int .i64 sr0.vo] 23))
  have HA6 := Lib.hid (HA5.out.alloc (.cells #[.int .i64 sr0.st, .int .i64 sr0.no, .int .i64 sr0.mi, .int .i64 sr0.ar, .string sr0.cl, .int .i64 sr0.vo] 23))
  have HX6 : Hid (CB (w5.alloc (.cells #[.int .i64 sr0.st, .int .i64 sr0.no, .int .i64 sr0.mi, .int .i64 sr0.ar, .string sr0.cl, .int .i64 sr0.vo] 23)) w5.heap.size 23 sr0.cells) := CB.new w5 _ _
  have HL6 := Lib.hid (HL5.out.ext ((Below.refl w5.heap.size w5).alloc (Nat.le_refl _) (.cells #[.int .i64 sr0.st, .int .i64 sr0.no, .int .i64 sr0.mi, .int .i64 sr0.ar, .string sr0.cl, .int .i64 sr0.vo] 23)))
  have HM6 := Lib.hid (HM5.out.ext ((Below.refl w5.heap.size w5).alloc (Nat.le_refl _) (.cells #[.int .i64 sr0.st, .int .i64 sr0.no, .int .i64 sr0.mi, .int .i64 sr0.ar, .string sr0.cl, .int .i64 sr0.vo] 23)))
  generalize w5.alloc (.cells #[.int .i64 sr0.st, .int .i64 sr0.no, .int .i64 sr0.mi, .int .i64 sr0.ar, .string sr0.cl, .int .i64 sr0.vo] 23) = w6 at *
  go_wp2_with fail
  refine (decode22_any [] (by simp) _ _ (.inl ⟨rfl, _, _, rfl, Nat.zero_le _⟩)).mono ?_
  intro e w7 hp
  obtain ⟨rfl, hb⟩ := hp.none sn_dec0
  have H7 := Lib.hid (below_ext H6.out hb)
  have HA7 := Lib.hid (HA6.out.ext hb)
  have HX7 := Lib.hid (HX6.out.ext hb)
  have HL7 := Lib.hid (HL6.out.ext hb)
  have HM7 := Lib.hid (HM6.out.ext hb)
  clear hb hp
  go_upto_region 11 with fail
  have hbz : Below w7.heap.size w7 (((w7.alloc (.cells #[.int .i64 0, .int .i64 0, .int .i64 0, .int .i64 0, .string ⟨#[]⟩, .int .i64 0] 23)).alloc (.cells #[.int .i64 0] 3)).alloc (.cells #[.slice (some ⟨w7.heap.size + 1, 0, none⟩) 1 1, .int .i64 3, .int .i64 3] 26)) := (((Below.refl w7.heap.size w7).alloc (Nat.le_refl _) (.cells #[.int .i64 0, .int .i64 0, .int .i64 0, .int .i64 0, .string ⟨#[]⟩, .int .i64 0] 23)).alloc (by simp) (.cells #[.int .i64 0] 3)).alloc (by simp; omega) (.cells #[.slice (some ⟨w7.heap.size + 1, 0, none⟩) 1 1, .int .i64 3, .int .i64 3] 26)
  have HI8 : Hid (CB (((w7.alloc (.cells #[.int .i64 0, .int .i64 0, .int .i64 0, .int .i64 0, .string ⟨#[]⟩, .int .i64 0] 23)).alloc (.cells #[.int .i64 0] 3)).alloc (.cells #[.slice (some ⟨w7.heap.size + 1, 0, none⟩) 1 1, .int .i64 3, .int .i64 3] 26)) (w7.heap.size + 1) 3 [.int .i64 0]) := (cb_two w7 (.cells #[.int .i64 0, .int .i64 0, .int .i64 0, .int .i64 0, .string ⟨#[]⟩, .int .i64 0] 23) 3 [.int .i64 0]).alloc _
  have HS8 : Hid (CB (((w7.alloc (.cells #[.int .i64 0, .int .i64 0, .int .i64 0, .int .i64 0, .string ⟨#[]⟩, .int .i64 0] 23)).alloc (.cells #[.int .i64 0] 3)).alloc (.cells #[.slice (some ⟨w7.heap.size + 1, 0, none⟩) 1 1, .int .i64 3, .int .i64 3] 26)) (w7.heap.size + 1 + 1) 26 [.slice (some ⟨w7.heap.size + 1, 0, none⟩) 1 1, .int .i64 3, .int .i64 3]) := by
    have h := cb_two (w7.alloc (.cells #[.int .i64 0, .int .i64 0, .int .i64 0, .int .i64 0, .string ⟨#[]⟩, .int .i64 0] 23)) (.cells #[.int .i64 0] 3) 26 [.slice (some ⟨w7.heap.size + 1, 0, none⟩) 1 1, .int .i64 3, .int .i64 3]
    rw [World.size_alloc] at h; exact h
  have H8 := Lib.hid (below_ext H7.out hbz)
  have HA8 := Lib.hid (HA7.out.ext hbz)
  have HX8 := Lib.hid (HX7.out.ext hbz)
  have HL8 := Lib.hid (HL7.out.ext hbz)
  have HM8 := Lib.hid (HM7.out.ext hbz)
  clear hbz
  generalize ((w7.alloc (.cells #[.int .i64 0, .int .i64 0, .int .i64 0, .int .i64 0, .string ⟨#[]⟩, .int .i64 0] 23)).alloc (.cells #[.int .i64 0] 3)).alloc (.cells #[.slice (some ⟨w7.heap.size + 1, 0, none⟩) 1 1, .int .i64 3, .int .i64 3] 26) = w8 at *
  obtain ⟨c0, c1, c2, c3, c4, c5⟩ := RpAt.of_cb HA8.out
  have heq : ∀ w : World, (Op.equalIn 10000 23 (.agg #[.int .i64 sr0.st, .int .i64 sr0.no, .int .i64 sr0.mi, .int .i64 sr0.ar, .string sr0.cl, .int .i64 sr0.vo]) (.agg #[.int .i64 sr0.st, .int .i64 sr0.no, .int .i64 sr0.mi, .int .i64 sr0.ar, .string sr0.cl, .int .i64 sr0.vo])).run Try.prog w = .ok true w := fun w => by rw [← (rpEq_iff sr0 sr0).2 rfl]; exact eq_rp sr0 sr0 w
  have sn_same : sameB [sr0] [sr0] = true := (sameB_iff _ _).2 rfl
  have Sn := Lib.hid sn_same; clear sn_same
  go_wp2_with fail
  refine (rsame22_any [sr0] [sr0] _ _ _ (HL8.out.ext ((Below.refl w8.heap.size w8).alloc (Nat.le_refl _) (.cells #[.int .i64 sr0.st, .int .i64 sr0.no, .int .i64 sr0.mi, .int .i64 sr0.ar, .string sr0.cl, .int .i64 sr0.vo] 23))) (rps_one (CB.new w8 _ sr0.cells))).mono ?_
  rw [Sn.out]
  rintro e w9 ⟨rfl, hb⟩
  replace hb := below_after hb
  have H9 := Lib.hid (below_ext H8.out hb)
  have HA9 := Lib.hid (HA8.out.ext hb)
  have HX9 := Lib.hid (HX8.out.ext hb)
  have HL9 := Lib.hid (HL8.out.ext hb)
  have HM9 := Lib.hid (HM8.out.ext hb)
  have HI9 := Lib.hid (HI8.out.ext hb)
  have HS9 := Lib.hid (HS8.out.ext hb)
  clear hb c0 c1 c2 c3 c4 c5
  obtain ⟨c0, c1, c2, c3, c4, c5⟩ := RpAt.of_cb HA9.out
  go_wp2_with fail
  refine (rsame22_any [sr0] [sr0] _ _ _ HM9.out HL9.out).mono ?_
  rw [Sn.out]
  rintro e w10 ⟨rfl, hb⟩
  have H10 := Lib.hid (below_ext H9.out hb)
  have HA10 := Lib.hid (HA9.out.ext hb)
  have HX10 := Lib.hid (HX9.out.ext hb)
  have HI10 := Lib.hid (HI9.out.ext hb)
  have HS10 := Lib.hid (HS9.out.ext hb)
  clear hb c0 c1 c2 c3 c4 c5
  obtain ⟨c0, c1, c2, c3, c4, c5⟩ := RpAt.of_cb HA10.out
  obtain ⟨x0, x1, x2, x3, x4, x5⟩ := RpAt.of_cb HX10.out
  go_wp2_with fail
  refine (chk_ok 2 1 sr0 _ (by decide) Hs0.out sn_c2).mono ?_
  rintro e w11 ⟨rfl, hb⟩
  have H11 := Lib.hid (below_ext H10.out hb)
  have HA11 := Lib.hid (HA10.out.ext hb)
  have HI11 := Lib.hid (HI10.out.ext hb)
  have HS11 := Lib.hid (HS10.out.ext hb)
  clear hb c0 c1 c2 c3 c4 c5
  obtain ⟨c0, c1, c2, c3, c4, c5⟩ := RpAt.of_cb HA11.out
  clear x0 x1 x2 x3 x4 x5
  go_wp2_with fail
  refine (chk_no 1 0 sr0 _ (by decide) Hs0.out sn_c1).mono ?_
  rintro e w12 ⟨rfl, hb⟩
  have H12 := Lib.hid (below_ext H11.out hb)
  have HA12 := Lib.hid (HA11.out.ext hb)
  have HI12 := Lib.hid (HI11.out.ext hb)
  have HS12 := Lib.hid (HS11.out.ext hb)
  clear hb c0 c1 c2 c3 c4 c5
  obtain ⟨c0, c1, c2, c3, c4, c5⟩ := RpAt.of_cb HA12.out
  go_wp2_with fail
  refine (chk_no 0 (-1) sr0 _ (by decide) Hs0.out sn_c0).mono ?_
  rintro e w13 ⟨rfl, hb⟩
  have H13 := Lib.hid (below_ext H12.out hb)
  have HA13 := Lib.hid (HA12.out.ext hb)
  have HI13 := Lib.hid (HI12.out.ext hb)
  have HS13 := Lib.hid (HS12.out.ext hb)
  clear hb c0 c1 c2 c3 c4 c5
  obtain ⟨c0, c1, c2, c3, c4, c5⟩ := RpAt.of_cb HA13.out
  clear c0 c1 c2 c3 c4 c5
  have s0 := HS13.out.cell 0
  have s1 := HS13.out.cell 1
  have s2 := HS13.out.cell 2
  simp only [List.getElem?_cons_zero, List.getElem?_cons_succ] at s0 s1 s2
  go_wp2_with fail
  refine (sta_ok 1 3 3 [0] _ _ (ints_one HI13.out) sn_s1).mono ?_
  rintro e w14 ⟨rfl, hb⟩
  have H14 := Lib.hid (below_ext H13.out hb)
  clear hb s0 s1 s2
  go_wp2_with fail
  refine (sta_no 1 0 0 [] _ _ (.inl ⟨rfl, _, _, rfl⟩) sn_s0).mono ?_
  rintro e w15 ⟨rfl, hb⟩
  have H15 := Lib.hid (below_ext H14.out hb)
  clear hb
  go_wp2_with fail
  go_ret
  exact ⟨rfl, H15.out⟩
end Go.Proofs.Ytgdbmoggpfpkkaa
/- arguments opened: bytes and integers (no codec). -/
namespace Go.Proofs.Ytgdbmoggpfpkkaa
open Go.RowKit Go.ChangeShapes Go.WideShapes
section
variable {H : Type} {enc : TypeId × Value → H} {w : World}
theorem u8_of_wf {n : Int} (h : (Lit.int .u8 n).wf = true) : 0 ≤ n ∧ n ≤ 255 := by
  simp only [Lit.wf, Bool.and_eq_true, decide_eq_true_eq] at h
  simpa [IntKind.min, IntKind.max, IntKind.signed, IntKind.bits] using h
set_option maxRecDepth 100000 in
/-- an argument that is bytes -/
theorem open_B {r : Reach} {b0 : Nat} {v : Value} {d : DataW H} {p : List MemPlace} (hv : Value.okWide Try.prog w r b0 33 v) (h : DataW.Trod enc Try.prog w 0 (fun _ => true) true 33 v d p) : ∃ l, BtsAt w.heap.size w l v := by
  obtain ⟨a, len, cap, rfl⟩ := okWide_slice Try.underlying33 hv
  obtain ⟨n, hf⟩ := h
  rcases open_ints Try.underlying33 Try.underlying5 (by kernel_rfl) hf with ⟨hcs, _⟩ | ⟨x, l, c, zs, hcs, _, hl, hm, hz, _, hcell, hwz⟩
  · simp [Value.cells] at hcs
    obtain ⟨rfl, rfl, rfl⟩ := hcs
    exact ⟨[], .inl ⟨rfl, none, 0, rfl, Nat.zero_le _⟩⟩
  · simp [Value.cells] at hcs
    obtain ⟨rfl, rfl, rfl⟩ := hcs
    have hz' : zs.length = cap := by simpa using hz
    by_cases h0 : len = 0
    · subst h0; exact ⟨[], .inl ⟨rfl, some x, cap, rfl, hm⟩⟩
    obtain ⟨b, off, spot⟩ := x
    have hs := World.cell?_spot (hcell 0 (by omega))
    have hsp : spot = none := by simpa [Addr.add] using hs
    subst hsp
    have ha : ∀ j, (⟨b, off, none⟩ : Addr).add j = ⟨b, off + j, none⟩ := fun j => by unfold Addr.add; split <;> simp_all
    refine ⟨(zs.take len).map fun n => UInt8.ofNat n.toNat, BtsAt.mk' (by simp; omega) (by simp; omega) hm (World.block_lt_of_cell? w _ (hcell 0 (by omega))) fun j c hj => ?_⟩
    have hjl : j < len := by have := (List.getElem?_eq_some_iff.1 hj).1; simp at this; omega
    have hcj := hcell j (by omega)
    rw [ha] at hcj
    rw [hcj]
    have hb := u8_of_wf (hwz _ (List.getElem_mem (show j < zs.length by omega)))
    simp only [List.getElem?_map, List.getElem?_take, if_pos hjl, List.getElem?_eq_getElem (show j < zs.length by omega), Option.map_some, Option.some.injEq] at hj
    subst hj
    simp [List.getD, List.getElem?_eq_getElem (show j < zs.length by omega)]
    omega
end
end Go.Proofs.Ytgdbmoggpfpkkaa
/- arguments opened: reports, a station. -/
namespace Go.Proofs.Ytgdbmoggpfpkkaa
open Go.RowKit Go.ChangeShapes Go.WideShapes
instance : Inhabited Rp := ⟨rpZ⟩
theorem cellsRp : Try.prog.cellsOf 23 = 6 := by kernel_rfl
theorem cellsSta : Try.prog.cellsOf 26 = 3 := by kernel_rfl
section
variable {H : Type} {enc : TypeId × Value → H} {w : World}
set_option maxRecDepth 100000 in
theorem trod_Rp {n : Nat} {cs : List Value} {y : DataW H × List MemPlace} (h : DataW.trod enc Try.prog w 0 (fun _ => true) true n 23 cs = some y) : ∃ r : Rp, cs = r.cells ∧ r.cl.size ≤ maxLen := by
  obtain ⟨xs, n', rfl, hx, hlen, hxl, hf⟩ := DataW.trod_struct Try.underlying23 h
  have hlen6 : cs.length = 6 := hlen.trans cellsRp
  match cs, hlen6 with
  | [c0, c1, c2, c3, c4, c5], _ =>
    have f0 := hf 0 _ rfl
    have f1 := hf 1 _ rfl
    have f2 := hf 2 _ rfl
    have f3 := hf 3 _ rfl
    have f4 := hf 4 _ rfl
    have f5 := hf 5 _ rfl
    have hxl : xs.length = 6 := by assumption
    match xs, hxl with
    | [x0, x1, x2, x3, x4, x5], _ =>
      obtain ⟨a, e0, _, w0⟩ := DataW.trod_int Try.underlying3 f0
      obtain ⟨b, e1, _, w1⟩ := DataW.trod_int Try.underlying3 f1
      obtain ⟨c, e2, _, w2⟩ := DataW.trod_int Try.underlying3 f2
      obtain ⟨d, e3, _, w3⟩ := DataW.trod_int Try.underlying3 f3
      obtain ⟨s, e4, _, w4⟩ := DataW.trod_string Try.underlying9 f4
      obtain ⟨f, e5, _, w5⟩ := DataW.trod_int Try.underlying3 f5
      have g0 : [c0] = [Value.int .i64 a] := e0
      have g1 : [c1] = [Value.int .i64 b] := e1
      have g2 : [c2] = [Value.int .i64 c] := e2
      have g3 : [c3] = [Value.int .i64 d] := e3
      have g4 : [c4] = [Value.string s] := e4
      have g5 : [c5] = [Value.int .i64 f] := e5
      injection g0 with g0; injection g1 with g1; injection g2 with g2; injection g3 with g3; injection g4 with g4; injection g5 with g5
      subst g0; subst g1; subst g2; subst g3; subst g4; subst g5
      exact ⟨⟨a, b, c, d, s, f⟩, rfl, w4⟩
set_option maxRecDepth 100000 in
/-- an argument that is a report -/
theorem open_Rp {r : Reach} {b0 : Nat} {v : Value} {d : DataW H} {p : List MemPlace} (hv : Value.okWide Try.prog w r b0 23 v) (h : DataW.Trod enc Try.prog w 0 (fun _ => true) true 23 v d p) : ∃ r : Rp, v = r.v ∧ r.cl.size ≤ maxLen := by
  obtain ⟨cs, rfl, hsz⟩ := okWide_struct Try.underlying23 hv
  obtain ⟨n, hf⟩ := h
  have hcs : (Value.agg cs).cells.toList = cs.toList := by simp [Value.cells]
  rw [hcs] at hf
  obtain ⟨r, hr, hs⟩ := trod_Rp hf
  refine ⟨r, ?_, hs⟩
  unfold Rp.v
  rw [← hr]
set_option maxRecDepth 100000 in
/-- an argument that is a list of reports -/
theorem open_Rps {r : Reach} {b0 : Nat} {v : Value} {d : DataW H} {p : List MemPlace} (hv : Value.okWide Try.prog w r b0 39 v) (h : DataW.Trod enc Try.prog w 0 (fun _ => true) true 39 v d p) : ∃ l : List Rp, RpsAt w.heap.size w l v ∧ ∀ x ∈ l, x.cl.size ≤ maxLen := by
  obtain ⟨a, len, cap, rfl⟩ := okWide_slice Try.underlying39 hv
  obtain ⟨n, hf⟩ := h
  have hcs : (Value.slice a len cap).cells.toList = [.slice a len cap] := rfl
  rw [hcs] at hf
  rcases DataW.trod_slice Try.underlying39 hf with ⟨he, _⟩ | ⟨ad, ln, cp, elems, rest, n', rfl, he, _, _, hl, hm, hlen, hel, _⟩
  · injection he with he
    injection he with h1 h2 h3
    subst h2
    exact ⟨[], .inl ⟨rfl, _, _, rfl⟩, fun x h => by cases h⟩
  · injection he with he
    injection he with h1 h2 h3
    subst h1; subst h2; subst h3
    by_cases h0 : len = 0
    · subst h0; exact ⟨[], .inl ⟨rfl, _, _, rfl⟩, fun x h => by cases h⟩
    obtain ⟨b, off, spot⟩ := ad
    rw [cellsRp] at hel
    have hsp : spot = none := by
      have key := hel 0 (by omega)
      rw [List.getElem?_eq_getElem (by omega)] at key
      obtain ⟨cs', h1, h2⟩ := Option.bind_eq_some_iff.1 key
      obtain ⟨r, rfl, _⟩ := trod_Rp h2
      obtain ⟨_, _, hc⟩ := World.cells?_some h1
      have c0 := hc 0 (by omega)
      simpa [Addr.add] using World.cell?_spot c0
    subst hsp
    have one : ∀ i, i < len → ∃ x : Rp, RpAt w b (off + i * 6) x ∧ x.cl.size ≤ maxLen := by
      intro i hi
      have key := hel i hi
      rw [List.getElem?_eq_getElem (by omega)] at key
      obtain ⟨cs', h1, h2⟩ := Option.bind_eq_some_iff.1 key
      obtain ⟨r, rfl, hs⟩ := trod_Rp h2
      obtain ⟨_, _, hc⟩ := World.cells?_some h1
      have c0 := hc 0 (by omega); have c1 := hc 1 (by omega); have c2 := hc 2 (by omega); have c3 := hc 3 (by omega); have c4 := hc 4 (by omega); have c5 := hc 5 (by omega)
      rw [Deep.add_add, add0] at c0 c1 c2 c3 c4 c5
      rw [← Nat.add_assoc] at c1 c2 c3 c4 c5
      exact ⟨r, ⟨c0, c1, c2, c3, c4, c5⟩, hs⟩
    obtain ⟨X, hX⟩ := Deep.choose_lt (α := Rp) (p := fun i x => RpAt w b (off + i * 6) x ∧ x.cl.size ≤ maxLen) one
    refine ⟨(List.range len).map X, .inr ⟨b, off, cap, by simp, by simpa using hl, hm, World.block_lt_of_cell? w _ (hX 0 (by omega)).1.c0, fun j x hj => ?_⟩, fun x hx => ?_⟩
    · simp only [List.getElem?_map, Option.map_eq_some_iff] at hj
      obtain ⟨i, hi, rfl⟩ := hj
      obtain ⟨hi1, hi2⟩ := List.getElem?_eq_some_iff.1 hi
      simp at hi1 hi2
      subst hi2
      exact (hX _ hi1).1
    · obtain ⟨i, hi, rfl⟩ := List.mem_map.1 hx
      exact (hX i (by simpa using hi)).2
set_option maxRecDepth 100000 in
theorem trod_Is {n : Nat} {cs : List Value} {y : DataW H × List MemPlace} (h : DataW.trod enc Try.prog w 0 (fun _ => true) true n 24 cs = some y) : ∃ v l, cs = [v] ∧ IntsAt w.heap.size w l v := by
  rcases open_ints Try.underlying24 Try.underlying3 (by kernel_rfl) h with ⟨hcs, _⟩ | ⟨x, l, c, zs, hcs, _, hl, hm, hz, _, hcell, hwz⟩
  · exact ⟨_, [], hcs, .inl ⟨rfl, _, _, rfl⟩⟩
  · have hz' : zs.length = c := by simpa using hz
    by_cases h0 : l = 0
    · subst h0; exact ⟨_, [], hcs, .inl ⟨rfl, _, _, rfl⟩⟩
    obtain ⟨b, off, spot⟩ := x
    have hs := World.cell?_spot (hcell 0 (by omega))
    have hsp : spot = none := by simpa [Addr.add] using hs
    subst hsp
    have hb := World.block_lt_of_cell? w _ (hcell 0 (by omega))
    refine ⟨_, zs.take l, hcs, .inr ⟨b, off, c, by simp; omega, by simp; omega, hm, hb, fun j x hj => ?_⟩⟩
    have hjl : j < l := by have := (List.getElem?_eq_some_iff.1 hj).1; simp at this; omega
    have hcj := hcell j (by omega)
    rw [add0] at hcj
    rw [hcj]
    rw [List.getElem?_take, if_pos hjl] at hj
    simp [List.getD, hj]
set_option maxRecDepth 100000 in
/-- an argument that is a station -/
theorem open_Sta {r : Reach} {b0 : Nat} {v : Value} {d : DataW H} {p : List MemPlace} (hv : Value.okWide Try.prog w r b0 26 v) (h : DataW.Trod enc Try.prog w 0 (fun _ => true) true 26 v d p) : ∃ (u : Value) (l : List Int) (sh fa : Int), v = .agg #[u, .int .i64 sh, .int .i64 fa] ∧ IntsAt w.heap.size w l u := by
  obtain ⟨cs, rfl, hsz⟩ := okWide_struct Try.underlying26 hv
  obtain ⟨n, hf⟩ := h
  have hcs : (Value.agg cs).cells.toList = cs.toList := by simp [Value.cells]
  rw [hcs] at hf
  obtain ⟨xs, n', rfl, hx, hlen, hxl, hf⟩ := DataW.trod_struct Try.underlying26 hf
  have hlen3 : cs.toList.length = 3 := hlen.trans cellsSta
  match hm : cs.toList, hlen3 with
  | [c0, c1, c2], _ =>
    rw [hm] at hf
    have f0 := hf 0 _ rfl
    have f1 := hf 1 _ rfl
    have f2 := hf 2 _ rfl
    have hxl : xs.length = 3 := by assumption
    match xs, hxl with
    | [x0, x1, x2], _ =>
      obtain ⟨u, l, e0, hu⟩ := trod_Is f0
      obtain ⟨a, e1, _, w1⟩ := DataW.trod_int Try.underlying3 f1
      obtain ⟨b, e2, _, w2⟩ := DataW.trod_int Try.underlying3 f2
      have g0 : [c0] = [u] := e0
      have g1 : [c1] = [Value.int .i64 a] := e1
      have g2 : [c2] = [Value.int .i64 b] := e2
      injection g0 with g0; injection g1 with g1; injection g2 with g2
      subst g0; subst g1; subst g2
      exact ⟨c0, l, a, b, by rw [show cs = #[c0, .int .i64 a, .int .i64 b] from Array.toList_inj.1 hm], hu⟩
end
end Go.Proofs.Ytgdbmoggpfpkkaa
