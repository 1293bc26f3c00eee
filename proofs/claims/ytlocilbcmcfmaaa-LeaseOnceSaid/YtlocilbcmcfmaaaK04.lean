/- Merged: Lck Lpl Lrp Lki Ldo. -/
import Derived.Test.YtlocilbcmcfmaaaK02
import Derived.Test.YtlocilbcmcfmaaaK03
import Derived.Deep.QuietTactic
import Derived.BigQuiet
import Derived.Deep.DeepCutAuto
import Derived.Carry
/- lease.Check. -/
namespace Go.Proofs.Ytlocilbcmcfmaaa
open Go.RowKit
/-- is a lease valid beneath a token? -/
def leB (tk : Int) (x : Le) : Bool := wiB x.sl 0 4095 && wiB x.ai 0 7 && wiB x.fl 0 4095 && wiB x.tk 1 tk
def chkF (tk : Int) : Option Int → List Int → List Le → Bool
  | _, _, [] => true
  | p, T, x :: r => leB tk x && (match p with | none => true | some s => decide (s < x.sl)) && !T.contains x.tk && chkF tk (some x.sl) (x.tk :: T) r
def chkL (tk : Int) (l : List Le) : Bool := wiB tk 0 1048576 && chkF tk none [] l
def prevL (l : List Le) (k : Nat) : Option Int := if k = 0 then none else (l[k - 1]?).map (·.sl)
def metsL (l : List Le) (k : Nat) : List Int := ((l.take k).map (·.tk)).reverse
theorem metsL_succ {l : List Le} {k : Nat} {x : Le} (h : l[k]? = some x) : metsL l (k + 1) = x.tk :: metsL l k := by
  unfold metsL
  obtain ⟨h1, h2⟩ := List.getElem?_eq_some_iff.1 h
  rw [List.take_succ_eq_append_getElem h1, List.map_append, List.reverse_append, h2]; rfl
theorem prevL_succ {l : List Le} {k : Nat} {x : Le} (h : l[k]? = some x) : prevL l (k + 1) = some x.sl := by unfold prevL; simp [h]
theorem drop_le {l : List Le} {k : Nat} {x : Le} (h : l[k]? = some x) : l.drop k = x :: l.drop (k + 1) := by
  obtain ⟨h1, h2⟩ := List.getElem?_eq_some_iff.1 h
  rw [List.drop_eq_getElem_cons h1, h2]
def CkI (tk : Int) (l : List Le) (k : Nat) : Prop := chkF tk none [] l = chkF tk (prevL l k) (metsL l k) (l.drop k)
theorem ck_start (tk : Int) (l : List Le) : CkI tk l 0 := rfl
theorem ck_end {tk : Int} {l : List Le} (h : CkI tk l l.length) : chkF tk none [] l = true := by
  unfold CkI at h; rw [h, List.drop_of_length_le (Nat.le_refl _)]; rfl
theorem ck_bad {tk : Int} {l : List Le} {k : Nat} {x : Le} (h : CkI tk l k) (hx : l[k]? = some x) (hb : leB tk x = false) : chkF tk none [] l = false := by
  unfold CkI at h; rw [h, drop_le hx]; simp [chkF, hb]
theorem ck_met {tk : Int} {l : List Le} {k : Nat} {x : Le} (h : CkI tk l k) (hx : l[k]? = some x) (hb : (metsL l k).contains x.tk = true) : chkF tk none [] l = false := by
  unfold CkI at h; rw [h, drop_le hx]; simp only [chkF, hb]; simp
theorem ck_ord {tk : Int} {l : List Le} {j : Nat} {p x : Le} (h : CkI tk l (j + 1)) (hp : l[j]? = some p) (hx : l[j + 1]? = some x) (hb : decide (p.sl < x.sl) = false) : chkF tk none [] l = false := by
  unfold CkI at h; rw [h, prevL_succ hp, drop_le hx]; simp only [chkF, hb]; simp
theorem ck_zero {tk : Int} {l : List Le} {x : Le} (h : CkI tk l 0) (hx : l[0]? = some x) (hb : leB tk x = true) (hm : (metsL l 0).contains x.tk = false) : CkI tk l 1 := by
  unfold CkI at *
  rw [h, prevL_succ hx, metsL_succ hx, drop_le hx]; simp only [chkF, hb, hm, prevL]; simp
theorem ck_step {tk : Int} {l : List Le} {j : Nat} {p x : Le} (h : CkI tk l (j + 1)) (hp : l[j]? = some p) (hx : l[j + 1]? = some x) (hb : leB tk x = true) (ho : decide (p.sl < x.sl) = true) (hm : (metsL l (j + 1)).contains x.tk = false) : CkI tk l (j + 1 + 1) := by
  unfold CkI at *
  rw [h, prevL_succ hp, prevL_succ hx, metsL_succ hx, drop_le hx]; simp only [chkF, hb, ho, hm]; simp
theorem within_is {n lo hi : Int} {c : Bool} (h : Hid (wiB n lo hi = c)) (w : World) : Calls Try.prog 19 #[.int .i64 n, .int .i64 lo, .int .i64 hi] w fun e w' => e = .returned (.bool c) ∧ w = w' := by
  refine (lwithin_any n lo hi w).mono ?_
  rintro e w' ⟨rfl, rfl⟩
  exact ⟨by rw [h.out], rfl⟩
theorem within_q (n lo hi : Int) (w : World) : Calls Try.prog 19 #[.int .i64 n, .int .i64 lo, .int .i64 hi] w fun e w' => e = .returned (.bool (wiB n lo hi)) ∧ w' = w := by
  refine (lwithin_any n lo hi w).mono ?_
  rintro e w' ⟨rfl, rfl⟩
  exact ⟨rfl, rfl⟩
theorem leB_of {tk : Int} {x : Le} {a b c d : Bool} (h1 : wiB x.sl 0 4095 = a) (h2 : wiB x.ai 0 7 = b) (h3 : wiB x.fl 0 4095 = c) (h4 : wiB x.tk 1 tk = d) : leB tk x = (a && b && c && d) := by unfold leB; rw [h1, h2, h3, h4]
theorem tk_wf {n tk : Int} (h : wiB n 1 tk = true) (ht : wiB tk 0 1048576 = true) : (Lit.int .i64 n).wf = true := by
  unfold wiB at *; simp only [Bool.and_eq_true, decide_eq_true_eq] at *
  simp only [Lit.wf, Bool.and_eq_true, decide_eq_true_eq]
  simp [IntKind.min, IntKind.max, IntKind.signed, IntKind.bits]; omega
/-- leases, as a struct in memory -/
def CkBox (w0 : World) (g : Nat) (tk : Int) (v : Value) (wr : World) : Prop := CB wr g 26 [.int .i64 tk, v]
def CkRel (tk : Int) (l : List Le) (v : Value) (w : World) (vi : Value) (wr : World) : Prop :=
  ∃ k : Nat, k ≤ l.length ∧ vi = .int .i64 k ∧ CkI tk l k ∧ Below w.heap.size w wr ∧ CB wr w.heap.size 26 [.int .i64 tk, v] ∧ MetAt wr (w.heap.size + 1) k (metsL l k)
theorem ck_below {w w2 w3 : World} (h : Below w.heap.size w w2) (hg : w2.grownBy w3 (some (w.heap.size + 1))) : Below w.heap.size w w3 :=
  h.trans ⟨hg.os, hg.tape, hg.output, hg.size, fun k hk => hg.block k (Nat.lt_of_lt_of_le hk h.size) (fun e => by injection e; omega)⟩
theorem ck_cb {w2 w3 : World} {g : Nat} {t : TypeId} {cs : List Value} (h : CB w2 g t cs) (hg : w2.grownBy w3 (some (g + 1))) : CB w3 g t cs :=
  h.keep (hg.block g h.lt (fun e => by injection e; omega))
set_option maxRecDepth 100000 in
set_option maxHeartbeats 4000000 in
theorem lcheck_any (tk : Int) (l : List Le) (v : Value) (w : World) (hl : LesAt w.heap.size w l v) (hlen : l.length ≤ 2000) :
    Calls Try.prog 9 #[.agg #[.int .i64 tk, v]] w fun e w' => e = .returned (.int .i64 (if chkL tk l then 0 else 350)) ∧ Below w.heap.size w w' := by
  obtain ⟨oa, cap, rfl, hlm⟩ := hl.shape
  have HR := Lib.hid hl; have Hlen := Lib.hid hlen
  clear hl hlm
  have bl : (l.length : Int) ≤ 2000 := by omega
  clear hlen
  have hcb0 : Hid (CB (w.alloc (.cells #[.int .i64 tk, .slice oa l.length cap] 26)) w.heap.size 26 [.int .i64 tk, .slice oa l.length cap]) := CB.new w _ _
  have hb0 := Lib.hid ((Below.refl w.heap.size w).alloc (Nat.le_refl _) (.cells #[.int .i64 tk, .slice oa l.length cap] 26))
  have hz0 : (w.alloc (.cells #[.int .i64 tk, .slice oa l.length cap] 26)).heap.size = w.heap.size + 1 := World.size_alloc _ _
  obtain ⟨t0, ht0⟩ : ∃ c, wiB tk 0 1048576 = c := ⟨_, rfl⟩
  have hck : Hid (chkL tk l = (t0 && chkF tk none [] l)) := by show _ = _; unfold chkL; rw [ht0]
  have Ht0 := Lib.hid ht0
  obtain ⟨Z, hZ⟩ : ∃ z : Int, (if chkL tk l then (0 : Int) else 350) = z := ⟨_, rfl⟩
  have HZ := Lib.hid hZ
  rw [hZ]
  clear hZ
  clear ht0
  go_enter Try.func9, Try.ntmps9
  go_upto_region 1 with fail
  generalize w.alloc (.cells #[.int .i64 tk, .slice oa l.length cap] 26) = w0 at *
  have c0 : w0.cell? ⟨w.heap.size, 0, none⟩ = some (.int .i64 tk) := hcb0.out.cell 0
  have c1 : w0.cell? ⟨w.heap.size, 1, none⟩ = some (.slice oa l.length cap) := hcb0.out.cell 1
  cases t0
  case false =>
    go_wp2_with (go_at_call 19; refine (within_is Ht0 _).mono ?_; rintro e w' ⟨rfl, rfl⟩)
    go_ret
    exact ⟨by rw [← HZ.out, hck.out]; rfl, hb0.out⟩
  case true =>
    have hm0 : Hid (MetAt (w0.alloc (.map #[] 0)) (w.heap.size + 1) 0 []) := by
      show MetAt _ _ _ _
      rw [← hz0]; exact MetAt.made w0
    have hb1 := Lib.hid (hb0.out.alloc hb0.out.size (.map #[] 0))
    have hcb1 := Lib.hid (hcb0.out.alloc (.map #[] 0))
    have hmm := @run_makeMap Try.prog
    go_wp2_with (go_at_call 19; refine (within_is Ht0 _).mono ?_; rintro e w' ⟨rfl, rfl⟩)
    clear hmm
    generalize w0.alloc (.map #[] 0) = w1 at *
    go_loopw [14] (fun i wr => CkRel tk l (.slice oa l.length cap) w i wr) (fun i _ => l.length - (intOf i).toNat)
    case atStart => exact ⟨0, by omega, rfl, ck_start tk l, hb1.out, hcb1.out, hm0.out⟩
    case round =>
      obtain ⟨k, hk, rfl, hi, hb, hcb, hmt⟩ := hrel
      have HI := Lib.hid hi; have HB := Lib.hid hb; have HCB := Lib.hid hcb; have HM := Lib.hid hmt
      clear hi hb hcb hmt
      by_cases hlt : k < l.length
      · have tj : decide ((k : Int) < (l.length : Int)) = true := by simp; omega
        have tj' : decide (k < l.length) = true := by simp; omega
        have bk : (k : Int) ≤ 2000 := by omega
        obtain ⟨x, hx⟩ : ∃ x, l[k]? = some x := ⟨_, List.getElem?_eq_getElem hlt⟩
        obtain ⟨b, off, rfl, _, hat⟩ := (HR.out.ext HB.out).at hlt
        obtain ⟨c0, c1, c2, c3, c4⟩ := five_of (hat k x hx)
        change wr.cell? ⟨b, off + k * 5, none⟩ = _ at c0
        change wr.cell? ⟨b, off + k * 5 + 1, none⟩ = _ at c1
        change wr.cell? ⟨b, off + k * 5 + 2, none⟩ = _ at c2
        change wr.cell? ⟨b, off + k * 5 + 3, none⟩ = _ at c3
        change wr.cell? ⟨b, off + k * 5 + 4, none⟩ = _ at c4
        have Hat := Lib.hid hat; have Hx := Lib.hid hx; have Hlt := Lib.hid hlt
        obtain ⟨sl, ai, fl, tn, us⟩ := x
        clear hat hx hlt
        go_upto_region 7 with fail
        have hbx := Lib.hid ((Below.refl wr.heap.size wr).alloc (Nat.le_refl _) (.cells #[.int .i64 sl, .int .i64 ai, .int .i64 fl, .int .i64 tn, .bool us] 36))
        have hcx : Hid (CB (wr.alloc (.cells #[.int .i64 sl, .int .i64 ai, .int .i64 fl, .int .i64 tn, .bool us] 36)) wr.heap.size 36 [.int .i64 sl, .int .i64 ai, .int .i64 fl, .int .i64 tn, .bool us]) := CB.new wr _ _
        clear c0 c1 c2 c3 c4
        generalize wr.alloc (.cells #[.int .i64 sl, .int .i64 ai, .int .i64 fl, .int .i64 tn, .bool us] 36) = w2 at *
        have d0 : w2.cell? ⟨wr.heap.size, 0, none⟩ = some (.int .i64 sl) := hcx.out.cell 0
        have d1 : w2.cell? ⟨wr.heap.size, 1, none⟩ = some (.int .i64 ai) := hcx.out.cell 1
        have d2 : w2.cell? ⟨wr.heap.size, 2, none⟩ = some (.int .i64 fl) := hcx.out.cell 2
        have d3 : w2.cell? ⟨wr.heap.size, 3, none⟩ = some (.int .i64 tn) := hcx.out.cell 3
        have f0 : w2.cell? ⟨w.heap.size, 0, none⟩ = some (.int .i64 tk) := (HCB.out.ext hbx.out).cell 0
        have f1 : w2.cell? ⟨w.heap.size, 1, none⟩ = some (.slice (some ⟨b, off, none⟩) l.length cap) := (HCB.out.ext hbx.out).cell 1
        have HBx := Lib.hid (below_ext HB.out hbx.out)
        obtain ⟨b1, h1⟩ : ∃ c, wiB sl 0 4095 = c := ⟨_, rfl⟩
        obtain ⟨b2, h2⟩ : ∃ c, wiB ai 0 7 = c := ⟨_, rfl⟩
        obtain ⟨b3, h3⟩ : ∃ c, wiB fl 0 4095 = c := ⟨_, rfl⟩
        obtain ⟨b4, h4⟩ : ∃ c, wiB tn 1 tk = c := ⟨_, rfl⟩
        have HL : Hid (leB tk ⟨sl, ai, fl, tn, us⟩ = (b1 && b2 && b3 && b4)) := leB_of h1 h2 h3 h4
        have H1 := Lib.hid h1; have H2 := Lib.hid h2; have H3 := Lib.hid h3; have H4 := Lib.hid h4
        cases b1
        case false =>
          go_quiet ((go_at_call 19; exact Calls.quiet_of_same (within_q _ _ _ _)))
          go_wp2_with fail
          go_ret
          exact ⟨by rw [← HZ.out, hck.out, ck_bad HI.out Hx.out (by rw [HL.out]; rfl)]; rfl, below_drewN'' HBx.out _⟩
        case true =>
          cases b2
          case false =>
            go_quiet ((go_at_call 19; exact Calls.quiet_of_same (within_q _ _ _ _)))
            go_wp2_with fail
            go_ret
            exact ⟨by rw [← HZ.out, hck.out, ck_bad HI.out Hx.out (by rw [HL.out]; rfl)]; rfl, below_drewN'' HBx.out _⟩
          case true =>
            cases b3
            case false =>
              go_quiet ((go_at_call 19; exact Calls.quiet_of_same (within_q _ _ _ _)))
              go_wp2_with fail
              go_ret
              exact ⟨by rw [← HZ.out, hck.out, ck_bad HI.out Hx.out (by rw [HL.out]; rfl)]; rfl, below_drewN'' HBx.out _⟩
            case true =>
              cases b4
              case false =>
                go_quiet ((go_at_call 19; exact Calls.quiet_of_same (within_q _ _ _ _)))
                go_wp2_with fail
                go_ret
                exact ⟨by rw [← HZ.out, hck.out, ck_bad HI.out Hx.out (by rw [HL.out]; rfl)]; rfl, below_drewN'' HBx.out _⟩
              case true =>
                have HLt : Hid (leB tk ⟨sl, ai, fl, tn, us⟩ = true) := HL.out
                have Hwf := Lib.hid (tk_wf H4.out Ht0.out)
                have HM2 := Lib.hid (HM.out.ext hbx.out)
                obtain ⟨m, hm⟩ : ∃ c, (metsL l k).contains tn = c := ⟨_, rfl⟩
                have Hm := Lib.hid hm
                have hlook : ∀ n, (Instr.lookup 57 (.map (some (w.heap.size + 1))) (.int .i64 tn) false).run Try.prog (w2.drewN n) = .ok (.bool m) (w2.drewN n) := fun n => by
                  rw [← Hm.out]; exact MetAt.look (w := w2.drewN n) HM2.out Hwf.out
                clear hm
                have Hup : Hid (∀ n, ∃ w', (Instr.mapUpdate 57 (.map (some (w.heap.size + 1))) (.int .i64 tn) (.bool true)).run Try.prog (w2.drewN n) = .ok () w' ∧ MetAt w' (w.heap.size + 1) (k + 1) (tn :: metsL l k) ∧ (w2.drewN n).grownBy w' (some (w.heap.size + 1))) :=
                  fun n => MetAt.update (w := w2.drewN n) HM2.out (by unfold maxLen; omega) Hwf.out
                by_cases hk0 : k = 0
                · subst hk0
                  have z0 : decide ((0 : Int) < ((0 : Nat) : Int)) = false := by simp
                  cases m
                  case true =>
                    go_quiet ((go_at_call 19; exact Calls.quiet_of_same (within_q _ _ _ _)))
                    go_wp2_with fail
                    go_ret
                    exact ⟨by rw [← HZ.out, hck.out, ck_met HI.out Hx.out Hm.out]; rfl, below_drewN'' HBx.out _⟩
                  case false =>
                    go_quiet ((go_at_call 19; exact Calls.quiet_of_same (within_q _ _ _ _)))
                    obtain ⟨w3, hrun, hM3, hg3⟩ := Hup.out nq
                    have HM3 := Lib.hid hM3; have Hg3 := Lib.hid hg3
                    clear hM3 hg3
                    go_wp2_with fail
                    have hHB3 := ck_below (below_drewN'' HBx.out nq) Hg3.out
                    have hHC3 := ck_cb ((HCB.out.ext hbx.out).keep (w' := w2.drewN nq) rfl) Hg3.out
                    go_roundw
                    case rel => exact ⟨_, Hlt.out, by go_num, ck_zero HI.out Hx.out HLt.out Hm.out, hHB3, hHC3, by rw [metsL_succ Hx.out]; exact HM3.out⟩
                    case measure => simp [intOf]; have := Hlt.out; omega
                · obtain ⟨j, rfl⟩ : ∃ j, k = j + 1 := ⟨k - 1, by omega⟩
                  obtain ⟨J, hJ⟩ : ∃ J : Int, ((j + 1 : Nat) : Int) = J := ⟨_, rfl⟩
                  have z1 : decide ((0 : Int) < ((j + 1 : Nat) : Int)) = true := decide_eq_true (by omega)
                  have z2 : (0 : Int) < ((j + 1 : Nat) : Int) := by omega
                  have e1 : IntKind.i64.wrap (((j + 1 : Nat) : Int) - 1) = (j : Int) := (IntWalk.i64_in _ (by omega)).trans (by omega)
                  have hjl : j < l.length := by omega
                  have hj1 : (j : Int) < (l.length : Int) := by omega
                  obtain ⟨p, hp⟩ : ∃ p, l[j]? = some p := ⟨_, List.getElem?_eq_getElem hjl⟩
                  have hpc : w2.cell? ⟨b, off + j * 5, none⟩ = some (.int .i64 p.sl) := cell_ext hbx.out (five_of (Hat.out j p hp)).1
                  have Hp := Lib.hid hp
                  clear hp hJ
                  obtain ⟨o, ho⟩ : ∃ c, decide (p.sl < sl) = c := ⟨_, rfl⟩
                  have Ho := Lib.hid ho
                  cases o
                  case false =>
                    have z3 : decide (sl ≤ p.sl) = true := by have := of_decide_eq_false ho; exact decide_eq_true (by omega)
                    clear ho
                    go_quiet ((go_at_call 19; exact Calls.quiet_of_same (within_q _ _ _ _)))
                    go_wp2_with fail
                    go_ret
                    exact ⟨by rw [← HZ.out, hck.out, ck_ord HI.out Hp.out Hx.out Ho.out]; rfl, below_drewN'' HBx.out _⟩
                  case true =>
                    have z3 : decide (sl ≤ p.sl) = false := by have := of_decide_eq_true ho; exact decide_eq_false (by omega)
                    clear ho
                    cases m
                    case true =>
                      go_quiet ((go_at_call 19; exact Calls.quiet_of_same (within_q _ _ _ _)))
                      go_wp2_with fail
                      go_ret
                      exact ⟨by rw [← HZ.out, hck.out, ck_met HI.out Hx.out Hm.out]; rfl, below_drewN'' HBx.out _⟩
                    case false =>
                      go_quiet ((go_at_call 19; exact Calls.quiet_of_same (within_q _ _ _ _)))
                      obtain ⟨w3, hrun, hM3, hg3⟩ := Hup.out nq
                      have HM3 := Lib.hid hM3; have Hg3 := Lib.hid hg3
                      clear hM3 hg3
                      go_wp2_with fail
                      have hHB3 := ck_below (below_drewN'' HBx.out nq) Hg3.out
                      have hHC3 := ck_cb ((HCB.out.ext hbx.out).keep (w' := w2.drewN nq) rfl) Hg3.out
                      go_roundw
                      case rel => exact ⟨_, Hlt.out, by go_num, ck_step HI.out Hp.out Hx.out HLt.out Ho.out Hm.out, hHB3, hHC3, by rw [metsL_succ Hx.out]; exact HM3.out⟩
                      case measure => simp [intOf]; have := Hlt.out; omega
      · have tj : decide ((k : Int) < (l.length : Int)) = false := by simp; omega
        have tj' : decide (k < l.length) = false := by simp; omega
        obtain rfl : k = l.length := by omega
        have hend := Lib.hid (ck_end HI.out)
        go_wp2_with fail
        go_ret
        exact ⟨by rw [← HZ.out, hck.out, hend.out]; rfl, HB.out⟩
end Go.Proofs.Ytlocilbcmcfmaaa
/- leases: the plain laws of their states. -/
namespace Go.Proofs.Ytlocilbcmcfmaaa
open Go.RowKit
/-- valid leases -/
structure Good (tk : Int) (l : List Le) : Prop where
  lo : 0 ≤ tk
  hi : tk ≤ 1048576
  le : ∀ x ∈ l, leB tk x = true
  ord : l.Pairwise (fun x y => x.sl < y.sl)
  one : l.Pairwise (fun x y => x.tk ≠ y.tk)
def ordP (p : Option Int) (x : Le) : Bool := match p with | none => true | some s => decide (s < x.sl)
theorem chkF_cons (tk : Int) (p : Option Int) (T : List Int) (x : Le) (r : List Le) : chkF tk p T (x :: r) = (leB tk x && ordP p x && !T.contains x.tk && chkF tk (some x.sl) (x.tk :: T) r) := by cases p <;> rfl
theorem chkF_iff (tk : Int) : ∀ (l : List Le) (p : Option Int) (T : List Int), chkF tk p T l = true ↔ (∀ x ∈ l, leB tk x = true) ∧ l.Pairwise (fun x y => x.sl < y.sl) ∧ l.Pairwise (fun x y => x.tk ≠ y.tk) ∧ (∀ s, p = some s → ∀ x ∈ l, s < x.sl) ∧ (∀ x ∈ l, x.tk ∉ T)
  | [], p, T => by simp [chkF]
  | x :: r, p, T => by
    rw [chkF_cons, Bool.and_eq_true, Bool.and_eq_true, Bool.and_eq_true, chkF_iff tk r]
    constructor
    · rintro ⟨⟨⟨h1, h2⟩, h3⟩, h4, h5, h6, h7, h8⟩
      have hp : ∀ s, p = some s → s < x.sl := by
        rintro s rfl; simpa [ordP] using h2
      refine ⟨?_, List.pairwise_cons.2 ⟨fun y hy => h7 _ rfl y hy, h5⟩, List.pairwise_cons.2 ⟨fun y hy e => h8 y hy (by rw [← e]; exact List.mem_cons_self), h6⟩, ?_, ?_⟩
      · intro y hy; rcases List.mem_cons.1 hy with rfl | hy
        · exact h1
        · exact h4 y hy
      · intro s hs y hy; rcases List.mem_cons.1 hy with rfl | hy
        · exact hp s hs
        · exact Int.lt_trans (hp s hs) (h7 _ rfl y hy)
      · intro y hy; rcases List.mem_cons.1 hy with rfl | hy
        · simpa using h3
        · exact fun h => h8 y hy (List.mem_cons_of_mem _ h)
    · rintro ⟨h1, h2, h3, h4, h5⟩
      obtain ⟨o1, o2⟩ := List.pairwise_cons.1 h2
      obtain ⟨u1, u2⟩ := List.pairwise_cons.1 h3
      refine ⟨⟨⟨h1 x List.mem_cons_self, ?_⟩, ?_⟩, fun y hy => h1 y (List.mem_cons_of_mem _ hy), o2, u2, ?_, ?_⟩
      · cases p with
        | none => rfl
        | some s => simpa [ordP] using h4 s rfl x List.mem_cons_self
      · simpa using h5 x List.mem_cons_self
      · rintro s e y hy; injection e with e; rw [← e]; exact o1 y hy
      · intro y hy h; rcases List.mem_cons.1 h with e | h
        · exact u1 y hy e.symm
        · exact h5 y (List.mem_cons_of_mem _ hy) h
theorem wiB_iff {n lo hi : Int} : wiB n lo hi = true ↔ lo ≤ n ∧ n ≤ hi := by unfold wiB; simp
theorem good_iff {tk : Int} {l : List Le} : chkL tk l = true ↔ Good tk l := by
  unfold chkL
  rw [Bool.and_eq_true, wiB_iff, chkF_iff]
  constructor
  · rintro ⟨⟨h1, h2⟩, h3, h4, h5, _⟩; exact ⟨h1, h2, h3, h4, h5⟩
  · rintro ⟨h1, h2, h3, h4, h5⟩; exact ⟨⟨h1, h2⟩, h3, h4, h5, (fun _ e => by cases e), fun x _ h => by cases h⟩
/-- the lower bound of a slot -/
def lowN (l : List Le) (s : Int) : Nat := (l.takeWhile (fun x => decide (x.sl < s))).length
theorem cmpZ_neg {a b : Int} : cmpZ a b < 0 ↔ a < b := by
  unfold cmpZ
  by_cases h1 : a < b
  · rw [if_pos h1]; omega
  · rw [if_neg h1]
    by_cases h2 : b < a
    · rw [if_pos h2]; omega
    · rw [if_neg h2]; omega
theorem low_is : ∀ (l : List Le) (s : Int), l.Pairwise (fun x y => x.sl < y.sl) → LowL l s (lowN l s)
  | [], s, _ => ⟨Nat.zero_le _, fun k x h => by simp at h⟩
  | a :: r, s, h => by
    obtain ⟨h1, h2⟩ := List.pairwise_cons.1 h
    obtain ⟨i1, i2⟩ := low_is r s h2
    by_cases ha : a.sl < s
    · have e : lowN (a :: r) s = lowN r s + 1 := by unfold lowN; rw [List.takeWhile_cons, if_pos (by simpa using ha)]; rfl
      rw [e]
      refine ⟨by simpa using i1, fun k x hk => ?_⟩
      cases k with
      | zero =>
        simp at hk; subst hk
        rw [decide_eq_true (cmpZ_neg.2 ha), decide_eq_true (by omega)]
      | succ k =>
        rw [i2 k x (by simpa using hk)]
        simp
    · have e : lowN (a :: r) s = 0 := by unfold lowN; rw [List.takeWhile_cons, if_neg (by simpa using ha)]; rfl
      rw [e]
      refine ⟨Nat.zero_le _, fun k x hk => ?_⟩
      rw [decide_eq_false (by rw [cmpZ_neg]; intro hx; rcases List.mem_cons.1 (List.mem_of_getElem? hk) with rfl | hm
                              · exact ha hx
                              · have := h1 x hm; omega), decide_eq_false (by omega)]
/-- the lease of a slot -/
def getL (l : List Le) (s : Int) : Option Le := l.find? (fun x => x.sl == s)
theorem getL_cons (x : Le) (r : List Le) (s : Int) : getL (x :: r) s = if x.sl = s then some x else getL r s := by
  unfold getL
  by_cases h : x.sl = s
  · rw [List.find?_cons_of_pos (by simpa using h), if_pos h]
  · rw [List.find?_cons_of_neg (by simpa using h), if_neg h]
theorem getL_append (a b : List Le) (s : Int) : getL (a ++ b) s = (getL a s).or (getL b s) := by unfold getL; rw [List.find?_append]
theorem getL_none {l : List Le} {s : Int} (h : ∀ x ∈ l, x.sl ≠ s) : getL l s = none := by
  unfold getL; rw [List.find?_eq_none]; intro x hx; simpa using h x hx
theorem getL_mem {l : List Le} {s : Int} {x : Le} (h : getL l s = some x) : x ∈ l ∧ x.sl = s := by
  unfold getL at h
  exact ⟨List.mem_of_find?_eq_some h, by simpa using List.find?_some h⟩
theorem getL_of {l : List Le} (ho : l.Pairwise (fun x y => x.sl < y.sl)) {x : Le} (hx : x ∈ l) : getL l x.sl = some x := by
  induction l with
  | nil => cases hx
  | cons a r ih =>
    obtain ⟨h1, h2⟩ := List.pairwise_cons.1 ho
    rw [getL_cons]
    rcases List.mem_cons.1 hx with rfl | hm
    · rw [if_pos rfl]
    · rw [if_neg (by have := h1 x hm; omega)]; exact ih h2 hm
theorem low_take {l : List Le} {s : Int} {n : Nat} (h : LowL l s n) : ∀ x ∈ l.take n, x.sl < s := by
  intro x hx
  obtain ⟨k, hk, rfl⟩ := List.mem_iff_getElem.1 hx
  have hk2 : k < n ∧ k < l.length := by rw [List.length_take] at hk; omega
  have := h.2 k (l.take n)[k] (by rw [List.getElem_take]; exact List.getElem?_eq_getElem hk2.2)
  rw [decide_eq_true hk2.1] at this
  exact cmpZ_neg.1 (of_decide_eq_true this)
theorem low_drop {l : List Le} {s : Int} {n : Nat} (h : LowL l s n) : ∀ x ∈ l.drop n, s ≤ x.sl := by
  intro x hx
  obtain ⟨k, hk, rfl⟩ := List.mem_iff_getElem.1 hx
  have hk2 : n + k < l.length := by rw [List.length_drop] at hk; omega
  have := h.2 (n + k) (l.drop n)[k] (by rw [List.getElem_drop]; exact List.getElem?_eq_getElem hk2)
  rw [show decide (n + k < n) = false from decide_eq_false (by omega)] at this
  have := of_decide_eq_false this
  rw [cmpZ_neg] at this; omega
theorem getL_at {l : List Le} {s : Int} {n : Nat} (h : LowL l s n) {x : Le} (hx : l[n]? = some x) (hs : x.sl = s) : getL l s = some x := by
  obtain ⟨h1, h2⟩ := List.getElem?_eq_some_iff.1 hx
  rw [← List.take_append_drop n l, getL_append, getL_none (fun y hy => by have := low_take h y hy; omega), List.drop_eq_getElem_cons h1, h2, getL_cons, if_pos hs]; rfl
theorem getL_not {tk : Int} {l : List Le} {s : Int} {n : Nat} (hg : Good tk l) (h : LowL l s n) (hx : ∀ x, l[n]? = some x → x.sl ≠ s) : getL l s = none := by
  refine getL_none fun y hy e => ?_
  rw [← List.take_append_drop n l] at hy
  rcases List.mem_append.1 hy with hy | hy
  · have := low_take h y hy; omega
  · obtain ⟨k, hk, rfl⟩ := List.mem_iff_getElem.1 hy
    have hk2 : n + k < l.length := by rw [List.length_drop] at hk; omega
    by_cases h0 : k = 0
    · subst h0
      exact hx _ (List.getElem?_eq_getElem (by omega)) (by rw [← e, List.getElem_drop]; rfl)
    · have h3 := List.pairwise_iff_getElem.1 hg.ord n (n + k) (by omega) hk2 (by omega)
      have h4 := low_drop h l[n] (List.mem_iff_getElem.2 ⟨0, by rw [List.length_drop]; omega, by simp⟩)
      rw [List.getElem_drop] at e; omega
theorem hit_iff {l : List Le} {s : Int} {n : Nat} : hitL l s n = true ↔ ∃ x, l[n]? = some x ∧ x.sl = s := by
  unfold hitL
  cases hx : l[n]? with
  | none => simp
  | some x => simp [cmpZ_zero]
theorem getL_insG {l : List Le} {s : Int} {n : Nat} (h : LowL l s n) (hn : getL l s = none) (x : Le) (hx : x.sl = s) (t : Int) : getL (insG l n x) t = if t = s then some x else getL l t := by
  unfold insG
  rw [getL_append, getL_cons, hx]
  by_cases ht : t = s
  · subst ht; rw [if_pos rfl, if_pos rfl, getL_none (fun y hy => by have := low_take h y hy; omega)]; rfl
  · rw [if_neg (fun e => ht e.symm), if_neg ht, ← getL_append, List.take_append_drop]
theorem getL_set {l : List Le} {n : Nat} {x y : Le} (ho : l.Pairwise (fun x y => x.sl < y.sl)) (hx : l[n]? = some x) (hs : y.sl = x.sl) (t : Int) : getL (l.set n y) t = if t = x.sl then some y else getL l t := by
  obtain ⟨h1, h2⟩ := List.getElem?_eq_some_iff.1 hx
  have hb : ∀ z ∈ l.take n, z.sl < x.sl := by
    intro z hz
    obtain ⟨k, hk, rfl⟩ := List.mem_iff_getElem.1 hz
    have hk2 : k < n ∧ k < l.length := by rw [List.length_take] at hk; omega
    have := List.pairwise_iff_getElem.1 ho k n hk2.2 h1 hk2.1
    rw [List.getElem_take, ← h2]; exact this
  rw [List.set_eq_take_append_cons_drop, if_pos h1, getL_append, getL_cons, hs]
  by_cases ht : t = x.sl
  · rw [if_pos ht.symm, if_pos ht, getL_none (fun z hz => by have := hb z hz; omega)]; rfl
  · rw [if_neg (fun e => ht e.symm), if_neg ht]
    conv => rhs; rw [← List.take_append_drop n l]
    rw [List.drop_eq_getElem_cons h1, h2, getL_append, getL_cons, if_neg (fun e => ht e.symm)]
theorem leB_mono {tk tk' : Int} {x : Le} (h : leB tk x = true) (ht : tk ≤ tk') : leB tk' x = true := by
  unfold leB at *
  simp only [Bool.and_eq_true, wiB_iff] at *
  omega
theorem leB_tk {tk : Int} {x : Le} (h : leB tk x = true) : 1 ≤ x.tk ∧ x.tk ≤ tk := by
  unfold leB at h
  simp only [Bool.and_eq_true, wiB_iff] at h
  omega
theorem good_ins {tk : Int} {l : List Le} {s : Int} {n : Nat} (hg : Good tk l) (ht : tk < 1048576) (h : LowL l s n) (hn : getL l s = none) (x : Le) (hx : x.sl = s) (hl : leB (tk + 1) x = true) (hk : x.tk = tk + 1) : Good (tk + 1) (insG l n x) := by
  have hne : ∀ y ∈ l, y.sl ≠ s := fun y hy e => by have := getL_of hg.ord hy; rw [e, hn] at this; cases this
  have hdrop : ∀ y ∈ l.drop n, s < y.sl := fun y hy => by have := low_drop h y hy; have := hne y (List.mem_of_mem_drop hy); omega
  have htk : ∀ y ∈ l, y.tk < tk + 1 := fun y hy => by have := leB_tk (hg.le y hy); omega
  refine ⟨by have := hg.lo; omega, by omega, ?_, ?_, ?_⟩
  · intro y hy
    unfold insG at hy
    rcases List.mem_append.1 hy with hy | hy
    · exact leB_mono (hg.le y (List.mem_of_mem_take hy)) (by omega)
    · rcases List.mem_cons.1 hy with rfl | hy
      · exact hl
      · exact leB_mono (hg.le y (List.mem_of_mem_drop hy)) (by omega)
  · unfold insG
    refine List.pairwise_append.2 ⟨hg.ord.sublist (List.take_sublist _ _), List.pairwise_cons.2 ⟨fun y hy => by rw [hx]; exact hdrop y hy, hg.ord.sublist (List.drop_sublist _ _)⟩, fun a ha b hb => ?_⟩
    have h1 := low_take h a ha
    rcases List.mem_cons.1 hb with rfl | hb
    · omega
    · have := hdrop b hb; omega
  · unfold insG
    refine List.pairwise_append.2 ⟨hg.one.sublist (List.take_sublist _ _), List.pairwise_cons.2 ⟨fun y hy => by have := htk y (List.mem_of_mem_drop hy); omega, hg.one.sublist (List.drop_sublist _ _)⟩, fun a ha b hb => ?_⟩
    have h1 := htk a (List.mem_of_mem_take ha)
    rcases List.mem_cons.1 hb with rfl | hb
    · omega
    · have := hg.one
      rw [← List.take_append_drop n l] at this
      exact (List.pairwise_append.1 this).2.2 a ha b hb
theorem pw_set {α : Type} {R : α → α → Prop} {l : List α} {n : Nat} {x y : α} (hp : l.Pairwise R) (hx : l[n]? = some x) (h1 : ∀ z ∈ l.take n, R z y) (h2 : ∀ z ∈ l.drop (n + 1), R y z) : (l.set n y).Pairwise R := by
  obtain ⟨h3, h4⟩ := List.getElem?_eq_some_iff.1 hx
  rw [List.set_eq_take_append_cons_drop, if_pos h3]
  refine List.pairwise_append.2 ⟨hp.sublist (List.take_sublist _ _), List.pairwise_cons.2 ⟨h2, hp.sublist (List.drop_sublist _ _)⟩, fun a ha b hb => ?_⟩
  rcases List.mem_cons.1 hb with rfl | hb
  · exact h1 a ha
  · have := hp
    rw [← List.take_append_drop n l, List.drop_eq_getElem_cons h3] at this
    exact (List.pairwise_append.1 this).2.2 a ha b (List.mem_cons_of_mem _ hb)
theorem pw_at {α : Type} {R : α → α → Prop} {l : List α} {n : Nat} {x : α} (hp : l.Pairwise R) (hx : l[n]? = some x) : (∀ z ∈ l.take n, R z x) ∧ ∀ z ∈ l.drop (n + 1), R x z := by
  obtain ⟨h3, h4⟩ := List.getElem?_eq_some_iff.1 hx
  have := hp
  rw [← List.take_append_drop n l, List.drop_eq_getElem_cons h3, h4] at this
  obtain ⟨_, h5, h6⟩ := List.pairwise_append.1 this
  exact ⟨fun z hz => h6 z hz x List.mem_cons_self, (List.pairwise_cons.1 h5).1⟩
theorem mem_set {α : Type} {l : List α} {n : Nat} {y z : α} (h : z ∈ l.set n y) : z ∈ l ∨ z = y := List.mem_or_eq_of_mem_set h
theorem good_give {tk : Int} {l : List Le} {n : Nat} {x y : Le} (hg : Good tk l) (ht : tk < 1048576) (hx : l[n]? = some x) (hs : y.sl = x.sl) (hl : leB (tk + 1) y = true) (hk : y.tk = tk + 1) : Good (tk + 1) (l.set n y) := by
  have htk : ∀ z ∈ l, z.tk < tk + 1 := fun z hz => by have := leB_tk (hg.le z hz); omega
  obtain ⟨o1, o2⟩ := pw_at hg.ord hx
  refine ⟨by have := hg.lo; omega, by omega, ?_, pw_set hg.ord hx (fun z hz => by rw [hs]; exact o1 z hz) (fun z hz => by rw [hs]; exact o2 z hz), pw_set hg.one hx (fun z hz => by have := htk z (List.mem_of_mem_take hz); omega) (fun z hz => by have := htk z (List.mem_of_mem_drop hz); omega)⟩
  intro z hz
  rcases mem_set hz with hz | rfl
  · exact leB_mono (hg.le z hz) (by omega)
  · exact hl
theorem good_use {tk : Int} {l : List Le} {n : Nat} {x y : Le} (hg : Good tk l) (hx : l[n]? = some x) (hs : y.sl = x.sl) (hl : leB tk y = true) (hk : y.tk = x.tk) : Good tk (l.set n y) := by
  obtain ⟨o1, o2⟩ := pw_at hg.ord hx
  obtain ⟨u1, u2⟩ := pw_at hg.one hx
  refine ⟨hg.lo, hg.hi, ?_, pw_set hg.ord hx (fun z hz => by rw [hs]; exact o1 z hz) (fun z hz => by rw [hs]; exact o2 z hz), pw_set hg.one hx (fun z hz => by rw [hk]; exact u1 z hz) (fun z hz => by rw [hk]; exact u2 z hz)⟩
  intro z hz
  rcases mem_set hz with hz | rfl
  · exact hg.le z hz
  · exact hl
/-- is a command within the bounds? -/
def cmB (c : Cm) : Bool := (c.kd == 1 || c.kd == 2 || c.kd == 3) && wiB c.sl 0 4095 && wiB c.fl 0 4095 && wiB c.ai 0 7
/-- what Do answers -/
def doR (tk : Int) (l : List Le) (c : Cm) : Int ⊕ (Int × List Le) :=
  if chkL tk l && cmB c then
    (if c.kd = 1 then grantR tk l c (lowN l c.sl) else if c.kd = 2 then giveR tk l c (lowN l c.sl) else useR tk l c (lowN l c.sl))
  else .inl 350
/-- what a command that is performed does -/
structure Did (tk : Int) (l : List Le) (c : Cm) (tk' : Int) (l' : List Le) (x : Le) : Prop where
  good : Good tk' l'
  sl : x.sl = c.sl
  fl : x.fl = c.fl
  oth : ∀ t, getL l' t = if t = c.sl then some x else getL l t
  lo : l.length ≤ l'.length
  hi : l'.length ≤ l.length + 1
  kd : c.kd = 1 ∨ c.kd = 2 ∨ c.kd = 3
  new : c.kd ≠ 3 → tk' = tk + 1 ∧ x = ⟨c.sl, c.ai, c.fl, tk + 1, false⟩
  first : c.kd = 1 → getL l c.sl = none
  held : c.kd ≠ 1 → ∃ y, getL l c.sl = some y ∧ y.tk = c.tk ∧ y.us = false ∧ (c.kd = 3 → tk' = tk ∧ x = { y with us := true })
theorem heldE_none {l : List Le} {c : Cm} {n : Nat} (h : heldE l c n = none) : ∃ y, l[n]? = some y ∧ y.sl = c.sl ∧ y.tk = c.tk ∧ y.us = false := by
  unfold heldE at h
  cases hx : l[n]? with
  | none => rw [hx] at h; cases h
  | some y =>
    rw [hx] at h
    simp only at h
    by_cases h1 : y.sl = c.sl
    · rw [if_neg (by simpa using h1)] at h
      by_cases h2 : y.tk = c.tk
      · rw [if_neg (by simpa using h2)] at h
        cases h3 : y.us with
        | true => rw [h3] at h; cases h
        | false => exact ⟨y, rfl, h1, h2, h3⟩
      · rw [if_pos h2] at h; cases h
    · rw [if_pos h1] at h; cases h
theorem doR_did {tk tk' : Int} {l l' : List Le} {c : Cm} (h : doR tk l c = .inr (tk', l')) : ∃ x, Did tk l c tk' l' x := by
  unfold doR at h
  by_cases hc : (chkL tk l && cmB c) = true
  · rw [if_pos hc] at h
    obtain ⟨hc1, hc2⟩ := Bool.and_eq_true_iff.1 hc
    have hg := good_iff.1 hc1
    have hlow := low_is l c.sl hg.ord
    generalize lowN l c.sl = n at *
    unfold cmB at hc2
    simp only [Bool.and_eq_true, Bool.or_eq_true, beq_iff_eq, wiB_iff] at hc2
    obtain ⟨⟨⟨hk, hs⟩, hf⟩, ha⟩ := hc2
    have hnew : leB (tk + 1) ⟨c.sl, c.ai, c.fl, tk + 1, false⟩ = true := by
      unfold leB
      simp only [Bool.and_eq_true, wiB_iff]
      have := hg.lo; omega
    by_cases k1 : c.kd = 1
    · rw [if_pos k1] at h
      unfold grantR at h
      by_cases hh : hitL l c.sl n = true
      · rw [if_pos hh] at h; cases h
      · rw [if_neg hh] at h
        have hn : getL l c.sl = none := getL_not hg hlow fun x hx e => hh (hit_iff.2 ⟨x, hx, e⟩)
        by_cases ht : tk < 1048576
        · rw [if_pos ht] at h
          injection h with h; injection h with h1 h2; subst h1 h2
          refine ⟨⟨c.sl, c.ai, c.fl, tk + 1, false⟩, good_ins hg ht hlow hn _ rfl hnew rfl, rfl, rfl, fun t => getL_insG hlow hn _ rfl t, ?_, ?_, .inl k1, fun _ => ⟨rfl, rfl⟩, fun _ => hn, fun h => absurd k1 h⟩
          all_goals rw [insG_len _ hlow.1]; omega
        · rw [if_neg ht] at h; cases h
    · rw [if_neg k1] at h
      by_cases k2 : c.kd = 2
      · rw [if_pos k2] at h
        unfold giveR at h
        cases hh : heldE l c n with
        | some k => rw [hh] at h; cases h
        | none =>
          rw [hh] at h
          obtain ⟨y, hy, y1, y2, y3⟩ := heldE_none hh
          by_cases ht : tk < 1048576
          · simp only [if_pos ht] at h
            injection h with h; injection h with h1 h2; subst h1 h2
            refine ⟨⟨c.sl, c.ai, c.fl, tk + 1, false⟩, good_give hg ht hy y1.symm hnew rfl, rfl, rfl, fun t => ?_, ?_, ?_, .inr (.inl k2), fun _ => ⟨rfl, rfl⟩, fun h => absurd h k1, fun _ => ⟨y, getL_at hlow hy y1, y2, y3, fun h => by omega⟩⟩
            · rw [getL_set hg.ord hy (by exact y1.symm), y1]
            · rw [List.length_set]; omega
            · rw [List.length_set]; omega
          · simp only [if_neg ht] at h; cases h
      · rw [if_neg k2] at h
        have k3 : c.kd = 3 := by omega
        unfold useR at h
        cases hh : heldE l c n with
        | some k => rw [hh] at h; cases h
        | none =>
          rw [hh] at h
          obtain ⟨y, hy, y1, y2, y3⟩ := heldE_none hh
          rw [hy] at h
          simp only at h
          by_cases hfl : y.fl = c.fl
          · rw [if_neg (by simpa using hfl)] at h
            injection h with h; injection h with h1 h2; subst h1 h2
            refine ⟨{ y with us := true }, good_use hg hy rfl (hg.le y (List.mem_of_getElem? hy)) rfl, y1, hfl, fun t => ?_, ?_, ?_, .inr (.inr k3), fun h => absurd k3 h, fun h => absurd h k1, fun _ => ⟨y, getL_at hlow hy y1, y2, y3, fun _ => ⟨rfl, rfl⟩⟩⟩
            · rw [getL_set hg.ord hy (by rfl), y1]
            · rw [List.length_set]; omega
            · rw [List.length_set]; omega
          · rw [if_pos hfl] at h; cases h
  · rw [if_neg hc] at h; cases h
end Go.Proofs.Ytlocilbcmcfmaaa
/- commands one after the other, plain. -/
namespace Go.Proofs.Ytlocilbcmcfmaaa
open Go.RowKit
abbrev StL := Int × List Le
def stepS (s : StL) (c : Cm) : StL := match doR s.1 s.2 c with | .inl _ => s | .inr p => p
def errS (s : StL) (c : Cm) : Int := match doR s.1 s.2 c with | .inl k => k | .inr _ => 0
def runF (s : StL) (cs : List Cm) : StL := cs.foldl stepS s
abbrev runS (cs : List Cm) : StL := runF (0, []) cs
def errsF : StL → List Cm → List Int
  | _, [] => []
  | s, c :: r => errS s c :: errsF (stepS s c) r
abbrev errsS (cs : List Cm) : List Int := errsF (0, []) cs
theorem runF_snoc (s : StL) (a : List Cm) (c : Cm) : runF s (a ++ [c]) = stepS (runF s a) c := by unfold runF; rw [List.foldl_append]; rfl
theorem errsF_snoc : ∀ (s : StL) (a : List Cm) (c : Cm), errsF s (a ++ [c]) = errsF s a ++ [errS (runF s a) c]
  | s, [], c => rfl
  | s, x :: r, c => by rw [List.cons_append, errsF, errsF_snoc (stepS s x) r c]; rfl
theorem errsF_len : ∀ (s : StL) (a : List Cm), (errsF s a).length = a.length
  | _, [] => rfl
  | s, _ :: r => by rw [errsF, List.length_cons, List.length_cons, errsF_len _ r]
theorem take_snoc {α : Type} {l : List α} {k : Nat} {x : α} (h : l[k]? = some x) : l.take (k + 1) = l.take k ++ [x] := by
  obtain ⟨h1, h2⟩ := List.getElem?_eq_some_iff.1 h
  rw [List.take_succ_eq_append_getElem h1, h2]
theorem runS_take {cs : List Cm} {k : Nat} {c : Cm} (h : cs[k]? = some c) : runS (cs.take (k + 1)) = stepS (runS (cs.take k)) c := by rw [take_snoc h]; exact runF_snoc _ _ _
theorem errsS_take {cs : List Cm} {k : Nat} {c : Cm} (h : cs[k]? = some c) : errsS (cs.take (k + 1)) = errsS (cs.take k) ++ [errS (runS (cs.take k)) c] := by rw [take_snoc h]; exact errsF_snoc _ _ _
theorem doR_inl {tk : Int} {l : List Le} {c : Cm} {k : Int} (h : doR tk l c = .inl k) : k = 350 ∨ k = 351 ∨ k = 2 := by
  unfold doR at h
  have hh : ∀ {n : Nat} {j : Int}, heldE l c n = some j → j = 350 ∨ j = 351 ∨ j = 2 := by
    intro n j hj
    unfold heldE at hj
    cases hx : l[n]? with
    | none => rw [hx] at hj; injection hj with hj; omega
    | some x =>
      rw [hx] at hj
      simp only at hj
      by_cases h1 : x.sl = c.sl
      · rw [if_neg (by simpa using h1)] at hj
        by_cases h2 : x.tk = c.tk
        · rw [if_neg (by simpa using h2)] at hj
          cases h3 : x.us with
          | true => rw [h3] at hj; injection hj with hj; omega
          | false => rw [h3] at hj; cases hj
        · rw [if_pos h2] at hj; injection hj with hj; omega
      · rw [if_pos h1] at hj; injection hj with hj; omega
  by_cases hc : (chkL tk l && cmB c) = true
  · rw [if_pos hc] at h
    by_cases k1 : c.kd = 1
    · rw [if_pos k1] at h
      unfold grantR at h
      by_cases hb : hitL l c.sl (lowN l c.sl) = true
      · rw [if_pos hb] at h; injection h with h; omega
      · rw [if_neg hb] at h
        by_cases ht : tk < 1048576
        · rw [if_pos ht] at h; cases h
        · rw [if_neg ht] at h; injection h with h; omega
    · rw [if_neg k1] at h
      by_cases k2 : c.kd = 2
      · rw [if_pos k2] at h
        unfold giveR at h
        cases hx : heldE l c (lowN l c.sl) with
        | some j => rw [hx] at h; injection h with h; rw [← h]; exact hh hx
        | none =>
          rw [hx] at h
          by_cases ht : tk < 1048576
          · simp only [if_pos ht] at h; cases h
          · simp only [if_neg ht] at h; injection h with h; omega
      · rw [if_neg k2] at h
        unfold useR at h
        cases hx : heldE l c (lowN l c.sl) with
        | some j => rw [hx] at h; injection h with h; rw [← h]; exact hh hx
        | none =>
          rw [hx] at h
          simp only at h
          cases hy : l[lowN l c.sl]? with
          | none => rw [hy] at h; injection h with h; omega
          | some x =>
            rw [hy] at h
            simp only at h
            by_cases hf : x.fl = c.fl
            · rw [if_neg (by simpa using hf)] at h; cases h
            · rw [if_pos hf] at h; injection h with h; omega
  · rw [if_neg hc] at h; injection h with h; omega
theorem stepS_inl {s : StL} {c : Cm} {k : Int} (h : doR s.1 s.2 c = .inl k) : stepS s c = s ∧ errS s c = k := by unfold stepS errS; rw [h]; exact ⟨rfl, rfl⟩
theorem stepS_inr {s p : StL} {c : Cm} (h : doR s.1 s.2 c = .inr p) : stepS s c = p ∧ errS s c = 0 := by unfold stepS errS; rw [h]; exact ⟨rfl, rfl⟩
theorem stepS_len (s : StL) (c : Cm) : (stepS s c).2.length ≤ s.2.length + 1 := by
  cases h : doR s.1 s.2 c with
  | inl k => rw [(stepS_inl h).1]; omega
  | inr p =>
    rw [(stepS_inr h).1]
    obtain ⟨x, hx⟩ := doR_did (tk' := p.1) (l' := p.2) h
    exact hx.hi
theorem runF_len : ∀ (cs : List Cm) (s : StL), (runF s cs).2.length ≤ s.2.length + cs.length
  | [], s => by unfold runF; simp
  | c :: r, s => by
    have h1 := runF_len r (stepS s c)
    have h2 := stepS_len s c
    have : runF s (c :: r) = runF (stepS s c) r := rfl
    rw [this, List.length_cons]; omega
theorem runS_len (cs : List Cm) (k : Nat) : (runS (cs.take k)).2.length ≤ cs.length := by
  have h := runF_len (cs.take k) (0, [])
  rw [List.length_take] at h
  simp only [List.length_nil] at h
  show (runF (0, []) (cs.take k)).2.length ≤ _
  omega
end Go.Proofs.Ytlocilbcmcfmaaa
/- lease: the map of kinds to operations. -/
namespace Go.Proofs.Ytlocilbcmcfmaaa
open Go.RowKit
open Go.Maps (Keyed)
def opV (f : Nat) : Value := .agg #[.func (.func f) #[] #[]]
def opZ : Value := .agg #[.nilFunc]
theorem op_zero (w : World) : (zeroValue 66).run Try.prog w = .ok opZ w := by kernel_rfl
def opN : Value → Nat
  | .agg a => match (a[0]? : Option Value) with
    | some (Value.func (Fn.func f) _ _) => f + 1
    | _ => 0
  | _ => 0
open Classical in
/-- how an operation reads: by its number -/
noncomputable def opR (v : Value) : Option (DataW Nat × List MemPlace) :=
  if v = opZ then some (.lit (.bool false), []) else if v = opV (opN v - 1) then some (.lit (.int .i64 (opN v - 1 : Nat)), []) else none
theorem opZ_ne (f : Nat) : opV f ≠ opZ := fun h => absurd (congrArg opN h) (by show ¬ f + 1 = 0; omega)
theorem opR_op (f : Nat) : opR (opV f) = some (.lit (.int .i64 (f : Int)), []) := by
  unfold opR
  rw [if_neg (opZ_ne f), if_pos (show opV f = opV (opN (opV f) - 1) from rfl)]; rfl
theorem opR_z : opR opZ = some (.lit (.bool false), []) := by unfold opR; rw [if_pos rfl]
def unI : DataW Nat → Int
  | .lit (.int _ x) => x
  | _ => -1
theorem opR_inv {v : Value} {f : Nat} {ps : List MemPlace} (h : opR v = some (.lit (.int .i64 (f : Int)), ps)) : v = opV f := by
  unfold opR at h
  split at h
  · have := congrArg unI (congrArg Prod.fst (Option.some.inj h))
    exact absurd this (by show ¬ (-1 : Int) = f; omega)
  · split at h
    · rename_i hv
      have h2 : ((opN v - 1 : Nat) : Int) = (f : Int) := congrArg unI (congrArg Prod.fst (Option.some.inj h))
      rw [hv, show opN v - 1 = f by omega]
    · cases h
theorem opR_zero {v : Value} {ps : List MemPlace} (h : opR v = some (.lit (.bool false), ps)) : v = opZ := by
  unfold opR at h
  split at h
  · assumption
  · split at h
    · have := congrArg unI (congrArg Prod.fst (Option.some.inj h))
      exact absurd this (by show ¬ ((opN v - 1 : Nat) : Int) = -1; omega)
    · cases h
/-- block b is the map of the three operations -/
def KindsAt (w : World) (b : Nat) : Prop :=
  ∃ (n : Nat) (D : DataW Nat), w.ownsMap Try.prog 3 opR b n D ∧ (∀ k : Int, Maps.has D (.int .i64 k) = (k == 1 || k == 2 || k == 3)) ∧
    D.atKey (.int .i64 1) (.lit (.bool false)) = .lit (.int .i64 ((24 : Nat) : Int)) ∧ D.atKey (.int .i64 2) (.lit (.bool false)) = .lit (.int .i64 ((25 : Nat) : Int)) ∧ D.atKey (.int .i64 3) (.lit (.bool false)) = .lit (.int .i64 ((26 : Nat) : Int))
theorem key_lit (a : Int) : WideAt.IsKeyLit (.int .i64 a) := trivial
theorem lit_ne {a b : Int} (h : a ≠ b) : (Lit.int .i64 a) ≠ (Lit.int .i64 b) := fun e => h (by injection e)
theorem kinds_made (w : World) : ∃ w1 w2 w3, (Instr.mapUpdate 67 (.map (some w.heap.size)) (.int .i64 1) (opV 24)).run Try.prog (w.alloc (.map #[] 0)) = .ok () w1 ∧
    (Instr.mapUpdate 67 (.map (some w.heap.size)) (.int .i64 2) (opV 25)).run Try.prog w1 = .ok () w2 ∧
    (Instr.mapUpdate 67 (.map (some w.heap.size)) (.int .i64 3) (opV 26)).run Try.prog w2 = .ok () w3 ∧ KindsAt w3 w.heap.size ∧ Below w.heap.size w w3 := by
  have h0 := World.ownsMap_made w Try.prog 3 opR
  obtain ⟨w1, r1, o1, g1⟩ := h0.update keyed_int Try.underlying67 (by unfold maxLen; omega) (key_int (a := 1) (by decide)) (opR_op 24)
  obtain ⟨w2, r2, o2, g2⟩ := o1.update keyed_int Try.underlying67 (by unfold maxLen; omega) (key_int (a := 2) (by decide)) (opR_op 25)
  obtain ⟨w3, r3, o3, g3⟩ := o2.update keyed_int Try.underlying67 (by unfold maxLen; omega) (key_int (a := 3) (by decide)) (opR_op 26)
  have hg : (w.alloc (.map #[] 0)).grownBy w3 (some w.heap.size) := grown_trans (grown_trans g1 g2 (.inl rfl)) g3 (.inl rfl)
  refine ⟨w1, w2, w3, r1, r2, r3, ⟨_, _, o3, ?_, ?_, ?_, ?_⟩, ?_⟩
  · intro k
    by_cases h3 : k = 3
    · subst h3; rw [Maps.has_put_same o2.isMap (key_lit _)]; rfl
    rw [Maps.has_put_other (lit_ne h3)]
    by_cases h2 : k = 2
    · subst h2; rw [Maps.has_put_same o1.isMap (key_lit _)]; rfl
    rw [Maps.has_put_other (lit_ne h2)]
    by_cases h1 : k = 1
    · subst h1; rw [Maps.has_put_same h0.isMap (key_lit _)]; rfl
    rw [Maps.has_put_other (lit_ne h1), beq_eq_false_iff_ne.2 h1, beq_eq_false_iff_ne.2 h2, beq_eq_false_iff_ne.2 h3]; rfl
  · rw [Maps.atKey_put_other (lit_ne (by decide)), Maps.atKey_put_other (lit_ne (by decide)), Maps.atKey_put_same h0.isMap (key_lit _)]
  · rw [Maps.atKey_put_other (lit_ne (by decide)), Maps.atKey_put_same o1.isMap (key_lit _)]
  · rw [Maps.atKey_put_same o2.isMap (key_lit _)]
  · exact ((Below.refl w.heap.size w).alloc (Nat.le_refl _) (.map #[] 0)).trans ⟨hg.os, hg.tape, hg.output, hg.size, fun k hk => hg.block k (by rw [World.size_alloc]; omega) (fun e => by injection e; omega)⟩
/-- what a kind is mapped to -/
def kdV (k : Int) : Value := if k = 1 then opV 24 else if k = 2 then opV 25 else if k = 3 then opV 26 else opZ
theorem KindsAt.look {w : World} {b : Nat} (h : KindsAt w b) {k : Int} (hk : (Lit.int .i64 k).wf = true) : (Instr.lookup 67 (.map (some b)) (.int .i64 k) true).run Try.prog w = .ok (.tuple #[kdV k, .bool (k == 1 || k == 2 || k == 3)]) w := by
  obtain ⟨n, D, ho, hh, h1, h2, h3⟩ := h
  obtain ⟨v, ps, hrun, hv⟩ := ho.look_ok keyed_int Try.underlying67 (op_zero w) opR_z (key_int hk)
  rw [hh k] at hrun
  have e : v = kdV k := by
    unfold kdV
    by_cases k1 : k = 1
    · subst k1; rw [h1] at hv; rw [if_pos rfl]; exact opR_inv hv
    rw [if_neg k1]
    by_cases k2 : k = 2
    · subst k2; rw [h2] at hv; rw [if_pos rfl]; exact opR_inv hv
    rw [if_neg k2]
    by_cases k3 : k = 3
    · subst k3; rw [h3] at hv; rw [if_pos rfl]; exact opR_inv hv
    rw [if_neg k3]
    have hn : Maps.has D (.int .i64 k) = false := by rw [hh k, beq_eq_false_iff_ne.2 k1, beq_eq_false_iff_ne.2 k2, beq_eq_false_iff_ne.2 k3]; rfl
    rw [Maps.atKey_of_not_has hn] at hv
    exact opR_zero hv
  rw [← e]; exact hrun
theorem KindsAt.ext {w w' : World} {b : Nat} (h : KindsAt w b) (hb : Below w.heap.size w w') : KindsAt w' b := by
  obtain ⟨n, D, ⟨es, clock, h1, F, hs, hD⟩, q⟩ := h
  have hlt : b < w.heap.size := (Array.getElem?_eq_some_iff.1 h1).1
  exact ⟨n, D, ⟨es, clock, (hb.block b hlt).trans h1, F, hs, hD⟩, q⟩
end Go.Proofs.Ytlocilbcmcfmaaa
/- lease.Do. -/
namespace Go.Proofs.Ytlocilbcmcfmaaa
open Go.RowKit
/-- leases: the token and the list -/
structure Ls where
  tk : Int
  l : List Le
def lsV (tk : Int) (v : Value) : Value := .agg #[.int .i64 tk, v]
/-- what Do answers -/
def DoPost (R : Int ⊕ (Int × List Le)) (w : World) (e : Ending) (w' : World) : Prop :=
  Below w.heap.size w w' ∧ match R with
    | .inl k => e = .returned (.tuple #[lsV 0 (.slice none 0 0), .int .i64 k])
    | .inr (tk', l') => ∃ v', e = .returned (.tuple #[lsV tk' v', .int .i64 0]) ∧ OwnLe w' w.heap.size v' l'
/-- the world in which Do has laid its four boxes -/
def DoW (w : World) (tk : Int) (v : Value) (c : Cm) : World :=
  (((w.alloc (.cells #[.int .i64 tk, v] 26)).alloc (.cells #[.int .i64 c.kd, .int .i64 c.sl, .int .i64 c.ai, .int .i64 c.fl, .int .i64 c.tk] 33)).alloc (.cells #[.int .i64 0, .slice none 0 0] 26)).alloc (.cells #[.int .i64 0] 30)
/-- the four boxes, in whatever world behind it -/
structure DoB (w : World) (g : Nat) (tk : Int) (v : Value) (c : Cm) (rt : Int) (rv : Value) (e : Int) : Prop where
  b0 : CB w g 26 [.int .i64 tk, v]
  b1 : CB w (g + 1) 33 c.cells
  b2 : CB w (g + 1 + 1) 26 [.int .i64 rt, rv]
  b3 : CB w (g + 1 + 1 + 1) 30 [.int .i64 e]
theorem DoB.ext {w w' : World} {g : Nat} {tk : Int} {v : Value} {c : Cm} {rt : Int} {rv : Value} {e : Int} (h : DoB w g tk v c rt rv e) (hb : Below w.heap.size w w') : DoB w' g tk v c rt rv e := ⟨h.b0.ext hb, h.b1.ext hb, h.b2.ext hb, h.b3.ext hb⟩
theorem doW_box (w : World) (tk : Int) (v : Value) (c : Cm) : DoB (DoW w tk v c) w.heap.size tk v c 0 (.slice none 0 0) 0 := by
  have h0 : CB (w.alloc (.cells #[.int .i64 tk, v] 26)) w.heap.size 26 [.int .i64 tk, v] := CB.new w _ _
  have h1 : CB ((w.alloc (.cells #[.int .i64 tk, v] 26)).alloc (.cells #[.int .i64 c.kd, .int .i64 c.sl, .int .i64 c.ai, .int .i64 c.fl, .int .i64 c.tk] 33)) (w.heap.size + 1) 33 c.cells := cb_two w _ _ _
  have h2 := cb_two (w.alloc (.cells #[.int .i64 tk, v] 26)) (.cells #[.int .i64 c.kd, .int .i64 c.sl, .int .i64 c.ai, .int .i64 c.fl, .int .i64 c.tk] 33) 26 [.int .i64 0, .slice none 0 0]
  have h3 := cb_two ((w.alloc (.cells #[.int .i64 tk, v] 26)).alloc (.cells #[.int .i64 c.kd, .int .i64 c.sl, .int .i64 c.ai, .int .i64 c.fl, .int .i64 c.tk] 33)) (.cells #[.int .i64 0, .slice none 0 0] 26) 30 [.int .i64 0]
  rw [World.size_alloc] at h2
  rw [World.size_alloc, World.size_alloc] at h3
  exact ⟨((h0.alloc _).alloc _).alloc _, (h1.alloc _).alloc _, h2.alloc _, h3⟩
theorem doW_below (w : World) (tk : Int) (v : Value) (c : Cm) : Below w.heap.size w (DoW w tk v c) := by
  unfold DoW
  refine Below.alloc (Below.alloc (Below.alloc ((Below.refl w.heap.size w).alloc (Nat.le_refl _) _) ?_ _) ?_ _) ?_ _ <;> simp only [World.size_alloc] <;> omega
theorem doW_at {w : World} {tk : Int} {l : List Le} {v : Value} (c : Cm) (h : LesAt w.heap.size w l v) : LesAt (DoW w tk v c).heap.size (DoW w tk v c) l v := h.ext (doW_below w tk v c)
theorem doW_size (w : World) (tk : Int) (v : Value) (c : Cm) : (DoW w tk v c).heap.size = w.heap.size + 1 + 1 + 1 + 1 := by unfold DoW; rw [World.size_alloc, World.size_alloc, World.size_alloc, World.size_alloc]
set_option maxRecDepth 100000 in
set_option maxHeartbeats 2000000 in
theorem do_bad (tk : Int) (l : List Le) (v : Value) (c : Cm) (w : World) (hl : LesAt w.heap.size w l v) (hlen : l.length ≤ 2000) (hc : chkL tk l = false) :
    Calls Try.prog 12 #[lsV tk v, c.v] w (DoPost (.inl 350) w) := by
  have hmf : ∀ (fn : Fn) (first cap : Array Value) (w : World), (Instr.makeFunc fn first cap).run Try.prog w = .ok (.func fn first cap) w := fun _ _ _ _ => rfl
  have HX := Lib.hid (doW_box w tk v c); have HB := Lib.hid (doW_below w tk v c); have HR := Lib.hid (doW_at (tk := tk) c hl); have hsz := Lib.hid (doW_size w tk v c)
  have Hlen := Lib.hid hlen; have Hc := Lib.hid hc
  obtain ⟨oa, cap, rfl, hlm⟩ := hl.shape
  obtain ⟨kd, sl, ai, fl, ct⟩ := c
  clear hl hlen hc hlm
  change Calls Try.prog 12 #[.agg #[.int .i64 tk, .slice oa l.length cap], .agg #[.int .i64 kd, .int .i64 sl, .int .i64 ai, .int .i64 fl, .int .i64 ct]] w _
  go_enter_defers Try.func12, Try.ntmps12
  go_upto_region 2 with fail
  change Code.wp _ _ _ _ (DoW w tk (.slice oa l.length cap) ⟨kd, sl, ai, fl, ct⟩)
  generalize DoW w tk (.slice oa l.length cap) ⟨kd, sl, ai, fl, ct⟩ = w0 at *
  have a0 : w0.cell? ⟨w.heap.size, 0, none⟩ = some (.int .i64 tk) := HX.out.b0.cell 0
  have a1 : w0.cell? ⟨w.heap.size, 1, none⟩ = some (.slice oa l.length cap) := HX.out.b0.cell 1
  go_upto_region 3 with (go_at_call 9; refine (lcheck_any tk l _ w0 HR.out Hlen.out).mono ?_; rw [Hc.out]; rintro e w1 ⟨rfl, hb1⟩; have HX1 := Lib.hid (HX.out.ext hb1); have e0 : w1.cell? ⟨w.heap.size + 1 + 1 + 1, 0, none⟩ = some (.int .i64 0) := HX1.out.b3.cell 0; have e1 : w1.frozen? ⟨w.heap.size + 1 + 1 + 1, 0, none⟩ = false := HX1.out.b3.frozen 0)
  have HB1 := Lib.hid (below_ext HB.out hb1)
  have HX2 : Hid (DoB (w1.setCell ⟨w.heap.size + 1 + 1 + 1, 0, none⟩ (.int .i64 350)) w.heap.size tk (.slice oa l.length cap) ⟨kd, sl, ai, fl, ct⟩ 0 (.slice none 0 0) 350) :=
    ⟨HX1.out.b0.far (by simp; omega) _, HX1.out.b1.far (by simp) _, HX1.out.b2.far (by simp) _, HX1.out.b3.set 0 _⟩
  have HB2 := Lib.hid (HB1.out.setCell (p := ⟨w.heap.size + 1 + 1 + 1, 0, none⟩) (by simp; omega) (.int .i64 350))
  clear e0 e1 a0 a1 hb1
  generalize w1.setCell ⟨w.heap.size + 1 + 1 + 1, 0, none⟩ (.int .i64 350) = w2 at *
  have r0 : w2.cell? ⟨w.heap.size + 1 + 1, 0, none⟩ = some (.int .i64 0) := HX2.out.b2.cell 0
  have r1 : w2.cell? ⟨w.heap.size + 1 + 1, 1, none⟩ = some (.slice none 0 0) := HX2.out.b2.cell 1
  have r2 : w2.cell? ⟨w.heap.size + 1 + 1 + 1, 0, none⟩ = some (.int .i64 350) := HX2.out.b3.cell 0
  have z0 : w2.frozen? ⟨w.heap.size + 1 + 1, 0, none⟩ = false := HX2.out.b2.frozen 0
  have z1 : w2.frozen? ⟨w.heap.size + 1 + 1, 1, none⟩ = false := HX2.out.b2.frozen 1
  have z2 : w2.frozen? ⟨w.heap.size + 1 + 1 + 1, 0, none⟩ = false := HX2.out.b3.frozen 0
  go_wp2
  go_region
  have HXf : Hid (DoB (((w2.setCell ⟨w.heap.size + 1 + 1, 0, none⟩ (.int .i64 0)).setCell ⟨w.heap.size + 1 + 1, 1, none⟩ (.slice none 0 0)).setCell ⟨w.heap.size + 1 + 1 + 1, 0, none⟩ (.int .i64 350)).drew w.heap.size tk (.slice oa l.length cap) ⟨kd, sl, ai, fl, ct⟩ 0 (.slice none 0 0) 350) :=
    DoB.ext (w := ((w2.setCell ⟨w.heap.size + 1 + 1, 0, none⟩ (.int .i64 0)).setCell ⟨w.heap.size + 1 + 1, 1, none⟩ (.slice none 0 0)).setCell ⟨w.heap.size + 1 + 1 + 1, 0, none⟩ (.int .i64 350)) ⟨((HX2.out.b0.far (by simp; omega) _).far (by simp; omega) _).far (by simp; omega) _, ((HX2.out.b1.far (by simp) _).far (by simp) _).far (by simp) _, ((HX2.out.b2.set 0 _).set 1 _).far (by simp) _, ((HX2.out.b3.far (by simp) _).far (by simp) _).set 0 _⟩ (Below.refl _ _).drew
  have HBf : Hid (Below w.heap.size w (((w2.setCell ⟨w.heap.size + 1 + 1, 0, none⟩ (.int .i64 0)).setCell ⟨w.heap.size + 1 + 1, 1, none⟩ (.slice none 0 0)).setCell ⟨w.heap.size + 1 + 1 + 1, 0, none⟩ (.int .i64 350)).drew) :=
    (((HB2.out.setCell (by simp; omega) _).setCell (by simp; omega) _).setCell (by simp; omega) _).drew
  clear r0 r1 r2 z0 z1 z2
  generalize (((w2.setCell ⟨w.heap.size + 1 + 1, 0, none⟩ (.int .i64 0)).setCell ⟨w.heap.size + 1 + 1, 1, none⟩ (.slice none 0 0)).setCell ⟨w.heap.size + 1 + 1 + 1, 0, none⟩ (.int .i64 350)).drew = wf at *
  go_wp2
  have q0 : wf.cell? ⟨w.heap.size + 1 + 1, 0, none⟩ = some (.int .i64 0) := HXf.out.b2.cell 0
  have q1 : wf.cell? ⟨w.heap.size + 1 + 1, 1, none⟩ = some (.slice none 0 0) := HXf.out.b2.cell 1
  have q2 : wf.cell? ⟨w.heap.size + 1 + 1 + 1, 0, none⟩ = some (.int .i64 350) := HXf.out.b3.cell 0
  refine leaves_cons (f := 22) (args := #[.pointer (some ⟨w.heap.size + 1 + 1 + 1, 0, none⟩)]) (by simp) (by simp [go_sem]) ?_
  refine (do1_idle (w.heap.size + 1 + 1 + 1) wf).mono ?_
  rintro e u' w'' ⟨rfl, rfl, rfl⟩
  simp [Leaves, settle, results, Try.results12, go_sem, q0, q1, q2]
  exact ⟨HBf.out, rfl⟩
end Go.Proofs.Ytlocilbcmcfmaaa
