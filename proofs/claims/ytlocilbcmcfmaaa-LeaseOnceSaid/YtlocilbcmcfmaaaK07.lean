/- Merged: Lsm Lru Lho Num Val Form. -/
import Derived.Test.YtlocilbcmcfmaaaK01
import Derived.Test.YtlocilbcmcfmaaaK04
import Derived.Test.YtlocilbcmcfmaaaK06
import Derived.Deep.QuietTactic
import Derived.BigQuiet
import Derived.Deep.DeepCutAuto
/- the reference's Same, SameErrs, Few. -/
namespace Go.Proofs.Ytlocilbcmcfmaaa
open Go.RowKit
/-- numbers of errors, as elements of one cell -/
def erK : EK Int := ⟨1, fun x => [.int .i64 x], fun _ => rfl, fun x u hu => by simp only [List.mem_cons, List.not_mem_nil, or_false] at hu; subst hu; rfl, by decide⟩
theorem er_at {w : World} {b o : Nat} {x : Int} (h : ElAt erK w b o x) : w.cell? ⟨b, o, none⟩ = some (.int .i64 x) := h 0 _ rfl
def sameL (ta : Int) (la : List Le) (tb : Int) (lb : List Le) : Bool := ta == tb && decide (la = lb)
def SamRel {α : Type} (a b : List α) (w : World) (i : Value) (wr : World) : Prop := ∃ k n : Nat, k ≤ a.length ∧ i = .int .i64 k ∧ (∀ j, j < k → a[j]? = b[j]?) ∧ wr = w.drewN n
theorem sam_no {α : Type} {a b : List α} {k : Nat} {x y : α} (hx : a[k]? = some x) (hy : b[k]? = some y) (h : x ≠ y) : a ≠ b := fun e => h (by rw [e, hy] at hx; injection hx with hx; exact hx.symm)
theorem sam_yes {α : Type} {a b : List α} (hl : a.length = b.length) (h : ∀ j, j < a.length → a[j]? = b[j]?) : a = b := by
  apply List.ext_getElem? ; intro j
  by_cases hj : j < a.length
  · exact h j hj
  · rw [List.getElem?_eq_none (by omega), List.getElem?_eq_none (by omega)]
set_option maxRecDepth 100000 in
set_option maxHeartbeats 4000000 in
theorem same35_any (ta : Int) (la : List Le) (va : Value) (tb : Int) (lb : List Le) (vb : Value) (w : World) (ha : LesAt w.heap.size w la va) (hb : LesAt w.heap.size w lb vb) :
    Calls Try.prog 13 #[lsV ta va, lsV tb vb] w fun e w' => e = .returned (.bool (sameL ta la tb lb)) ∧ Below w.heap.size w w' := by
  have HA := Lib.hid ha; have HB := Lib.hid hb
  obtain ⟨oa, ca, rfl, hla⟩ := ha.shape
  obtain ⟨ob, cb, rfl, hlb⟩ := hb.shape
  have bla : (la.length : Int) ≤ 9223372036854775807 := by omega
  have blb : (lb.length : Int) ≤ 9223372036854775807 := by omega
  clear ha hb hla hlb
  have h0 : Hid (CB ((w.alloc (.cells #[.int .i64 ta, .slice oa la.length ca] 26)).alloc (.cells #[.int .i64 tb, .slice ob lb.length cb] 26)) w.heap.size 26 [.int .i64 ta, .slice oa la.length ca]) := (CB.new w _ _).alloc _
  have h1 : Hid (CB ((w.alloc (.cells #[.int .i64 ta, .slice oa la.length ca] 26)).alloc (.cells #[.int .i64 tb, .slice ob lb.length cb] 26)) (w.heap.size + 1) 26 [.int .i64 tb, .slice ob lb.length cb]) := cb_two w _ _ _
  have hB0 : Hid (Below w.heap.size w ((w.alloc (.cells #[.int .i64 ta, .slice oa la.length ca] 26)).alloc (.cells #[.int .i64 tb, .slice ob lb.length cb] 26))) := by
    refine Below.alloc ((Below.refl w.heap.size w).alloc (Nat.le_refl _) _) ?_ _; simp only [World.size_alloc]; omega
  have HA0 := Lib.hid (HA.out.ext hB0.out); have HB0 := Lib.hid (HB.out.ext hB0.out)
  obtain ⟨r, hr⟩ : ∃ r, sameL ta la tb lb = r := ⟨_, rfl⟩
  rw [hr]
  have HR := Lib.hid hr; clear hr
  obtain ⟨z, hz⟩ : ∃ z, (ta != tb) = z := ⟨_, rfl⟩
  have Hz := Lib.hid hz
  change Calls Try.prog 13 #[.agg #[.int .i64 ta, .slice oa la.length ca], .agg #[.int .i64 tb, .slice ob lb.length cb]] w _
  go_enter Try.func13, Try.ntmps13
  go_upto_region 1 with fail
  generalize (w.alloc (.cells #[.int .i64 ta, .slice oa la.length ca] 26)).alloc (.cells #[.int .i64 tb, .slice ob lb.length cb] 26) = w0 at *
  have c0 : w0.cell? ⟨w.heap.size, 0, none⟩ = some (.int .i64 ta) := h0.out.cell 0
  have c1 : w0.cell? ⟨w.heap.size, 1, none⟩ = some (.slice oa la.length ca) := h0.out.cell 1
  have d0 : w0.cell? ⟨w.heap.size + 1, 0, none⟩ = some (.int .i64 tb) := h1.out.cell 0
  have d1 : w0.cell? ⟨w.heap.size + 1, 1, none⟩ = some (.slice ob lb.length cb) := h1.out.cell 1
  cases z
  case true =>
    have e : Hid (r = false) := by
      show _ = _
      rw [← HR.out]; unfold sameL; rw [bne_iff_ne] at hz; rw [beq_eq_false_iff_ne.2 hz]; rfl
    go_wp2
    go_ret
    exact ⟨by rw [e.out]; rfl, hB0.out⟩
  case false =>
  have Htt : Hid (r = decide (la = lb)) := by
    show _ = _
    rw [← HR.out]; unfold sameL; rw [bne_eq_false_iff_eq] at hz; rw [hz]; simp
  by_cases hlen : la.length = lb.length
  case neg =>
    have hne : (((la.length : Nat) : Int) != ((lb.length : Nat) : Int)) = true := by rw [bne_iff_ne]; omega
    have e : Hid (r = false) := by
      show _ = _
      rw [Htt.out]; exact decide_eq_false fun e => hlen (by rw [e])
    clear hlen
    go_wp2
    go_ret
    exact ⟨by rw [e.out]; rfl, hB0.out⟩
  case pos =>
    have hne : (((la.length : Nat) : Int) != ((lb.length : Nat) : Int)) = false := by rw [bne_eq_false_iff_eq]; omega
    have Hlen := Lib.hid hlen
    clear hlen
    go_wp2_with fail
    clear hne hz c0 c1 d0 d1
    go_loopw [5] (fun i wr => SamRel la lb w0 i wr) (fun i _ => la.length - (intOf i).toNat)
    case atStart => exact ⟨0, 0, by omega, rfl, fun j h => by omega, rfl⟩
    case round =>
      obtain ⟨k, n, hk, rfl, hi, rfl⟩ := hrel
      have HI := Lib.hid hi
      clear hi
      have c1 : (w0.drewN n).cell? ⟨w.heap.size, 1, none⟩ = some (.slice oa la.length ca) := h0.out.cell 1
      have d1 : (w0.drewN n).cell? ⟨w.heap.size + 1, 1, none⟩ = some (.slice ob lb.length cb) := h1.out.cell 1
      by_cases hlt : k < la.length
      · have tj : decide ((k : Int) < (la.length : Int)) = true := by simp; omega
        have tj' : decide (k < la.length) = true := by simp; omega
        have hltb : k < lb.length := by rw [← Hlen.out]; exact hlt
        have kb : (k : Int) < (lb.length : Int) := by omega
        have ka : (k : Int) < (la.length : Int) := by omega
        obtain ⟨x, hx⟩ : ∃ r, la[k]? = some r := ⟨_, List.getElem?_eq_getElem hlt⟩
        obtain ⟨y, hy⟩ : ∃ r, lb[k]? = some r := ⟨_, List.getElem?_eq_getElem hltb⟩
        obtain ⟨g, o1, rfl, _, q1⟩ := HA0.out.at hlt
        obtain ⟨q, o2, rfl, _, q2⟩ := HB0.out.at hltb
        obtain ⟨x0, x1, x2, x3, x4⟩ := five_of ((q1 k x hx).keep (w' := w0.drewN n) rfl)
        obtain ⟨y0, y1, y2, y3, y4⟩ := five_of ((q2 k y hy).keep (w' := w0.drewN n) rfl)
        change (w0.drewN n).cell? ⟨g, o1 + k * 5, none⟩ = _ at x0
        change (w0.drewN n).cell? ⟨g, o1 + k * 5 + 1, none⟩ = _ at x1
        change (w0.drewN n).cell? ⟨g, o1 + k * 5 + 2, none⟩ = _ at x2
        change (w0.drewN n).cell? ⟨g, o1 + k * 5 + 3, none⟩ = _ at x3
        change (w0.drewN n).cell? ⟨g, o1 + k * 5 + 4, none⟩ = _ at x4
        change (w0.drewN n).cell? ⟨q, o2 + k * 5, none⟩ = _ at y0
        change (w0.drewN n).cell? ⟨q, o2 + k * 5 + 1, none⟩ = _ at y1
        change (w0.drewN n).cell? ⟨q, o2 + k * 5 + 2, none⟩ = _ at y2
        change (w0.drewN n).cell? ⟨q, o2 + k * 5 + 3, none⟩ = _ at y3
        change (w0.drewN n).cell? ⟨q, o2 + k * 5 + 4, none⟩ = _ at y4
        obtain ⟨t, ht⟩ : ∃ t, decide (x = y) = t := ⟨_, rfl⟩
        have heq : ∀ w : World, (Op.equalIn 10000 36 (.agg #[.int .i64 x.sl, .int .i64 x.ai, .int .i64 x.fl, .int .i64 x.tk, .bool x.us]) (.agg #[.int .i64 y.sl, .int .i64 y.ai, .int .i64 y.fl, .int .i64 y.tk, .bool y.us])).run Try.prog w = .ok t w := fun w => by rw [← ht]; exact eq_le x y w
        have HX := Lib.hid hx; have HY := Lib.hid hy; have HT := Lib.hid ht
        clear hx hy q1 q2 ht hltb
        generalize hwn : w0.drewN n = w5 at *
        have Hwn := Lib.hid hwn
        clear hwn
        cases t
        · go_wp2_with fail
          go_quiet (fail)
          go_wp2
          go_ret
          have e : r = false := by rw [Htt.out]; exact decide_eq_false (sam_no HX.out HY.out (of_decide_eq_false HT.out))
          exact ⟨by rw [e]; rfl, by rw [← Hwn.out]; exact hB0.out.trans (below_drewN'' (below_drewN'' (Below.refl _ _) _) _)⟩
        · go_wp2_with fail
          go_quiet (fail)
          go_wp2
          go_roundw
          case rel => exact ⟨k + 1, n + nq, by omega, by go_num, fun j hj => by
            by_cases e : j = k
            · subst e; rw [HX.out, HY.out, of_decide_eq_true HT.out]
            · exact HI.out j (by omega), by rw [← Hwn.out, World.drewN_drewN]⟩
          case measure => simp [intOf]; omega
      · obtain rfl : k = la.length := by omega
        have tj : decide ((la.length : Int) < (la.length : Int)) = false := by simp
        have e : Hid (r = true) := by
          show _ = _
          rw [Htt.out]; exact decide_eq_true (sam_yes Hlen.out HI.out)
        go_wp2_with fail
        go_ret
        exact ⟨by rw [e.out]; rfl, hB0.out.trans (below_drewN'' (Below.refl _ _) _)⟩
set_option maxRecDepth 100000 in
theorem few35_any (tk : Int) (l : List Le) (v : Value) (w : World) (hl : LesAt w.heap.size w l v) :
    Calls Try.prog 14 #[lsV tk v] w fun e w' => e = .returned (.bool (decide (l.length ≤ 40))) ∧ Below w.heap.size w w' := by
  obtain ⟨oa, cap, rfl, hlm⟩ := hl.shape
  obtain ⟨z, hz⟩ : ∃ z, decide (l.length ≤ 40) = z := ⟨_, rfl⟩
  have hz' : decide ((l.length : Int) ≤ 40) = z := by rw [← hz, decide_eq_decide]; omega
  have Hz := Lib.hid hz
  have hb0 := Lib.hid ((Below.refl w.heap.size w).alloc (Nat.le_refl _) (.cells #[.int .i64 tk, .slice oa l.length cap] 26))
  rw [hz]
  clear hl
  change Calls Try.prog 14 #[.agg #[.int .i64 tk, .slice oa l.length cap]] w _
  go_enter Try.func14, Try.ntmps14
  go_wp2
  go_ret
  exact ⟨by first | rfl | (simp [hz']), hb0.out⟩
set_option maxRecDepth 100000 in
set_option maxHeartbeats 4000000 in
theorem sameErrs_any (a b : List Int) (u v : Value) (w : World) (ha : LsAt erK w.heap.size w a u) (hb : LsAt erK w.heap.size w b v) :
    Calls Try.prog 18 #[u, v] w fun e w' => e = .returned (.bool (decide (a = b))) ∧ Below w.heap.size w w' := by
  obtain ⟨oa, ca, rfl, hla⟩ := ha.shape
  obtain ⟨ob, cb, rfl, hlb⟩ := hb.shape
  have HA := Lib.hid ha; have HB := Lib.hid hb
  have bla : (a.length : Int) ≤ 9223372036854775807 := by omega
  have blb : (b.length : Int) ≤ 9223372036854775807 := by omega
  clear ha hb hla hlb
  obtain ⟨r, hr⟩ : ∃ r, decide (a = b) = r := ⟨_, rfl⟩
  rw [hr]
  have HR := Lib.hid hr; clear hr
  by_cases hlen : a.length = b.length
  case neg =>
    have hne : (((a.length : Nat) : Int) != ((b.length : Nat) : Int)) = true := by rw [bne_iff_ne]; omega
    have e : Hid (r = false) := by
      show _ = _
      rw [← HR.out]; exact decide_eq_false fun e => hlen (by rw [e])
    clear hlen
    go_enter Try.func18, Try.ntmps18
    go_wp2
    go_ret
    exact ⟨by rw [e.out]; rfl, Below.refl _ _⟩
  case pos =>
    have hne : (((a.length : Nat) : Int) != ((b.length : Nat) : Int)) = false := by rw [bne_eq_false_iff_eq]; omega
    have Hlen := Lib.hid hlen
    clear hlen
    go_enter Try.func18, Try.ntmps18
    go_wp2_with fail
    clear hne
    go_loopw [5] (fun i wr => SamRel a b w i wr) (fun i _ => a.length - (intOf i).toNat)
    case atStart => exact ⟨0, 0, by omega, rfl, fun j h => by omega, rfl⟩
    case round =>
      obtain ⟨k, n, hk, rfl, hi, rfl⟩ := hrel
      have HI := Lib.hid hi
      clear hi
      by_cases hlt : k < a.length
      · have tj : decide ((k : Int) < (a.length : Int)) = true := by simp; omega
        have tj' : decide (k < a.length) = true := by simp; omega
        have hltb : k < b.length := by rw [← Hlen.out]; exact hlt
        have kb : (k : Int) < (b.length : Int) := by omega
        have ka : (k : Int) < (a.length : Int) := by omega
        obtain ⟨x, hx⟩ : ∃ r, a[k]? = some r := ⟨_, List.getElem?_eq_getElem hlt⟩
        obtain ⟨y, hy⟩ : ∃ r, b[k]? = some r := ⟨_, List.getElem?_eq_getElem hltb⟩
        obtain ⟨g, o1, rfl, _, q1⟩ := HA.out.at hlt
        obtain ⟨q, o2, rfl, _, q2⟩ := HB.out.at hltb
        have x0 := er_at ((q1 k x hx).keep (w' := w.drewN n) rfl)
        have y0 := er_at ((q2 k y hy).keep (w' := w.drewN n) rfl)
        change (w.drewN n).cell? ⟨g, o1 + k * 1, none⟩ = _ at x0
        change (w.drewN n).cell? ⟨q, o2 + k * 1, none⟩ = _ at y0
        rw [Nat.mul_one] at x0 y0
        obtain ⟨t, ht⟩ : ∃ t, (x != y) = t := ⟨_, rfl⟩
        have HX := Lib.hid hx; have HY := Lib.hid hy; have HT := Lib.hid ht
        clear hx hy q1 q2 hltb
        generalize hwn : w.drewN n = w5 at *
        have Hwn := Lib.hid hwn
        clear hwn
        cases t
        · go_wp2_with fail
          go_quiet (fail)
          go_wp2
          go_roundw
          case rel => exact ⟨k + 1, n + nq, by omega, by go_num, fun j hj => by
            by_cases e : j = k
            · subst e; rw [HX.out, HY.out, bne_eq_false_iff_eq.1 HT.out]
            · exact HI.out j (by omega), by rw [← Hwn.out, World.drewN_drewN]⟩
          case measure => simp [intOf]; omega
        · go_wp2_with fail
          go_quiet (fail)
          go_wp2
          go_ret
          have e : r = false := by rw [← HR.out]; exact decide_eq_false (sam_no HX.out HY.out (bne_iff_ne.1 HT.out))
          exact ⟨by rw [e]; rfl, by rw [← Hwn.out]; exact below_drewN'' (below_drewN'' (Below.refl _ _) _) _⟩
      · obtain rfl : k = a.length := by omega
        have tj : decide ((a.length : Int) < (a.length : Int)) = false := by simp
        have e : Hid (r = true) := by
          show _ = _
          rw [← HR.out]; exact decide_eq_true (sam_yes Hlen.out HI.out)
        go_wp2_with fail
        go_ret
        exact ⟨by rw [e.out]; rfl, below_drewN'' (Below.refl _ _) _⟩
end Go.Proofs.Ytlocilbcmcfmaaa
/- lease.Run. -/
namespace Go.Proofs.Ytlocilbcmcfmaaa
open Go.RowKit
def cmK : EK Cm := ⟨5, Cm.cells, fun _ => rfl, fun x u hu => by simp only [Cm.cells, List.mem_cons, List.not_mem_nil, or_false] at hu; rcases hu with rfl | rfl | rfl | rfl | rfl <;> rfl, by decide⟩
def FiveC (w : World) (b o : Nat) (x : Cm) : Prop := w.cell? ⟨b, o, none⟩ = some (.int .i64 x.kd) ∧ w.cell? ⟨b, o + 1, none⟩ = some (.int .i64 x.sl) ∧ w.cell? ⟨b, o + 2, none⟩ = some (.int .i64 x.ai) ∧ w.cell? ⟨b, o + 3, none⟩ = some (.int .i64 x.fl) ∧ w.cell? ⟨b, o + 4, none⟩ = some (.int .i64 x.tk)
theorem fiveC_of {w : World} {b o : Nat} {x : Cm} (h : ElAt cmK w b o x) : FiveC w b o x := ⟨h 0 _ rfl, h 1 _ rfl, h 2 _ rfl, h 3 _ rfl, h 4 _ rfl⟩
theorem er_info : (Try.prog.info? 30).map (fun i => (i.zero, i.size, i.bytes)) = some (some (.int .i64 0), 1, 8) := by kernel_rfl
abbrev OwnE (w : World) (base : Nat) (v : Value) (l : List Int) : Prop := OwnK erK 30 w base v l
theorem own_ne3 {w : World} {b b' : Nat} {v ve : Value} {l : List Le} {es : List Int} (h : OwnLe w b v l) (h' : OwnE w b' ve es) : v.ownBlock = none ∨ v.ownBlock ≠ ve.ownBlock := by
  rcases h.2 with ⟨rfl, _⟩ | ⟨g, cp, cur, rfl, _, hg, _⟩
  · exact .inl rfl
  · right
    rcases h'.2 with ⟨rfl, _⟩ | ⟨g', cp', cur', rfl, _, hg', _⟩
    · intro e; cases e
    · intro e
      injection e with e
      change g = g' at e
      subst e
      rw [hg] at hg'
      injection hg' with hg'
      injection hg' with _ hg'
      exact absurd hg' (by decide)
theorem own_belowE {w0 w1 w2 : World} {ve : Value} {es : List Int} (hb : Below w0.heap.size w0 w1) (hE : OwnE w1 (w0.heap.size + 1) ve es) (hg : w1.grownBy w2 ve.ownBlock) : Below w0.heap.size w0 w2 :=
  hb.trans ⟨hg.os, hg.tape, hg.output, hg.size, fun k hk => hg.block k (Nat.lt_of_lt_of_le hk hb.size) (fun e => by have := (hE.lt k e.symm).1; omega)⟩
/-- the state of the loop -/
def RunRel (cs : List Cm) (w : World) (ve i : Value) (wr : World) : Prop :=
  ∃ (k : Nat) (v : Value), k ≤ cs.length ∧ i = .int .i64 k ∧ Below w.heap.size w wr ∧ CB wr w.heap.size 26 [.int .i64 (runS (cs.take k)).1, v] ∧
    OwnLe wr (w.heap.size + 1) v (runS (cs.take k)).2 ∧ OwnE wr (w.heap.size + 1) ve (errsS (cs.take k))
def RunPost (cs : List Cm) (w : World) (e : Ending) (w' : World) : Prop :=
  Below w.heap.size w w' ∧ ∃ v ve, e = .returned (.tuple #[lsV (runS cs).1 v, ve]) ∧ OwnLe w' (w.heap.size + 1) v (runS cs).2 ∧ OwnE w' (w.heap.size + 1) ve (errsS cs)
set_option maxRecDepth 100000 in
set_option maxHeartbeats 4000000 in
theorem run_any (cs : List Cm) (v : Value) (w : World) (hl : LsAt cmK w.heap.size w cs v) (hlen : cs.length ≤ 1000) (hwf : ∀ c ∈ cs, (Lit.int .i64 c.kd).wf = true) :
    Calls Try.prog 8 #[v] w (RunPost cs w) := by
  obtain ⟨oa, cap, rfl, hlm⟩ := hl.shape
  have HL := Lib.hid hl; have Hwf := Lib.hid hwf; have Hlen := Lib.hid hlen
  have bl : (cs.length : Int) ≤ 1000 := by omega
  clear hl hwf hlm hlen
  have hcb0 : Hid (CB (w.alloc (.cells #[.int .i64 0, .slice none 0 0] 26)) w.heap.size 26 [.int .i64 0, .slice none 0 0]) := CB.new w _ _
  have hb0 := Lib.hid ((Below.refl w.heap.size w).alloc (Nat.le_refl _) (.cells #[.int .i64 0, .slice none 0 0] 26))
  go_enter Try.func8, Try.ntmps8
  go_wp2_with fail
  generalize w.alloc (.cells #[.int .i64 0, .slice none 0 0] 26) = w0 at *
  go_loopw [3, 10] (fun ve i wr => RunRel cs w ve i wr) (fun _ i _ => cs.length - (intOf i).toNat)
  case atStart => exact ⟨0, .slice none 0 0, by omega, rfl, hb0.out, hcb0.out, OwnK.nil _ _ _, OwnK.nil _ _ _⟩
  case round =>
    obtain ⟨k, v, hk, rfl, hb, hcb, hO, hE⟩ := hrel
    have HB := Lib.hid hb; have HC := Lib.hid hcb; have HO := Lib.hid hO; have HE := Lib.hid hE
    clear hb hcb hO hE hcb0 hb0
    obtain ⟨oe, ce, rfl, _⟩ := HE.out.rd.shape
    obtain ⟨ov, cv, rfl, _⟩ := HO.out.rd.shape
    by_cases hlt : k < cs.length
    · have tj : decide ((k : Int) < (cs.length : Int)) = true := by simp; omega
      have tj' : decide (k < cs.length) = true := by simp; omega
      have kb : (k : Int) < (cs.length : Int) := by omega
      obtain ⟨c, hc⟩ : ∃ c, cs[k]? = some c := ⟨_, List.getElem?_eq_getElem hlt⟩
      obtain ⟨b, off, rfl, _, hat⟩ := (HL.out.ext HB.out).at hlt
      obtain ⟨c0, c1, c2, c3, c4⟩ := fiveC_of (hat k c hc)
      have Hc := Lib.hid hc
      have hrl := runS_len cs k
      have hel : (errsS (cs.take k)).length = k := by rw [errsF_len, List.length_take]; omega
      have hR := Lib.hid (runS_take hc); have hRe := Lib.hid (errsS_take hc)
      have hcw := Lib.hid (Hwf.out c (List.mem_of_getElem? hc))
      clear hat hc
      generalize runS (cs.take k) = st at *
      generalize errsS (cs.take k) = es at *
      obtain ⟨tk, l⟩ := st
      have Hrl := Lib.hid hrl; have Hel := Lib.hid hel
      clear hrl hel
      change wr.cell? ⟨b, off + k * 5, none⟩ = _ at c0
      change wr.cell? ⟨b, off + k * 5 + 1, none⟩ = _ at c1
      change wr.cell? ⟨b, off + k * 5 + 2, none⟩ = _ at c2
      change wr.cell? ⟨b, off + k * 5 + 3, none⟩ = _ at c3
      change wr.cell? ⟨b, off + k * 5 + 4, none⟩ = _ at c4
      have HB1 := Lib.hid (HB.out.alloc HB.out.size (.cells #[.int .i64 c.kd, .int .i64 c.sl, .int .i64 c.ai, .int .i64 c.fl, .int .i64 c.tk] 33))
      have HC1 := Lib.hid (HC.out.alloc (.cells #[.int .i64 c.kd, .int .i64 c.sl, .int .i64 c.ai, .int .i64 c.fl, .int .i64 c.tk] 33))
      have HO1 := Lib.hid (HO.out.alloc (.cells #[.int .i64 c.kd, .int .i64 c.sl, .int .i64 c.ai, .int .i64 c.fl, .int .i64 c.tk] 33))
      have HE1 := Lib.hid (HE.out.alloc (.cells #[.int .i64 c.kd, .int .i64 c.sl, .int .i64 c.ai, .int .i64 c.fl, .int .i64 c.tk] 33))
      have HX1 : Hid (CB (wr.alloc (.cells #[.int .i64 c.kd, .int .i64 c.sl, .int .i64 c.ai, .int .i64 c.fl, .int .i64 c.tk] 33)) wr.heap.size 33 c.cells) := CB.new wr _ _
      go_upto_region 4 with fail
      clear c0 c1 c2 c3 c4
      generalize wr.alloc (.cells #[.int .i64 c.kd, .int .i64 c.sl, .int .i64 c.ai, .int .i64 c.fl, .int .i64 c.tk] 33) = w1 at *
      generalize wr.heap.size = X at *
      have c0 : w1.cell? ⟨X, 0, none⟩ = some (.int .i64 c.kd) := HX1.out.cell 0
      have c1 : w1.cell? ⟨X, 1, none⟩ = some (.int .i64 c.sl) := HX1.out.cell 1
      have c2 : w1.cell? ⟨X, 2, none⟩ = some (.int .i64 c.ai) := HX1.out.cell 2
      have c3 : w1.cell? ⟨X, 3, none⟩ = some (.int .i64 c.fl) := HX1.out.cell 3
      have c4 : w1.cell? ⟨X, 4, none⟩ = some (.int .i64 c.tk) := HX1.out.cell 4
      have b0 : w1.cell? ⟨w.heap.size, 0, none⟩ = some (.int .i64 tk) := HC1.out.cell 0
      have b1 : w1.cell? ⟨w.heap.size, 1, none⟩ = some (.slice ov l.length cv) := HC1.out.cell 1
      cases hd : doR tk l c with
      | inl e =>
        have hcall : Hid (Calls Try.prog 12 #[.agg #[.int .i64 tk, .slice ov l.length cv], .agg #[.int .i64 c.kd, .int .i64 c.sl, .int .i64 c.ai, .int .i64 c.fl, .int .i64 c.tk]] w1 (DoPost (.inl e) w1)) := by
          show Calls _ _ _ _ _
          rw [← hd]; exact do_any tk l _ c w1 HO1.out.rd (by have := Hrl.out; have := Hlen.out; simp only at *; omega) hcw.out
        obtain ⟨st1, st2⟩ := stepS_inl (s := (tk, l)) hd
        have hst := Lib.hid st1; have hse := Lib.hid st2
        have he0 : (e == 0) = false := by rw [beq_eq_false_iff_ne]; have := doR_inl hd; omega
        clear hd st1 st2
        go_upto_region 5 with (go_at_call 12; refine hcall.out.mono ?_; rintro x w2 ⟨hb2, hx⟩; unfold lsV at hx; subst hx)
        have HB2 := Lib.hid ((below_ext HB1.out hb2).alloc (below_ext HB1.out hb2).size (.cells #[.int .i64 0, .slice none 0 0] 26))
        have HC3 := Lib.hid ((HC1.out.ext hb2).alloc (.cells #[.int .i64 0, .slice none 0 0] 26))
        have HO3 := Lib.hid ((HO1.out.ext hb2).alloc (.cells #[.int .i64 0, .slice none 0 0] 26))
        have HE3 := Lib.hid ((HE1.out.ext hb2).alloc (.cells #[.int .i64 0, .slice none 0 0] 26))
        have HB3 := HB2
        clear hb2 hcall c0 c1 c2 c3 c4 b0 b1
        go_upto_region 7 with fail
        generalize w2.alloc (.cells #[.int .i64 0, .slice none 0 0] 26) = w3 at *
        have HR5 : Hid (LsAt erK 0 w [] (.slice none 0 0)) := LsAt.nil _ _ _ _
        clear HR5
        have hn : Hid (OwnE (w3.alloc (.cells #[.int .i64 e] 30)) (w.heap.size + 1) (.slice oe es.length ce) es) := HE3.out.alloc _
        have hsrc : Hid (Src Try.prog 1 27 (.slice (some ⟨w3.heap.size, 0, none⟩) 1 1) 1 (erK.flat [e]) (w3.alloc (.cells #[.int .i64 e] 30))) := src_el (K := erK) (a := e) Try.underlying27 (CB.new w3 _ _)
        have hB4 := Lib.hid (HB3.out.alloc HB3.out.size (.cells #[.int .i64 e] 30))
        have hC4 := Lib.hid (HC3.out.alloc (.cells #[.int .i64 e] 30))
        have hO4 := Lib.hid (HO3.out.alloc (.cells #[.int .i64 e] 30))
        have hgl := Lib.hid (show w.heap.size + 1 ≤ (w3.alloc (.cells #[.int .i64 e] 30)).heap.size by have := HC3.out.lt; rw [World.size_alloc]; omega)
        go_wp2_with (at_builtin; refine wpList_append_x (e := 30) (z := .int .i64 0) (size := 1) (bytes := 8) Try.underlying27 er_info rfl rfl _ _ rfl (w.heap.size + 1) _ es.length (erK.flat es) rfl hn.out _ 1 (erK.flat [e]) rfl hsrc.out (by have := Hel.out; unfold maxLen; omega) (by have := Hel.out; omega) hgl.out ?_; intro v5 w5 ho5 hg5 hn5)
        have HE5 : Hid (OwnE w5 (w.heap.size + 1) v5 (es ++ [e])) := OwnK.append (K := erK) ho5 (by simp)
        have HO5 := Lib.hid (World.ownsRow.kept hO4.out hg5 (own_ne3 hO4.out hn.out))
        have HC5 := Lib.hid (hC4.out.keep (hg5.block _ hC4.out.lt (fun e => by have := (hn.out.lt _ e.symm).1; omega)))
        have HB5 := Lib.hid (own_belowE hB4.out hn.out hg5)
        clear ho5 hg5 hn5
        go_wp2_with fail
        go_roundw
        case rel => exact ⟨k + 1, _, by omega, by go_num, HB5.out, by rw [hR.out, hst.out]; exact HC5.out, by rw [hR.out, hst.out]; exact HO5.out, by rw [hRe.out, hse.out]; exact HE5.out⟩
        case measure => simp [intOf]; omega
      | inr p =>
        have hcall : Hid (Calls Try.prog 12 #[.agg #[.int .i64 tk, .slice ov l.length cv], .agg #[.int .i64 c.kd, .int .i64 c.sl, .int .i64 c.ai, .int .i64 c.fl, .int .i64 c.tk]] w1 (DoPost (.inr p) w1)) := by
          show Calls _ _ _ _ _
          rw [← hd]; exact do_any tk l _ c w1 HO1.out.rd (by have := Hrl.out; have := Hlen.out; simp only at *; omega) hcw.out
        obtain ⟨st1, st2⟩ := stepS_inr (s := (tk, l)) hd
        have hst := Lib.hid st1; have hse := Lib.hid st2
        obtain ⟨tk2, l2⟩ := p
        clear hd st1 st2
        go_upto_region 5 with (go_at_call 12; refine hcall.out.mono ?_; rintro x w2 ⟨hb2, v2, hx, hO2⟩; obtain ⟨o2, c5, rfl, _⟩ := hO2.rd.shape; unfold lsV at hx; subst hx)
        have HB2 := Lib.hid ((below_ext HB1.out hb2).alloc (below_ext HB1.out hb2).size (.cells #[.int .i64 tk2, .slice o2 l2.length c5] 26))
        have HC2 := Lib.hid ((HC1.out.ext hb2).alloc (.cells #[.int .i64 tk2, .slice o2 l2.length c5] 26))
        have HO2 := Lib.hid (hO2.alloc (.cells #[.int .i64 tk2, .slice o2 l2.length c5] 26))
        have HE2 := Lib.hid ((HE1.out.ext hb2).alloc (.cells #[.int .i64 tk2, .slice o2 l2.length c5] 26))
        have HX2 : Hid (CB (w2.alloc (.cells #[.int .i64 tk2, .slice o2 l2.length c5] 26)) w2.heap.size 26 [.int .i64 tk2, .slice o2 l2.length c5]) := CB.new w2 _ _
        have Hbase := Lib.hid (show w.heap.size + 1 ≤ w1.heap.size from HC1.out.lt)
        clear hb2 hO2 hcall c0 c1 c2 c3 c4 b0 b1
        go_upto_region 6 with fail
        generalize w2.alloc (.cells #[.int .i64 tk2, .slice o2 l2.length c5] 26) = w2b at *
        generalize w2.heap.size = Y at *
        have y0 : w2b.cell? ⟨Y, 0, none⟩ = some (.int .i64 tk2) := HX2.out.cell 0
        have y1 : w2b.cell? ⟨Y, 1, none⟩ = some (.slice o2 l2.length c5) := HX2.out.cell 1
        have b0 : w2b.cell? ⟨w.heap.size, 0, none⟩ = some (.int .i64 tk) := HC2.out.cell 0
        have b1 : w2b.cell? ⟨w.heap.size, 1, none⟩ = some (.slice ov l.length cv) := HC2.out.cell 1
        have z0 : w2b.frozen? ⟨w.heap.size, 0, none⟩ = false := HC2.out.frozen _
        have z1 : w2b.frozen? ⟨w.heap.size, 1, none⟩ = false := HC2.out.frozen _
        have HB3 := Lib.hid ((HB2.out.setCell (p := ⟨w.heap.size, 0, none⟩) (Nat.le_refl _) (.int .i64 tk2)).setCell (p := ⟨w.heap.size, 1, none⟩) (Nat.le_refl _) (.slice o2 l2.length c5))
        have HC3 : Hid (CB ((w2b.setCell ⟨w.heap.size, 0, none⟩ (.int .i64 tk2)).setCell ⟨w.heap.size, 1, none⟩ (.slice o2 l2.length c5)) w.heap.size 26 [.int .i64 tk2, .slice o2 l2.length c5]) := (HC2.out.set 0 _).set 1 _
        have hno := Lib.hid (own_far HO2.out (show w.heap.size < w1.heap.size from Hbase.out))
        have HO3 := Lib.hid (own_base ((HO2.out.far2 (i := 0) hno.out (.int .i64 tk2)).far2 (i := 1) hno.out (.slice o2 l2.length c5)) Hbase.out)
        have hne2 : Hid ((Value.slice oe es.length ce).ownBlock ≠ some w.heap.size) := fun e => by have := (HE2.out.lt _ e).1; omega
        have HE3 := Lib.hid ((HE2.out.far2 (i := 0) hne2.out (.int .i64 tk2)).far2 (i := 1) hne2.out (.slice o2 l2.length c5))
        clear HX2 HC2 HO2 HE2
        go_upto_region 7 with fail
        clear y0 y1 b0 b1 z0 z1
        generalize hw3 : (w2b.setCell ⟨w.heap.size, 0, none⟩ (.int .i64 tk2)).setCell ⟨w.heap.size, 1, none⟩ (.slice o2 l2.length c5) = w3 at *
        clear hw3
        have HR5 : Hid (LsAt erK 0 w [] (.slice none 0 0)) := LsAt.nil _ _ _ _
        clear HR5
        have hn : Hid (OwnE (w3.alloc (.cells #[.int .i64 0] 30)) (w.heap.size + 1) (.slice oe es.length ce) es) := HE3.out.alloc _
        have hsrc : Hid (Src Try.prog 1 27 (.slice (some ⟨w3.heap.size, 0, none⟩) 1 1) 1 (erK.flat [0]) (w3.alloc (.cells #[.int .i64 0] 30))) := src_el (K := erK) (a := 0) Try.underlying27 (CB.new w3 _ _)
        have hB4 := Lib.hid (HB3.out.alloc HB3.out.size (.cells #[.int .i64 0] 30))
        have hC4 := Lib.hid (HC3.out.alloc (.cells #[.int .i64 0] 30))
        have hO4 := Lib.hid (HO3.out.alloc (.cells #[.int .i64 0] 30))
        have hgl := Lib.hid (show w.heap.size + 1 ≤ (w3.alloc (.cells #[.int .i64 0] 30)).heap.size by have := HC3.out.lt; rw [World.size_alloc]; omega)
        go_wp2_with (at_builtin; refine wpList_append_x (e := 30) (z := .int .i64 0) (size := 1) (bytes := 8) Try.underlying27 er_info rfl rfl _ _ rfl (w.heap.size + 1) _ es.length (erK.flat es) rfl hn.out _ 1 (erK.flat [0]) rfl hsrc.out (by have := Hel.out; unfold maxLen; omega) (by have := Hel.out; omega) hgl.out ?_; intro v5 w5 ho5 hg5 hn5)
        have HE5 : Hid (OwnE w5 (w.heap.size + 1) v5 (es ++ [0])) := OwnK.append (K := erK) ho5 (by simp)
        have HO5 := Lib.hid (World.ownsRow.kept hO4.out hg5 (own_ne3 hO4.out hn.out))
        have HC5 := Lib.hid (hC4.out.keep (hg5.block _ hC4.out.lt (fun e => by have := (hn.out.lt _ e.symm).1; omega)))
        have HB5 := Lib.hid (own_belowE hB4.out hn.out hg5)
        clear ho5 hg5 hn5
        go_wp2_with fail
        go_roundw
        case rel => exact ⟨k + 1, _, by omega, by go_num, HB5.out, by rw [hR.out, hst.out]; exact HC5.out, by rw [hR.out, hst.out]; exact HO5.out, by rw [hRe.out, hse.out]; exact HE5.out⟩
        case measure => simp [intOf]; omega
    · obtain rfl : k = cs.length := by omega
      have tj : decide ((cs.length : Int) < (cs.length : Int)) = false := by simp
      have b0 : wr.cell? ⟨w.heap.size, 0, none⟩ = some (.int .i64 (runS (cs.take cs.length)).1) := HC.out.cell 0
      have b1 : wr.cell? ⟨w.heap.size, 1, none⟩ = some (.slice ov (runS (cs.take cs.length)).2.length cv) := HC.out.cell 1
      have hte : Hid (cs.take cs.length = cs) := List.take_of_length_le (Nat.le_refl _)
      rw [hte.out] at b0 b1 HC HO HE ⊢
      generalize hst : runS cs = st at *
      generalize hes : errsS cs = es at *
      have Hst := Lib.hid hst; have Hes := Lib.hid hes
      obtain ⟨tk, l⟩ := st
      clear hst hes hlt hk
      have z0 : wr.frozen? ⟨w.heap.size, 0, none⟩ = false := HC.out.frozen _
      have z1 : wr.frozen? ⟨w.heap.size, 1, none⟩ = false := HC.out.frozen _
      have HBf := Lib.hid ((HB.out.setCell (p := ⟨w.heap.size, 0, none⟩) (Nat.le_refl _) (.int .i64 tk)).setCell (p := ⟨w.heap.size, 1, none⟩) (Nat.le_refl _) (.slice ov l.length cv))
      have HCf : Hid (CB ((wr.setCell ⟨w.heap.size, 0, none⟩ (.int .i64 tk)).setCell ⟨w.heap.size, 1, none⟩ (.slice ov l.length cv)) w.heap.size 26 [.int .i64 tk, .slice ov l.length cv]) := (HC.out.set 0 _).set 1 _
      have hno : Hid ((Value.slice ov l.length cv).ownBlock ≠ some w.heap.size) := fun e => by have := (HO.out.lt _ e).1; omega
      have HOf := Lib.hid ((HO.out.far2 (i := 0) hno.out (.int .i64 tk)).far2 (i := 1) hno.out (.slice ov l.length cv))
      have hne2 : Hid ((Value.slice oe es.length ce).ownBlock ≠ some w.heap.size) := fun e => by have := (HE.out.lt _ e).1; omega
      have HEf := Lib.hid ((HE.out.far2 (i := 0) hne2.out (.int .i64 tk)).far2 (i := 1) hne2.out (.slice ov l.length cv))
      go_wp2
      generalize hwf : (wr.setCell ⟨w.heap.size, 0, none⟩ (.int .i64 tk)).setCell ⟨w.heap.size, 1, none⟩ (.slice ov l.length cv) = wf at *
      clear hwf b0 b1 z0 z1
      have b0 : wf.cell? ⟨w.heap.size, 0, none⟩ = some (.int .i64 tk) := HCf.out.cell 0
      have b1 : wf.cell? ⟨w.heap.size, 1, none⟩ = some (.slice ov l.length cv) := HCf.out.cell 1
      refine bodyPost_ret (v := .tuple #[.agg #[.int .i64 tk, .slice ov l.length cv], .slice oe es.length ce]) (by simp [results, Try.results8, go_sem, b0, b1]) rfl ?_
      refine ⟨HBf.out, _, _, ?_, by rw [Hst.out]; exact HOf.out, by rw [Hes.out]; exact HEf.out⟩
      rw [Hst.out]; rfl
end Go.Proofs.Ytlocilbcmcfmaaa
/- lease.Holds. -/
namespace Go.Proofs.Ytlocilbcmcfmaaa
open Go.RowKit
/-- the place of a slot's lease -/
def ixL (l : List Le) (s : Int) : Option Nat := l.findIdx? (fun x => x.sl == s)
theorem ix_some {l : List Le} {s : Int} {n : Nat} (h : ixL l s = some n) : ∃ x, l[n]? = some x ∧ getL l s = some x := by
  induction l generalizing n with
  | nil => cases h
  | cons a r ih =>
    unfold ixL at h
    rw [List.findIdx?_cons] at h
    rw [getL_cons]
    by_cases ha : a.sl = s
    · rw [if_pos (by simpa using ha)] at h
      injection h with h; subst h
      exact ⟨a, rfl, by rw [if_pos ha]⟩
    · rw [if_neg (by simpa using ha)] at h
      cases hr : List.findIdx? (fun x => x.sl == s) r with
      | none => rw [hr] at h; cases h
      | some k =>
        rw [hr] at h
        injection h with h; subst h
        obtain ⟨x, h1, h2⟩ := ih (n := k) hr
        exact ⟨x, by simpa using h1, by rw [if_neg ha]; exact h2⟩
theorem ix_none {l : List Le} {s : Int} (h : ixL l s = none) : getL l s = none := by
  unfold ixL at h
  rw [List.findIdx?_eq_none_iff] at h
  exact getL_none fun x hx e => by have := h x hx; rw [e] at this; simp at this
theorem ix_first {l : List Le} {s : Int} {k : Nat} {x : Le} (h : l[k]? = some x) (hx : x.sl = s) (hb : ∀ j y, j < k → l[j]? = some y → y.sl ≠ s) : ixL l s = some k := by
  obtain ⟨h1, h2⟩ := List.getElem?_eq_some_iff.1 h
  unfold ixL
  rw [List.findIdx?_eq_some_iff_getElem]
  refine ⟨h1, by rw [h2]; simpa using hx, fun j hj => ?_⟩
  have := hb j l[j] hj (List.getElem?_eq_getElem (by omega))
  simpa using this
theorem ix_no {l : List Le} {s : Int} (hb : ∀ j y, j < l.length → l[j]? = some y → y.sl ≠ s) : ixL l s = none := by
  unfold ixL
  rw [List.findIdx?_eq_none_iff]
  intro x hx
  obtain ⟨j, hj, rfl⟩ := List.mem_iff_getElem.1 hx
  have := hb j l[j] hj (List.getElem?_eq_getElem hj)
  simpa using this
def ixI (l : List Le) (s : Int) : Int := match ixL l s with | some n => n | none => -1
set_option maxRecDepth 100000 in
theorem holds1_any (x : Le) (s : Int) (P : Nat) (w : World) (hp : w.cell? ⟨P, 0, none⟩ = some (.int .i64 s)) : Calls Try.prog 21 #[x.v, .pointer (some ⟨P, 0, none⟩)] w fun e w' => e = .returned (.bool (x.sl == s)) ∧ Below w.heap.size w w' := by
  have hlt := World.block_lt_of_cell? w _ hp
  obtain ⟨sl, ai, fl, tk, us⟩ := x
  obtain ⟨z, hz⟩ : ∃ z, (sl == s) = z := ⟨_, rfl⟩
  have Hz := Lib.hid hz
  have hb0 := Lib.hid ((Below.refl w.heap.size w).alloc (Nat.le_refl _) (.cells #[.int .i64 sl, .int .i64 ai, .int .i64 fl, .int .i64 tk, .bool us] 36))
  rw [hz]
  have p1 : (w.alloc (.cells #[.int .i64 sl, .int .i64 ai, .int .i64 fl, .int .i64 tk, .bool us] 36)).cell? ⟨P, 0, none⟩ = some (.int .i64 s) := cell_ext hb0.out hp
  clear hlt hp
  change Calls Try.prog 21 #[.agg #[.int .i64 sl, .int .i64 ai, .int .i64 fl, .int .i64 tk, .bool us], .pointer (some ⟨P, 0, none⟩)] w _
  go_enter Try.func21, Try.ntmps21
  go_wp2
  go_ret
  exact ⟨rfl, hb0.out⟩
def IxRel (l : List Le) (s : Int) (w : World) (i : Value) (wr : World) : Prop := ∃ k : Nat, k ≤ l.length ∧ i = .int .i64 k ∧ (∀ j y, j < k → l[j]? = some y → y.sl ≠ s) ∧ Below w.heap.size w wr
set_option maxRecDepth 100000 in
set_option maxHeartbeats 2000000 in
theorem index_any (l : List Le) (v : Value) (s : Int) (P : Nat) (w : World) (hl : LesAt w.heap.size w l v) (hp : w.cell? ⟨P, 0, none⟩ = some (.int .i64 s)) :
    Calls Try.prog 20 #[v, .func (.func 21) #[] #[.pointer (some ⟨P, 0, none⟩)]] w fun e w' => e = .returned (.int .i64 (ixI l s)) ∧ Below w.heap.size w w' := by
  obtain ⟨oa, cap, rfl, hlm⟩ := hl.shape
  have bl : (l.length : Int) ≤ 9223372036854775807 := by omega
  have HL := Lib.hid hl
  have HP := Lib.hid hp
  clear hl hlm hp
  obtain ⟨r, hr⟩ : ∃ r, ixI l s = r := ⟨_, rfl⟩
  have HR := Lib.hid hr
  rw [hr]; clear hr
  go_enter Try.func20, Try.ntmps20
  go_wp2_with fail
  go_loopw [5, 8] (fun _ i wr => IxRel l s w i wr) (fun _ i _ => l.length - (intOf i).toNat)
  case atStart => exact ⟨0, by omega, rfl, fun j y h => by omega, Below.refl _ _⟩
  case round =>
    obtain ⟨k, hk, rfl, hn, hb⟩ := hrel
    have HN := Lib.hid hn; have HB := Lib.hid hb
    clear hn hb
    by_cases hlt : k < l.length
    · have tj : decide ((k : Int) < (l.length : Int)) = true := by simp; omega
      have tj' : decide (k < l.length) = true := by simp; omega
      have kb : (k : Int) < (l.length : Int) := by omega
      obtain ⟨x, hx⟩ : ∃ x, l[k]? = some x := ⟨_, List.getElem?_eq_getElem hlt⟩
      obtain ⟨b, off, rfl, _, hat⟩ := (HL.out.ext HB.out).at hlt
      obtain ⟨c0, c1, c2, c3, c4⟩ := five_of (hat k x hx)
      have HX := Lib.hid hx
      clear hat hx
      change wr.cell? ⟨b, off + k * 5, none⟩ = _ at c0
      change wr.cell? ⟨b, off + k * 5 + 1, none⟩ = _ at c1
      change wr.cell? ⟨b, off + k * 5 + 2, none⟩ = _ at c2
      change wr.cell? ⟨b, off + k * 5 + 3, none⟩ = _ at c3
      change wr.cell? ⟨b, off + k * 5 + 4, none⟩ = _ at c4
      obtain ⟨z, hz⟩ : ∃ z, (x.sl == s) = z := ⟨_, rfl⟩
      have Hz := Lib.hid hz
      clear hz
      cases z
      · go_wp2_with (go_at_call 21; refine (holds1_any x s P _ (cell_ext HB.out HP.out)).mono ?_; rw [Hz.out]; rintro e w7 ⟨rfl, hb7⟩)
        have HB2 := Lib.hid (below_ext HB.out hb7)
        go_roundw
        case rel => exact ⟨k + 1, by omega, by go_num, fun j y hj hy => by
          by_cases e : j = k
          · subst e; rw [HX.out] at hy; injection hy with hy; subst hy; simpa using Hz.out
          · exact HN.out j y (by omega) hy, HB2.out⟩
        case measure => simp [intOf]; omega
      · go_wp2_with (go_at_call 21; refine (holds1_any x s P _ (cell_ext HB.out HP.out)).mono ?_; rw [Hz.out]; rintro e w7 ⟨rfl, hb7⟩)
        have HB2 := Lib.hid (below_ext HB.out hb7)
        go_ret
        have e : r = (k : Int) := by
          rw [← HR.out]; unfold ixI
          rw [ix_first HX.out (by simpa using Hz.out) HN.out]
        exact ⟨by rw [e]; rfl, HB2.out⟩
    · obtain rfl : k = l.length := by omega
      have tj : decide ((l.length : Int) < (l.length : Int)) = false := by simp
      go_wp2_with fail
      go_ret
      have e : r = -1 := by
        rw [← HR.out]; unfold ixI
        rw [ix_no HN.out]
      exact ⟨by rw [e]; rfl, HB.out⟩
theorem set5_cb {w : World} {g : Nat} {t : TypeId} {r0 : Le} (r : Le) (h : CB w g t r0.cells) : CB (set5 w g 0 r) g t r.cells :=
  (((((h.set 0 _).set 1 _).set 2 _).set 3 _).set 4 _)
/-- what Holds answers -/
def HoldsPost (o : Option Le) (w : World) (e : Ending) (w' : World) : Prop := e = .returned (.tuple #[(o.getD leZ).v, .bool o.isSome]) ∧ Below w.heap.size w w'
set_option maxRecDepth 100000 in
set_option maxHeartbeats 4000000 in
theorem holds_any (tk : Int) (l : List Le) (v : Value) (s : Int) (w : World) (hl : LesAt w.heap.size w l v) :
    Calls Try.prog 11 #[lsV tk v, .int .i64 s] w (HoldsPost (getL l s) w) := by
  have HL := Lib.hid hl
  obtain ⟨oa, cap, rfl, hlm⟩ := hl.shape
  have bl : (l.length : Int) ≤ 9223372036854775807 := by omega
  clear hl hlm
  have h0 : Hid (CB (((w.alloc (.cells #[.int .i64 tk, .slice oa l.length cap] 26)).alloc (.cells #[.int .i64 s] 3)).alloc (.cells #[.int .i64 0, .int .i64 0, .int .i64 0, .int .i64 0, .bool false] 36)) w.heap.size 26 [.int .i64 tk, .slice oa l.length cap]) := ((CB.new w _ _).alloc _).alloc _
  have h1 : Hid (CB (((w.alloc (.cells #[.int .i64 tk, .slice oa l.length cap] 26)).alloc (.cells #[.int .i64 s] 3)).alloc (.cells #[.int .i64 0, .int .i64 0, .int .i64 0, .int .i64 0, .bool false] 36)) (w.heap.size + 1) 3 [.int .i64 s]) := (cb_two w _ _ _).alloc _
  have h2 : Hid (CB (((w.alloc (.cells #[.int .i64 tk, .slice oa l.length cap] 26)).alloc (.cells #[.int .i64 s] 3)).alloc (.cells #[.int .i64 0, .int .i64 0, .int .i64 0, .int .i64 0, .bool false] 36)) (w.heap.size + 1 + 1) 36 leZ.cells) := by
    show CB _ _ _ _
    have := cb_two (w.alloc (.cells #[.int .i64 tk, .slice oa l.length cap] 26)) (.cells #[.int .i64 s] 3) 36 leZ.cells
    rw [World.size_alloc] at this; exact this
  have hB : Hid (Below w.heap.size w (((w.alloc (.cells #[.int .i64 tk, .slice oa l.length cap] 26)).alloc (.cells #[.int .i64 s] 3)).alloc (.cells #[.int .i64 0, .int .i64 0, .int .i64 0, .int .i64 0, .bool false] 36))) := by
    refine Below.alloc (Below.alloc ((Below.refl w.heap.size w).alloc (Nat.le_refl _) _) ?_ _) ?_ _ <;> simp only [World.size_alloc] <;> omega
  have HL0 := Lib.hid (HL.out.ext hB.out)
  change Calls Try.prog 11 #[.agg #[.int .i64 tk, .slice oa l.length cap], .int .i64 s] w _
  go_enter Try.func11, Try.ntmps11
  go_upto_region 1 with fail
  generalize ((w.alloc (.cells #[.int .i64 tk, .slice oa l.length cap] 26)).alloc (.cells #[.int .i64 s] 3)).alloc (.cells #[.int .i64 0, .int .i64 0, .int .i64 0, .int .i64 0, .bool false] 36) = w0 at *
  have c1 : w0.cell? ⟨w.heap.size, 1, none⟩ = some (.slice oa l.length cap) := h0.out.cell 1
  have hmf : ∀ (fn : Fn) (first cap : Array Value) (w : World), (Instr.makeFunc fn first cap).run Try.prog w = .ok (.func fn first cap) w := fun _ _ _ _ => rfl
  cases ho : ixL l s with
  | none =>
    have Hi : Hid (ixI l s = -1) := by show _ = _; unfold ixI; rw [ho]
    have HG := Lib.hid (ix_none ho)
    clear ho
    go_upto_region 3 with (go_at_call 20; refine (index_any l _ s (w.heap.size + 1) _ HL0.out (h1.out.cell 0)).mono ?_; rw [Hi.out]; rintro e w7 ⟨rfl, hb7⟩)
    have HB7 := Lib.hid (below_ext hB.out hb7)
    have H2 := Lib.hid (h2.out.ext hb7)
    clear hb7 c1
    obtain ⟨d0, d1, d2, d3, d4⟩ := five_of (ElAt.of_cb (K := leK) (a := leZ) H2.out)
    have zf : ∀ o, w7.frozen? ⟨w.heap.size + 1 + 1, o, none⟩ = false := H2.out.frozen
    have HCf := Lib.hid (set5_cb leZ H2.out)
    have HBf := Lib.hid (set5_below (o := 0) leZ HB7.out (show w.heap.size ≤ w.heap.size + 1 + 1 by omega))
    go_wp2
    change bodyPost _ _ _ _ _ (set5 w7 (w.heap.size + 1 + 1) 0 leZ)
    clear d0 d1 d2 d3 d4 zf
    generalize set5 w7 (w.heap.size + 1 + 1) 0 leZ = w8 at *
    obtain ⟨y0, y1, y2, y3, y4⟩ := five_of (ElAt.of_cb (K := leK) (a := leZ) HCf.out)
    refine bodyPost_ret (v := .tuple #[.agg #[.int .i64 leZ.sl, .int .i64 leZ.ai, .int .i64 leZ.fl, .int .i64 leZ.tk, .bool leZ.us], .bool false]) (by simp [results, Try.results11, go_sem, y0, y1, y2, y3, y4]) rfl ?_
    exact ⟨by rw [HG.out]; rfl, HBf.out⟩
  | some n =>
    have Hi : Hid (ixI l s = (n : Int)) := by show _ = _; unfold ixI; rw [ho]
    obtain ⟨x, hx, hgx⟩ := ix_some ho
    have HX := Lib.hid hx; have HG := Lib.hid hgx
    have hnl := (List.getElem?_eq_some_iff.1 hx).1
    have kb : (n : Int) < (l.length : Int) := by omega
    have k0 : decide ((n : Int) < 0) = false := by simp
    clear ho hgx hx
    go_upto_region 4 with (go_at_call 20; refine (index_any l _ s (w.heap.size + 1) _ HL0.out (h1.out.cell 0)).mono ?_; rw [Hi.out]; rintro e w7 ⟨rfl, hb7⟩)
    have HB7 := Lib.hid (below_ext hB.out hb7)
    have H2 := Lib.hid (h2.out.ext hb7)
    have e1 : w7.cell? ⟨w.heap.size, 1, none⟩ = some (.slice oa l.length cap) := (h0.out.ext hb7).cell 1
    have HL7 := Lib.hid (HL0.out.ext hb7)
    clear hb7 c1
    obtain ⟨b, off, rfl, _, hat⟩ := HL7.out.at hnl
    obtain ⟨c0, c1, c2, c3, c4⟩ := five_of (hat n x HX.out)
    clear hat
    change w7.cell? ⟨b, off + n * 5, none⟩ = _ at c0
    change w7.cell? ⟨b, off + n * 5 + 1, none⟩ = _ at c1
    change w7.cell? ⟨b, off + n * 5 + 2, none⟩ = _ at c2
    change w7.cell? ⟨b, off + n * 5 + 3, none⟩ = _ at c3
    change w7.cell? ⟨b, off + n * 5 + 4, none⟩ = _ at c4
    obtain ⟨d0, d1, d2, d3, d4⟩ := five_of (ElAt.of_cb (K := leK) (a := leZ) H2.out)
    have zf : ∀ o, w7.frozen? ⟨w.heap.size + 1 + 1, o, none⟩ = false := H2.out.frozen
    have HCf := Lib.hid (set5_cb x H2.out)
    have HBf := Lib.hid (set5_below (o := 0) x HB7.out (show w.heap.size ≤ w.heap.size + 1 + 1 by omega))
    go_wp2
    change bodyPost _ _ _ _ _ (set5 w7 (w.heap.size + 1 + 1) 0 x)
    clear d0 d1 d2 d3 d4 zf c0 c1 c2 c3 c4
    generalize set5 w7 (w.heap.size + 1 + 1) 0 x = w8 at *
    obtain ⟨y0, y1, y2, y3, y4⟩ := five_of (ElAt.of_cb (K := leK) (a := x) HCf.out)
    refine bodyPost_ret (v := .tuple #[.agg #[.int .i64 x.sl, .int .i64 x.ai, .int .i64 x.fl, .int .i64 x.tk, .bool x.us], .bool true]) (by simp [results, Try.results11, go_sem, y0, y1, y2, y3, y4]) rfl ?_
    exact ⟨by rw [HG.out]; rfl, HBf.out⟩
end Go.Proofs.Ytlocilbcmcfmaaa
/- codec.numeral appends the digits of a number to a slice of bytes of the call's own. -/
namespace Go.Proofs.Ytlocilbcmcfmaaa
open Go.RowKit

theorem lo_cast (x : Nat) : ((loDig x).toNat : Int) = ((x % 256 : Nat) : Int) := by simp [loDig, Nat.toUInt8]
theorem hi_cast (x : Nat) : ((hiDig x).toNat : Int) = (((x % 128 + 128) % 256 : Nat) : Int) := by simp [hiDig, Nat.toUInt8]
theorem low_or (y : Nat) : bits BinOp.or IntKind.u8 ((y : Int) % 256) 128 = ((hiDig y).toNat : Int) := by
  have h := or128 ⟨y % 256, Nat.mod_lt _ (by decide)⟩
  simp only at h
  rw [hi_cast]
  have e : ((y : Int) % 256) = ((y % 256 : Nat) : Int) := by omega
  rw [e, h]; congr 1; omega
theorem cell_alloc_one (w : World) (v : Value) (t : TypeId) (l : List Value) (hl : l = [v]) : ∀ (j : Nat) (u : Value), l[j]? = some u → (w.alloc (.cells #[v] t)).cell? ((⟨w.heap.size, 0, none⟩ : Addr).add j) = some u := by
  subst hl
  intro j u hu
  match j, hu with
  | 0, hu => simp at hu; subst hu; simp [Addr.add]
theorem numF_more (f y : Nat) (h : ¬ y < 128) : numF (f + 1) y = [hiDig y] ++ numF f (y / 128) := by simp [numF, h]
theorem numF_end (f y : Nat) (h : y < 128) : numF f y = [loDig y] := by cases f <;> simp [numF, h]
theorem bcells_sing (c : UInt8) (x : Int) (h : x = (c.toNat : Int)) : bcells [c] = [Value.int .u8 x] := by subst h; rfl

/-- the post of numeral -/
def NumPost (base : Nat) (v : Value) (l : List UInt8) (w : World) (e : Ending) (w' : World) : Prop := ∃ v', e = .returned v' ∧ OwnB 5 w' base v' l ∧ w.grownBy w' v.ownBlock ∧ Next w v v'
/-- the relation of numeral's loop -/
def NumRel (base : Nat) (v0 : Value) (out : List UInt8) (w : World) (b x : Value) (wr : World) : Prop :=
  ∃ (k : Nat) (pr : List UInt8) (y : Nat), y < 128 ^ (k + 1) ∧ x = .int .u64 y ∧ OwnB 5 wr base b pr ∧ out = pr ++ numF k y ∧ pr.length + k ≤ 100000000020 ∧ w.grownBy wr v0.ownBlock ∧ Next w v0 b ∧ base ≤ wr.heap.size

set_option maxRecDepth 100000 in
set_option maxHeartbeats 400000 in
theorem numeral_any (base : Nat) (v : Value) (pre : List UInt8) (u : Nat) (hu : Hid (u < 18446744073709551616)) (w : World) (hown : OwnB 5 w base v pre) (hsz : pre.length ≤ 100000000000) (hbase : base ≤ w.heap.size) :
    Calls Try.prog 44 #[v, .int .u64 u] w (NumPost base v (pre ++ num u) w) := by
  go_enter Try.func44, Try.ntmps44
  go_wp2
  go_loopw [0, 1] (fun b x wr => NumRel base v (pre ++ num u) w b x wr) (fun _ x _ => (intOf x).toNat)
  case atStart => exact ⟨9, pre, u, Nat.lt_of_lt_of_le hu.out (by decide), rfl, hown, rfl, by omega, grown_refl _ _, Next.refl _ _, hbase⟩
  case round =>
    obtain ⟨k, pr, y, hy, rfl, hown', heq, hlen, hg, hn, hb⟩ := hrel
    have Heq := Lib.hid heq; have Hy := Lib.hid hy; clear heq hy
    by_cases h : y < 128
    · go_wp2_with (at_builtin; refine wpList_append_b (e := 5) Try.underlying46 (by kernel_rfl) rfl _ _ rfl base _ pr rfl (hown'.alloc _) ⟨wr.heap.size, 0, none⟩ 1 [loDig y] rfl ?c1 ?c2 ?c3 ?_)
      case c1 => refine cell_alloc_one _ _ _ _ (bcells_sing _ _ ?_); rw [lo_cast]; omega
      case c2 => simp; omega
      case c3 => simp; omega
      intro v' w1 ho2 hg2 hn2
      go_wp2
      go_ret
      refine ⟨_, rfl, ?_, grown_trans (grown_alloc hg _) hg2 hn, hn.trans (grown_alloc hg _).size hn2⟩
      rw [Heq.out, numF_end _ _ h]; exact ho2
    · go_wp2_with (at_builtin; refine wpList_append_b (e := 5) Try.underlying46 (by kernel_rfl) rfl _ _ rfl base _ pr rfl (hown'.alloc _) ⟨wr.heap.size, 0, none⟩ 1 [hiDig y] rfl ?c1 ?c2 ?c3 ?_)
      case c1 => exact cell_alloc_one _ _ _ _ (bcells_sing _ _ (low_or y))
      case c2 => simp; omega
      case c3 => simp; omega
      intro v' w1 ho2 hg2 hn2
      go_wp2
      go_roundw
      case rel =>
        obtain ⟨k', rfl⟩ : ∃ k', k = k' + 1 := ⟨k - 1, by
          rcases k with _ | k
          · have := Hy.out; simp at this; omega
          · rfl⟩
        refine ⟨k', _, y / 128, ?_, ?_, ho2, ?_, ?_, grown_trans (grown_alloc hg _) hg2 hn, hn.trans (grown_alloc hg _).size hn2, ?_⟩
        · have := Hy.out; rw [Nat.pow_succ] at this; exact Nat.div_lt_of_lt_mul (by omega)
        · go_num
        · rw [Heq.out, numF_more _ _ h, List.append_assoc]
        · simp; omega
        · have := hg2.size; simp at this; omega
      case measure => simp [intOf]; omega
end Go.Proofs.Ytlocilbcmcfmaaa
/- api.Value as a Lean type, how a value lies in memory, and that it stays so while memory grows. -/
namespace Go.Proofs.Ytlocilbcmcfmaaa
open Go.RowKit

inductive V where
  | mk (kind n : Int) (s : ByteArray) (l : List V)
def V.kind : V → Int | .mk k _ _ _ => k
def V.n : V → Int | .mk _ n _ _ => n
def V.s : V → ByteArray | .mk _ _ s _ => s
def V.l : V → List V | .mk _ _ _ l => l

/-- a number of 64 bits -/
def I64 (n : Int) : Prop := -9223372036854775808 ≤ n ∧ n ≤ 9223372036854775807

mutual
/-- the cells of a value at an address, all in blocks below B -/
def V.at (B : Nat) (w : World) : V → Nat → Nat → Prop
  | .mk k n s l, b, off => b < B ∧ I64 k ∧ I64 n ∧ s.size ≤ maxLen ∧ w.cell? ⟨b, off, none⟩ = some (.int .i64 k) ∧ w.cell? ⟨b, off + 1, none⟩ = some (.int .i64 n) ∧ w.cell? ⟨b, off + 2, none⟩ = some (.string s) ∧
      ∃ lv, w.cell? ⟨b, off + 3, none⟩ = some lv ∧ ((l = [] ∧ ∃ oa cap, lv = .slice oa 0 cap) ∨ (l ≠ [] ∧ ∃ c o cap, lv = .slice (some ⟨c, o, none⟩) l.length cap ∧ l.length ≤ maxLen ∧ V.ats B w l c o))
def V.ats (B : Nat) (w : World) : List V → Nat → Nat → Prop
  | [], _, _ => True
  | x :: r, b, off => V.at B w x b off ∧ V.ats B w r b (off + 4)
end

/-- the list of a value, as a slice -/
def SlV (B : Nat) (w : World) (l : List V) (lv : Value) : Prop :=
  (l = [] ∧ ∃ oa cap, lv = .slice oa 0 cap) ∨ (l ≠ [] ∧ ∃ c o cap, lv = .slice (some ⟨c, o, none⟩) l.length cap ∧ l.length ≤ maxLen ∧ V.ats B w l c o)

/-- a value in hand -/
def RdV (B : Nat) (w : World) (x : V) (v : Value) : Prop :=
  I64 x.kind ∧ I64 x.n ∧ x.s.size ≤ maxLen ∧ ∃ lv, v = .agg #[.int .i64 x.kind, .int .i64 x.n, .string x.s, lv] ∧ SlV B w x.l lv

theorem SlV.form {B : Nat} {w : World} {l : List V} {lv : Value} (h : SlV B w l lv) : ∃ oa cap, lv = .slice oa l.length cap := by
  rcases h with ⟨rfl, oa, cap, rfl⟩ | ⟨_, c, o, cap, rfl, _⟩
  · exact ⟨oa, cap, rfl⟩
  · exact ⟨_, cap, rfl⟩
theorem V.at_def {B : Nat} {w : World} {x : V} {b off : Nat} (h : V.at B w x b off) :
    b < B ∧ w.cell? ⟨b, off, none⟩ = some (.int .i64 x.kind) ∧ w.cell? ⟨b, off + 1, none⟩ = some (.int .i64 x.n) ∧ w.cell? ⟨b, off + 2, none⟩ = some (.string x.s) ∧
      ∃ oa cap, w.cell? ⟨b, off + 3, none⟩ = some (.slice oa x.l.length cap) ∧ RdV B w x (.agg #[.int .i64 x.kind, .int .i64 x.n, .string x.s, .slice oa x.l.length cap]) := by
  obtain ⟨k, n, s, l⟩ := x
  simp only [V.at] at h
  obtain ⟨h0, h1, h2, h3, h4, h5, h6, lv, h7, h8⟩ := h
  obtain ⟨oa, cap, rfl⟩ := SlV.form (B := B) (w := w) (l := l) h8
  exact ⟨h0, h4, h5, h6, oa, cap, h7, h1, h2, h3, _, rfl, h8⟩
theorem RdV.form {B : Nat} {w : World} {x : V} {v : Value} (h : RdV B w x v) : ∃ oa cap, v = .agg #[.int .i64 x.kind, .int .i64 x.n, .string x.s, .slice oa x.l.length cap] ∧ SlV B w x.l (.slice oa x.l.length cap) := by
  obtain ⟨_, _, _, lv, rfl, h8⟩ := h
  obtain ⟨oa, cap, rfl⟩ := h8.form
  exact ⟨oa, cap, rfl, h8⟩

theorem V.ats_get {B : Nat} {w : World} : ∀ {l : List V} {b off : Nat} (_ : V.ats B w l b off) (k : Nat) (x : V), l[k]? = some x → V.at B w x b (off + k * 4)
  | [], _, _, _, _, _, h => by simp at h
  | y :: r, b, off, h, 0, x, hx => by simp at hx; subst hx; simp only [V.ats] at h; simpa using h.1
  | y :: r, b, off, h, k + 1, x, hx => by
    simp only [V.ats] at h
    have := V.ats_get h.2 k x (by simpa using hx)
    rw [show off + (k + 1) * 4 = off + 4 + k * 4 from by omega]; exact this

mutual
theorem V.at_keep {B B' : Nat} {w w' : World} (hB : B ≤ B') (hs : ∀ k, k < B → w'.heap[k]? = w.heap[k]?) : ∀ (x : V) (b off : Nat), V.at B w x b off → V.at B' w' x b off
  | .mk k n s l, b, off, h => by
    simp only [V.at] at h ⊢
    obtain ⟨h0, h1, h2, h3, h4, h5, h6, lv, h7, h8⟩ := h
    have hc : ∀ o, w'.cell? ⟨b, o, none⟩ = w.cell? ⟨b, o, none⟩ := fun o => World.cell?_of_block (w := w) (hs b h0)
    refine ⟨Nat.lt_of_lt_of_le h0 hB, h1, h2, h3, (hc _).trans h4, (hc _).trans h5, (hc _).trans h6, lv, (hc _).trans h7, ?_⟩
    rcases h8 with h8 | ⟨hne, c, o, cap, he, hl, ha⟩
    · exact .inl h8
    · exact .inr ⟨hne, c, o, cap, he, hl, V.ats_keep hB hs l c o ha⟩
theorem V.ats_keep {B B' : Nat} {w w' : World} (hB : B ≤ B') (hs : ∀ k, k < B → w'.heap[k]? = w.heap[k]?) : ∀ (l : List V) (b off : Nat), V.ats B w l b off → V.ats B' w' l b off
  | [], _, _, _ => by simp [V.ats]
  | x :: r, b, off, h => by
    simp only [V.ats] at h ⊢
    exact ⟨V.at_keep hB hs x b off h.1, V.ats_keep hB hs r b (off + 4) h.2⟩
end

theorem SlV.keep {B B' : Nat} {w w' : World} {l : List V} {lv : Value} (h : SlV B w l lv) (hB : B ≤ B') (hs : ∀ k, k < B → w'.heap[k]? = w.heap[k]?) : SlV B' w' l lv := by
  rcases h with h | ⟨hne, c, o, cap, he, hl, ha⟩
  · exact .inl h
  · exact .inr ⟨hne, c, o, cap, he, hl, V.ats_keep hB hs l c o ha⟩
theorem RdV.keep {B B' : Nat} {w w' : World} {x : V} {v : Value} (h : RdV B w x v) (hB : B ≤ B') (hs : ∀ k, k < B → w'.heap[k]? = w.heap[k]?) : RdV B' w' x v := by
  obtain ⟨h1, h2, h3, lv, h4, h5⟩ := h
  exact ⟨h1, h2, h3, lv, h4, h5.keep hB hs⟩
theorem RdV.below {B : Nat} {w w' : World} {x : V} {v : Value} (h : RdV B w x v) (hb : Below B w w') : RdV B w' x v := h.keep (Nat.le_refl _) hb.block

mutual
/-- all numbers and lengths of a value are in range -/
def okV : V → Prop
  | .mk k n s l => I64 k ∧ I64 n ∧ s.size ≤ maxLen ∧ l.length ≤ maxLen ∧ okVs l
def okVs : List V → Prop
  | [] => True
  | x :: r => okV x ∧ okVs r
end
mutual
theorem V.at_ok {B : Nat} {w : World} : ∀ (x : V) (b off : Nat), V.at B w x b off → okV x
  | .mk k n s l, b, off, h => by
    simp only [V.at] at h
    obtain ⟨h0, h1, h2, h3, h4, h5, h6, lv, h7, h8⟩ := h
    simp only [okV]
    rcases h8 with ⟨rfl, _⟩ | ⟨hne, c, o, cap, he, hl, ha⟩
    · exact ⟨h1, h2, h3, by simp, by simp [okVs]⟩
    · exact ⟨h1, h2, h3, hl, V.ats_ok l c o ha⟩
theorem V.ats_ok {B : Nat} {w : World} : ∀ (l : List V) (b off : Nat), V.ats B w l b off → okVs l
  | [], _, _, _ => by simp [okVs]
  | x :: r, b, off, h => by
    simp only [V.ats] at h
    simp only [okVs]
    exact ⟨V.at_ok x b off h.1, V.ats_ok r b (off + 4) h.2⟩
end
theorem SlV.ok {B : Nat} {w : World} {l : List V} {v : Value} (h : SlV B w l v) : okVs l ∧ l.length ≤ maxLen := by
  rcases h with ⟨rfl, _⟩ | ⟨hne, c, o, cap, he, hl, ha⟩
  · simp [okVs]
  · exact ⟨V.ats_ok l c o ha, hl⟩
theorem RdV.ok {B : Nat} {w : World} {x : V} {v : Value} (h : RdV B w x v) : okV x := by
  obtain ⟨k, n, s, l⟩ := x
  obtain ⟨h1, h2, h3, lv, h4, h5⟩ := h
  exact ⟨h1, h2, h3, h5.ok.2, h5.ok.1⟩
theorem okVs_get : ∀ {l : List V} {i : Nat} {x : V}, okVs l → l[i]? = some x → okV x
  | [], _, _, _, h => by simp at h
  | y :: r, 0, x, h, hx => by simp at hx; subst hx; exact h.1
  | y :: r, i + 1, x, h, hx => okVs_get (l := r) (i := i) h.2 (by simpa using hx)
theorem okVs_mem {l : List V} {x : V} (h : okVs l) (hx : x ∈ l) : okV x := by
  obtain ⟨i, hi⟩ := List.mem_iff_getElem?.1 hx; exact okVs_get h hi

/-! ## The plain functions -/
mutual
/-- is a value well-formed? -/
def fm : V → Bool
  | .mk k n s l => if k = 1 then s.toList.isEmpty && l.isEmpty else if k = 2 then n == 0 && l.isEmpty else if k = 3 then n == 0 && s.toList.isEmpty && fms l else false
def fms : List V → Bool
  | [] => true
  | x :: r => fm x && fms r
end
mutual
/-- the depth of a value -/
def dp : V → Nat
  | .mk k _ _ l => if k = 3 then dps l + 1 else 0
def dps : List V → Nat
  | [] => 0
  | x :: r => max (dp x) (dps r)
end
mutual
/-- a bound on the length of an encoding -/
def sz : V → Nat
  | .mk _ _ s l => 24 + s.size + szs l
def szs : List V → Nat
  | [] => 0
  | x :: r => sz x + szs r
end
end Go.Proofs.Ytlocilbcmcfmaaa
/- codec.formed tells whether a value is well-formed, and its depth. -/
namespace Go.Proofs.Ytlocilbcmcfmaaa
open Go.RowKit

def FormPost (x : V) (w : World) (e : Ending) (w' : World) : Prop := e = .returned (.tuple #[.int .i64 (if fm x then dp x else 0), .bool (fm x)]) ∧ Below w.heap.size w w'

theorem szs_get : ∀ {l : List V} {i : Nat} {x : V}, l[i]? = some x → sz x ≤ szs l
  | [], _, _, h => by simp at h
  | y :: r, 0, x, h => by simp at h; subst h; simp [szs]
  | y :: r, i + 1, x, h => by simp only [szs]; have := szs_get (l := r) (i := i) (x := x) (by simpa using h); omega
theorem fms_take {l : List V} {i : Nat} {x : V} (h : l[i]? = some x) : fms (l.take (i + 1)) = (fms (l.take i) && fm x) := by
  induction l generalizing i with
  | nil => simp at h
  | cons y r ih => cases i with
    | zero => simp at h; subst h; simp [fms]
    | succ i => simp only [List.take_succ_cons, fms]; rw [ih (by simpa using h), Bool.and_assoc]
theorem dps_take {l : List V} {i : Nat} {x : V} (h : l[i]? = some x) : dps (l.take (i + 1)) = max (dps (l.take i)) (dp x) := by
  induction l generalizing i with
  | nil => simp at h
  | cons y r ih => cases i with
    | zero => simp at h; subst h; simp [dps]
    | succ i => simp only [List.take_succ_cons, dps]; rw [ih (by simpa using h), Nat.max_assoc]
theorem fms_false {l : List V} {i : Nat} {x : V} (h : l[i]? = some x) (hf : fm x = false) : fms l = false := by
  induction l generalizing i with
  | nil => simp at h
  | cons y r ih => cases i with
    | zero => simp at h; subst h; simp [fms, hf]
    | succ i => simp only [fms, ih (by simpa using h), Bool.and_false]
theorem szs_len : ∀ l : List V, l.length ≤ szs l
  | [] => by simp
  | x :: r => by obtain ⟨k, n, s, l⟩ := x; have := szs_len r; simp only [szs, sz, List.length_cons]; omega
mutual
theorem dp_sz : ∀ x : V, dp x ≤ sz x
  | .mk k _ s l => by have := dps_szs l; simp only [dp, sz]; split <;> omega
theorem dps_szs : ∀ l : List V, dps l ≤ szs l
  | [] => by simp [dps]
  | x :: r => by have := dp_sz x; have := dps_szs r; simp only [dps, szs]; omega
end

/-- what the table of formed says -/
def FormTab (k n : Int) (s : ByteArray) (lv : Value) (bn bs le : Bool) (w : World) (v : Value) (wx : World) : Prop :=
  v = .pointer (some ⟨w.heap.size + 1, 0, none⟩) ∧ wx = (w.alloc (.cells #[.int .i64 k, .int .i64 n, .string s, lv] 54)).alloc (.cells #[.bool false, .bool (bs && le), .bool (bn && le), .bool (bn && bs)] 112)

theorem fm_bad (k n : Int) (s : ByteArray) (l : List V) (h : k < 1 ∨ 3 < k) : fm (.mk k n s l) = false := by
  rw [fm, if_neg (by omega), if_neg (by omega), if_neg (by omega)]
theorem fm_1 (n : Int) (s : ByteArray) (l : List V) (bs : Bool) (h : s.toList.isEmpty = bs) : fm (.mk 1 n s l) = (bs && l.isEmpty) := by simp [fm, h]
theorem fm_2 (n : Int) (s : ByteArray) (l : List V) (bn : Bool) (h : (n == 0) = bn) : fm (.mk 2 n s l) = (bn && l.isEmpty) := by simp [fm, h]
theorem fm_3 (n : Int) (s : ByteArray) (l : List V) (bn bs : Bool) (h : (n == 0) = bn) (h' : s.toList.isEmpty = bs) : fm (.mk 3 n s l) = (bn && bs && fms l) := by simp [fm, h, h']
theorem dp_3 (n : Int) (s : ByteArray) (l : List V) : dp (.mk 3 n s l) = dps l + 1 := by simp [dp]
theorem dp_1 (n : Int) (s : ByteArray) (l : List V) : dp (.mk 1 n s l) = 0 := by simp [dp]
theorem dp_2 (n : Int) (s : ByteArray) (l : List V) : dp (.mk 2 n s l) = 0 := by simp [dp]

def FormRel (B : Nat) (w : World) (l : List V) (i d : Value) (wr : World) : Prop :=
  ∃ k : Nat, k ≤ l.length ∧ i = .int .i64 k ∧ d = .int .i64 (dps (l.take k)) ∧ fms (l.take k) = true ∧ dps (l.take k) ≤ 1000000000 ∧ Below B w wr

set_option maxRecDepth 100000 in
set_option maxHeartbeats 1000000 in
theorem formed_any (N : Nat) (hN : N ≤ 1000000000) : ∀ (x : V) (_ : sz x ≤ N) (v : Value) (w : World) (_ : RdV w.heap.size w x v), Calls Try.prog 42 #[v] w (FormPost x w) := by
  induction N with
  | zero => intro x hx; obtain ⟨k, n, s, l⟩ := x; simp [sz] at hx
  | succ N ih =>
  have IH := Lib.hid (ih (by omega)); clear ih
  intro x hx v w hr
  obtain ⟨k, n, s, l⟩ := x
  obtain ⟨oa, cap, rfl, hl⟩ := hr.form
  clear hr
  simp only [V.kind, V.n, V.s, V.l] at *
  have HL := Lib.hid hl; clear hl
  obtain ⟨le, hle⟩ : ∃ b, (((l.length : Nat) : Int) == 0) = b := ⟨_, rfl⟩
  have Hle : Hid (l.isEmpty = le) := by
    show l.isEmpty = le
    rw [← hle]; cases l <;> simp <;> omega
  obtain ⟨bn, hbn⟩ : ∃ b, (n == 0) = b := ⟨_, rfl⟩
  obtain ⟨bs, hbs⟩ : ∃ b, s.toList.isEmpty = b := ⟨_, rfl⟩
  go_enter Try.func42, Try.ntmps42
  go_upto_region 1 with fail
  go_cut [4] (fun v wx => FormTab k n s (.slice oa l.length cap) bn bs le w v wx)
  case first =>
    cases bn <;> cases bs <;> cases le
    all_goals go_wp2
    all_goals go_meet
    all_goals exact ⟨rfl, rfl⟩
  case rest =>
    obtain ⟨rfl, rfl⟩ := hcut
    have Hn := Lib.hid hbn; have Hs := Lib.hid hbs; clear hbn hbs
    by_cases hok : k = 3 ∧ bn = true ∧ bs = true
    case neg =>
      have hc : k = 1 ∨ k = 2 ∨ k = 3 ∨ k < 1 ∨ 3 < k := by omega
      rcases hc with rfl | rfl | rfl | hc | hc
      · have HF := Lib.hid (fm_1 n s l bs Hs.out)
        cases bs <;> cases le
        all_goals go_wp2
        all_goals go_ret2
        all_goals exact ⟨by rw [HF.out, Hle.out, dp_1]; rfl, by repeat (first | exact Below.refl _ _ | refine Below.alloc ?_ (by simp) _)⟩
      · have HF := Lib.hid (fm_2 n s l bn Hn.out)
        cases bn <;> cases le
        all_goals go_wp2
        all_goals go_ret2
        all_goals exact ⟨by rw [HF.out, Hle.out, dp_2]; rfl, by repeat (first | exact Below.refl _ _ | refine Below.alloc ?_ (by simp) _)⟩
      · have HF := Lib.hid (fm_3 n s l bn bs Hn.out Hs.out)
        obtain ⟨bb, hbb, rfl⟩ : ∃ bb, (bn && bs) = bb ∧ bb = false := ⟨_, rfl, by simpa using hok⟩
        clear hok
        go_wp2
        go_ret2
        exact ⟨by rw [HF.out, hbb]; rfl, by repeat (first | exact Below.refl _ _ | refine Below.alloc ?_ (by simp) _)⟩
      all_goals
        have HF := Lib.hid (fm_bad k n s l (by omega))
        clear hok
        go_wp2
        go_ret2
        exact ⟨by rw [HF.out]; rfl, by repeat (first | exact Below.refl _ _ | refine Below.alloc ?_ (by simp) _)⟩
    case pos =>
      obtain ⟨rfl, rfl, rfl⟩ := hok
      have hszl : szs l ≤ N := by have := hx; simp only [sz] at this; omega
      have hll : l.length ≤ 1000000000 := by have := szs_len l; omega
      go_wp2
      go_loopw [2, 57] (fun d i wr => FormRel w.heap.size w l i d wr) (fun _ i _ => l.length - (intOf i).toNat)
      case atStart => exact ⟨0, Nat.zero_le _, rfl, rfl, rfl, by simp [dps], by repeat (first | exact Below.refl _ _ | refine Below.alloc ?_ (by simp) _)⟩
      case round =>
        obtain ⟨k, hkl, rfl, rfl, hfm, hdp, hb⟩ := hrel
        have Hfm := Lib.hid hfm; clear hfm
        by_cases hlt : k < l.length
        case neg =>
          have HF := Lib.hid (fm_3 n s l true true Hn.out Hs.out)
          have hkk : Hid (l.take k = l) := List.take_of_length_le (by omega)
          go_wp2
          go_ret2
          have hfl : fms l = true := hkk.out ▸ Hfm.out
          exact ⟨by rw [HF.out, hfl, dp_3, hkk.out]; simp, hb⟩
        case pos =>
          obtain ⟨x, hx'⟩ : ∃ x, l[k]? = some x := ⟨l[k], by simp [hlt]⟩
          have Hx := Lib.hid hx'; clear hx'
          rcases HL.out with ⟨rfl, _⟩ | ⟨_, c, o, cap', he, hlm, hat⟩
          · simp at hlt
          injection he with he1 he2 he3
          subst he1
          have hv := V.at_keep (Nat.le_refl _) hb.block x c (o + k * 4) (V.ats_get hat k x Hx.out)
          obtain ⟨hcb, c0, c1, c2, xo, xc, c3, hrd⟩ := V.at_def hv
          have hrd' : ∀ ob, RdV (wr.alloc ob).heap.size (wr.alloc ob) x (.agg #[.int .i64 x.kind, .int .i64 x.n, .string x.s, .slice xo x.l.length xc]) := fun ob =>
            hrd.keep (by have := hb.size; simp; omega) ((Below.refl _ wr).alloc hb.size ob).block
          have hsx := szs_get Hx.out
          have hdx := dp_sz x
          clear hat hv hrd he2 he3
          have hb2 : ∀ ob w', Below (wr.alloc ob).heap.size (wr.alloc ob) w' → Below w.heap.size w w' := fun ob w' hb' => (hb.alloc hb.size ob).trans (hb'.mono (by have := hb.size; simp; omega))
          rcases Bool.eq_false_or_eq_true (fm x) with hfx | hfx
          · go_wp2_with (go_at_call 42; refine (IH.out x (by omega) _ _ (hrd' _)).mono ?_; rintro e w' ⟨rfl, hb'⟩)
            go_roundw
            case rel =>
              refine ⟨k + 1, by omega, by go_num, ?_, ?_, ?_, hb2 _ _ hb'⟩
              · rw [dps_take Hx.out]; congr 1; split <;> omega
              · rw [fms_take Hx.out, Hfm.out, hfx]; rfl
              · rw [dps_take Hx.out]; omega
            case measure => simp [intOf]; omega
          · go_wp2_with (go_at_call 42; refine (IH.out x (by omega) _ _ (hrd' _)).mono ?_; rintro e w' ⟨rfl, hb'⟩)
            have HF := Lib.hid (fm_3 n s l true true Hn.out Hs.out)
            have hfl := fms_false Hx.out hfx
            go_ret2
            exact ⟨by rw [HF.out, hfl]; rfl, hb2 _ _ hb'⟩
end Go.Proofs.Ytlocilbcmcfmaaa
