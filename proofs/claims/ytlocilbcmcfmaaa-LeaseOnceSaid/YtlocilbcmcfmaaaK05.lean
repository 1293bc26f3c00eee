/- Merged: Ldp Ldq. -/
import Derived.Test.YtlocilbcmcfmaaaK04
import Derived.Carry
import Derived.Laws.EntriesVeiled
/- lease.Do: the command is refused ahead of its operation. -/
namespace Go.Proofs.Ytlocilbcmcfmaaa
open Go.RowKit
theorem do_les {w w1 : World} {l : List Le} {v : Value} {b o : Nat} (h : LesAt w.heap.size w l v) (hb : Below w.heap.size w w1) (hg : w.heap.size ≤ b) (u : Value) : LesAt (w1.setCell ⟨b, o, none⟩ u).heap.size (w1.setCell ⟨b, o, none⟩ u) l v :=
  h.ext (hb.setCell hg u)
theorem do_grown {w w1 w2 : World} {g : Nat} (h : Below w.heap.size w w1) (hg : w1.grownBy w2 (some g)) (hgb : w.heap.size ≤ g) : Below w.heap.size w w2 :=
  h.trans ⟨hg.os, hg.tape, hg.output, hg.size, fun k hk => hg.block k (Nat.lt_of_lt_of_le hk h.size) (fun e => by injection e; omega)⟩
set_option maxRecDepth 100000 in
set_option maxHeartbeats 4000000 in
theorem do_unknown (tk : Int) (l : List Le) (v : Value) (c : Cm) (w : World) (hl : LesAt w.heap.size w l v) (hlen : l.length ≤ 2000) (hc : chkL tk l = true) (hwf : (Lit.int .i64 c.kd).wf = true) (hkv : kdV c.kd = opZ) (hKo : (c.kd == 1 || c.kd == 2 || c.kd == 3) = false) :
    Calls Try.prog 12 #[lsV tk v, c.v] w (DoPost (.inl 350) w) := by
  have hmf : ∀ (fn : Fn) (first cap : Array Value) (w : World), (Instr.makeFunc fn first cap).run Try.prog w = .ok (.func fn first cap) w := fun _ _ _ _ => rfl
  have HX := Lib.hid (doW_box w tk v c); have HB := Lib.hid (doW_below w tk v c); have HR := Lib.hid (doW_at (tk := tk) c hl); have hsz := Lib.hid (doW_size w tk v c)
  have Hlen := Lib.hid hlen; have Hc := Lib.hid hc; have Hwf := Lib.hid hwf
  obtain ⟨oa, cap, rfl, hlm⟩ := hl.shape
  have HL := Lib.hid hl
  obtain ⟨kd, sl, ai, fl, ct⟩ := c
  clear hl hlen hc hlm hwf
  change Calls Try.prog 12 #[.agg #[.int .i64 tk, .slice oa l.length cap], .agg #[.int .i64 kd, .int .i64 sl, .int .i64 ai, .int .i64 fl, .int .i64 ct]] w _
  go_enter_defers Try.func12, Try.ntmps12
  go_upto_region 2 with fail
  change Code.wp _ _ _ _ (DoW w tk (.slice oa l.length cap) ⟨kd, sl, ai, fl, ct⟩)
  generalize DoW w tk (.slice oa l.length cap) ⟨kd, sl, ai, fl, ct⟩ = w0 at *
  have a0 : w0.cell? ⟨w.heap.size, 0, none⟩ = some (.int .i64 tk) := HX.out.b0.cell 0
  have a1 : w0.cell? ⟨w.heap.size, 1, none⟩ = some (.slice oa l.length cap) := HX.out.b0.cell 1
  go_upto_region 3 with (go_at_call 9; refine (lcheck_any tk l _ w0 HR.out Hlen.out).mono ?_; rw [Hc.out]; rintro e w1 ⟨rfl, hb1⟩; have HX1 := Lib.hid (HX.out.ext hb1); have e0 : w1.cell? ⟨w.heap.size + 1 + 1 + 1, 0, none⟩ = some (.int .i64 0) := HX1.out.b3.cell 0; have e1 : w1.frozen? ⟨w.heap.size + 1 + 1 + 1, 0, none⟩ = false := HX1.out.b3.frozen 0)
  have HB1 := Lib.hid (below_ext HB.out hb1)
  have HR1 := Lib.hid (HR.out.ext hb1)
  have HX2 : Hid (DoB (w1.setCell ⟨w.heap.size + 1 + 1 + 1, 0, none⟩ (.int .i64 0)) w.heap.size tk (.slice oa l.length cap) ⟨kd, sl, ai, fl, ct⟩ 0 (.slice none 0 0) 0) :=
    ⟨HX1.out.b0.far (by simp; omega) _, HX1.out.b1.far (by simp) _, HX1.out.b2.far (by simp) _, HX1.out.b3.set 0 _⟩
  have HB2 := Lib.hid (HB1.out.setCell (p := ⟨w.heap.size + 1 + 1 + 1, 0, none⟩) (by simp; omega) (.int .i64 0))
  have HR2 : Hid (LesAt (w1.setCell ⟨w.heap.size + 1 + 1 + 1, 0, none⟩ (.int .i64 0)).heap.size (w1.setCell ⟨w.heap.size + 1 + 1 + 1, 0, none⟩ (.int .i64 0)) l (.slice oa l.length cap)) := do_les HL.out HB1.out (by omega) _
  clear e0 e1 a0 a1 hb1
  generalize w1.setCell ⟨w.heap.size + 1 + 1 + 1, 0, none⟩ (.int .i64 0) = w2 at *
  have r2 : w2.cell? ⟨w.heap.size + 1 + 1 + 1, 0, none⟩ = some (.int .i64 0) := HX2.out.b3.cell 0
  have hmm := @run_makeMap Try.prog
  obtain ⟨k1, k2, k3, u1, u2, u3, hK, hbK⟩ := kinds_made w2
  unfold opV at u1 u2 u3
  have HX3 := Lib.hid (HX2.out.ext hbK)
  have HB3 := Lib.hid (below_ext HB2.out hbK)
  have HR3 := Lib.hid (HR2.out.ext hbK)
  clear hbK
  have d0 : k3.cell? ⟨w.heap.size + 1, 0, none⟩ = some (.int .i64 kd) := HX3.out.b1.cell 0
  have hlk := hK.look (k := kd) Hwf.out
  clear hK
  rw [hkv, hKo] at hlk
  unfold opZ at hlk
  clear hkv hKo
  go_upto_region 7 with fail
  have HX4 := Lib.hid (HX3.out.ext ((Below.refl k3.heap.size k3).alloc (Nat.le_refl _) (.cells #[.nilFunc] 66)))
  have HR4 := Lib.hid (HR3.out.ext ((Below.refl k3.heap.size k3).alloc (Nat.le_refl _) (.cells #[.nilFunc] 66)))
  have HB4 := Lib.hid (below_ext HB3.out ((Below.refl k3.heap.size k3).alloc (Nat.le_refl _) (.cells #[.nilFunc] 66)))
  have HF4 : Hid (CB (k3.alloc (.cells #[.nilFunc] 66)) k3.heap.size 66 [.nilFunc]) := CB.new k3 _ _
  have HFb := Lib.hid HX3.out.b3.lt
  clear d0 hlk u1 u2 u3 r2
  generalize k3.alloc (.cells #[.nilFunc] 66) = w4 at *
  generalize k3.heap.size = Fb at *
  go_wp2_with (go_at_call 27; refine (demand_false _ _).mono ?_; rintro e w' ⟨rfl, rfl⟩)
  refine leaves_cons (f := 22) (args := #[.pointer (some ⟨w.heap.size + 1 + 1 + 1, 0, none⟩)]) (by simp) (by simp [go_sem]) ?_
  refine (do1_panicking 350 (w.heap.size + 1 + 1 + 1) _ w4 (HX4.out.b3.cell 0) (HX4.out.b3.frozen 0)).mono ?_
  rintro r u' w'' ⟨rfl, rfl, hcw⟩
  obtain ⟨q2, q3, hgw⟩ := hcw
  have HB9 : Hid (Below w.heap.size w w'') := do_grown HB4.out hgw (by omega)
  have hb2 := HX4.out.b2.keep (hgw.block _ HX4.out.b2.lt (fun e => by injection e; omega))
  have q0 : w''.cell? ⟨w.heap.size + 1 + 1, 0, none⟩ = some (.int .i64 0) := hb2.cell 0
  have q1 : w''.cell? ⟨w.heap.size + 1 + 1, 1, none⟩ = some (.slice none 0 0) := hb2.cell 1
  clear hb2 hgw q3
  simp [Leaves, settle, failDone, results, Try.results12, go_sem, q0, q1, q2]
  exact ⟨HB9.out, rfl⟩
set_option maxRecDepth 100000 in
set_option maxHeartbeats 4000000 in
theorem do_range (tk : Int) (l : List Le) (v : Value) (c : Cm) (w : World) (hl : LesAt w.heap.size w l v) (hlen : l.length ≤ 2000) (hc : chkL tk l = true) (hwf : (Lit.int .i64 c.kd).wf = true) (f : Nat) (hkv : kdV c.kd = opV f) (hKo : (c.kd == 1 || c.kd == 2 || c.kd == 3) = true) (hrg : (wiB c.sl 0 4095 && wiB c.fl 0 4095 && wiB c.ai 0 7) = false) :
    Calls Try.prog 12 #[lsV tk v, c.v] w (DoPost (.inl 350) w) := by
  have hmf : ∀ (fn : Fn) (first cap : Array Value) (w : World), (Instr.makeFunc fn first cap).run Try.prog w = .ok (.func fn first cap) w := fun _ _ _ _ => rfl
  have HX := Lib.hid (doW_box w tk v c); have HB := Lib.hid (doW_below w tk v c); have HR := Lib.hid (doW_at (tk := tk) c hl); have hsz := Lib.hid (doW_size w tk v c)
  have Hlen := Lib.hid hlen; have Hc := Lib.hid hc; have Hwf := Lib.hid hwf; have Hrg := Lib.hid hrg
  obtain ⟨oa, cap, rfl, hlm⟩ := hl.shape
  have HL := Lib.hid hl
  obtain ⟨kd, sl, ai, fl, ct⟩ := c
  clear hl hlen hc hlm hwf hrg
  change Calls Try.prog 12 #[.agg #[.int .i64 tk, .slice oa l.length cap], .agg #[.int .i64 kd, .int .i64 sl, .int .i64 ai, .int .i64 fl, .int .i64 ct]] w _
  go_enter_defers Try.func12, Try.ntmps12
  go_upto_region 2 with fail
  change Code.wp _ _ _ _ (DoW w tk (.slice oa l.length cap) ⟨kd, sl, ai, fl, ct⟩)
  generalize DoW w tk (.slice oa l.length cap) ⟨kd, sl, ai, fl, ct⟩ = w0 at *
  have a0 : w0.cell? ⟨w.heap.size, 0, none⟩ = some (.int .i64 tk) := HX.out.b0.cell 0
  have a1 : w0.cell? ⟨w.heap.size, 1, none⟩ = some (.slice oa l.length cap) := HX.out.b0.cell 1
  go_upto_region 3 with (go_at_call 9; refine (lcheck_any tk l _ w0 HR.out Hlen.out).mono ?_; rw [Hc.out]; rintro e w1 ⟨rfl, hb1⟩; have HX1 := Lib.hid (HX.out.ext hb1); have e0 : w1.cell? ⟨w.heap.size + 1 + 1 + 1, 0, none⟩ = some (.int .i64 0) := HX1.out.b3.cell 0; have e1 : w1.frozen? ⟨w.heap.size + 1 + 1 + 1, 0, none⟩ = false := HX1.out.b3.frozen 0)
  have HB1 := Lib.hid (below_ext HB.out hb1)
  have HR1 := Lib.hid (HR.out.ext hb1)
  have HX2 : Hid (DoB (w1.setCell ⟨w.heap.size + 1 + 1 + 1, 0, none⟩ (.int .i64 0)) w.heap.size tk (.slice oa l.length cap) ⟨kd, sl, ai, fl, ct⟩ 0 (.slice none 0 0) 0) :=
    ⟨HX1.out.b0.far (by simp; omega) _, HX1.out.b1.far (by simp) _, HX1.out.b2.far (by simp) _, HX1.out.b3.set 0 _⟩
  have HB2 := Lib.hid (HB1.out.setCell (p := ⟨w.heap.size + 1 + 1 + 1, 0, none⟩) (by simp; omega) (.int .i64 0))
  have HR2 : Hid (LesAt (w1.setCell ⟨w.heap.size + 1 + 1 + 1, 0, none⟩ (.int .i64 0)).heap.size (w1.setCell ⟨w.heap.size + 1 + 1 + 1, 0, none⟩ (.int .i64 0)) l (.slice oa l.length cap)) := do_les HL.out HB1.out (by omega) _
  clear e0 e1 a0 a1 hb1
  generalize w1.setCell ⟨w.heap.size + 1 + 1 + 1, 0, none⟩ (.int .i64 0) = w2 at *
  have r2 : w2.cell? ⟨w.heap.size + 1 + 1 + 1, 0, none⟩ = some (.int .i64 0) := HX2.out.b3.cell 0
  have hmm := @run_makeMap Try.prog
  obtain ⟨k1, k2, k3, u1, u2, u3, hK, hbK⟩ := kinds_made w2
  unfold opV at u1 u2 u3
  have HX3 := Lib.hid (HX2.out.ext hbK)
  have HB3 := Lib.hid (below_ext HB2.out hbK)
  have HR3 := Lib.hid (HR2.out.ext hbK)
  clear hbK
  have d0 : k3.cell? ⟨w.heap.size + 1, 0, none⟩ = some (.int .i64 kd) := HX3.out.b1.cell 0
  have hlk := hK.look (k := kd) Hwf.out
  clear hK
  rw [hkv, hKo] at hlk
  unfold opV at hlk
  clear hkv hKo
  go_upto_region 7 with fail
  have HX4 := Lib.hid (HX3.out.ext ((Below.refl k3.heap.size k3).alloc (Nat.le_refl _) (.cells #[.func (.func f) #[] #[]] 66)))
  have HR4 := Lib.hid (HR3.out.ext ((Below.refl k3.heap.size k3).alloc (Nat.le_refl _) (.cells #[.func (.func f) #[] #[]] 66)))
  have HB4 := Lib.hid (below_ext HB3.out ((Below.refl k3.heap.size k3).alloc (Nat.le_refl _) (.cells #[.func (.func f) #[] #[]] 66)))
  have HF4 : Hid (CB (k3.alloc (.cells #[.func (.func f) #[] #[]] 66)) k3.heap.size 66 [.func (.func f) #[] #[]]) := CB.new k3 _ _
  have HFb := Lib.hid HX3.out.b3.lt
  clear d0 hlk u1 u2 u3 r2
  generalize k3.alloc (.cells #[.func (.func f) #[] #[]] 66) = w4 at *
  generalize k3.heap.size = Fb at *
  have d1 : w4.cell? ⟨w.heap.size + 1, 1, none⟩ = some (.int .i64 sl) := HX4.out.b1.cell 1
  have d2 : w4.cell? ⟨w.heap.size + 1, 2, none⟩ = some (.int .i64 ai) := HX4.out.b1.cell 2
  have d3 : w4.cell? ⟨w.heap.size + 1, 3, none⟩ = some (.int .i64 fl) := HX4.out.b1.cell 3
  obtain ⟨ba, hba⟩ : ∃ b, wiB ai 0 7 = b := ⟨_, rfl⟩
  obtain ⟨bf, hbf⟩ : ∃ b, wiB fl 0 4095 = b := ⟨_, rfl⟩
  obtain ⟨bs, hbs⟩ : ∃ b, wiB sl 0 4095 = b := ⟨_, rfl⟩
  have hb : (bs && bf && ba) = false := by rw [← hbs, ← hbf, ← hba]; exact Hrg.out
  have Hs := Lib.hid hbs; have Hf := Lib.hid hbf; have Ha := Lib.hid hba
  clear hba hbf hbs
  cases bs <;> cases bf <;> cases ba <;> first | (exact absurd hb (by decide)) | skip
  all_goals
    clear hb
    go_wp2_with (first | (go_at_call 19; (first | (with_reducible refine (within_is Hs _).mono ?_) | (with_reducible refine (within_is Hf _).mono ?_) | (with_reducible refine (within_is Ha _).mono ?_)); rintro e w' ⟨rfl, rfl⟩) | (go_at_call 27; refine (demand_false _ _).mono ?_; rintro e w' ⟨rfl, rfl⟩))
    refine leaves_cons (f := 22) (args := #[.pointer (some ⟨w.heap.size + 1 + 1 + 1, 0, none⟩)]) (by simp) (by simp [go_sem]) ?_
    refine (do1_panicking 350 (w.heap.size + 1 + 1 + 1) _ w4 (HX4.out.b3.cell 0) (HX4.out.b3.frozen 0)).mono ?_
    rintro r u' w'' ⟨rfl, rfl, hcw⟩
    obtain ⟨q2, q3, hgw⟩ := hcw
    have HB9 : Hid (Below w.heap.size w w'') := do_grown HB4.out hgw (by omega)
    have hb2 := HX4.out.b2.keep (hgw.block _ HX4.out.b2.lt (fun e => by injection e; omega))
    have q0 : w''.cell? ⟨w.heap.size + 1 + 1, 0, none⟩ = some (.int .i64 0) := hb2.cell 0
    have q1 : w''.cell? ⟨w.heap.size + 1 + 1, 1, none⟩ = some (.slice none 0 0) := hb2.cell 1
    clear hb2 hgw q3
    simp [Leaves, settle, failDone, results, Try.results12, go_sem, q0, q1, q2]
    exact ⟨HB9.out, rfl⟩
end Go.Proofs.Ytlocilbcmcfmaaa
/- lease.Do: grant. -/
namespace Go.Proofs.Ytlocilbcmcfmaaa
open Go.RowKit
theorem own_base {w : World} {b b' : Nat} {v : Value} {l : List Le} (h : OwnLe w b v l) (hb : b' ≤ b) : OwnLe w b' v l := by
  rcases h with ⟨h1, h2⟩
  refine ⟨h1, ?_⟩
  rcases h2 with h2 | ⟨g, cap, cur, rfl, hb1, r⟩
  · exact .inl h2
  · exact .inr ⟨g, cap, cur, rfl, Nat.le_trans hb hb1, r⟩
theorem CB.keepB {w w' : World} {B g : Nat} {t : TypeId} {cs : List Value} (h : CB w g t cs) (hb : Below B w w') (hg : g < B) : CB w' g t cs := h.keep (hb.block g hg)
theorem DoB.keepB {w w' : World} {B g : Nat} {tk : Int} {v : Value} {c : Cm} {rt : Int} {rv : Value} {e : Int} (h : DoB w g tk v c rt rv e) (hb : Below B w w') (hg : g + 1 + 1 + 1 < B) : DoB w' g tk v c rt rv e := ⟨h.b0.keepB hb (by omega), h.b1.keepB hb (by omega), h.b2.keepB hb (by omega), h.b3.keepB hb (by omega)⟩
theorem DoB.far {w : World} {g : Nat} {p : Addr} {tk : Int} {v : Value} {c : Cm} {rt : Int} {rv : Value} {e : Int} (h : DoB w g tk v c rt rv e) (hg : g + 1 + 1 + 1 < p.block) (u : Value) : DoB (w.setCell p u) g tk v c rt rv e := ⟨h.b0.far (by omega) _, h.b1.far (by omega) _, h.b2.far (by omega) _, h.b3.far (by omega) _⟩
theorem do_base {B g : Nat} {w0 w w' : World} (h : Below g w0 w) (hb : Below B w w') (hg : g ≤ B) : Below g w0 w' := h.trans (below_mono hb hg)
theorem own_far {w : World} {b S : Nat} {v : Value} {l : List Le} (h : OwnLe w b v l) (hS : S < b) : v.ownBlock ≠ some S := fun e => by have := (h.lt _ e).1; omega
theorem do_end {w : World} {g : Nat} {tk : Int} {v : Value} {c : Cm} {rt : Int} {rv : Value} {e : Int} (h : DoB w g tk v c rt rv e) (x y z : Value) :
    CB (((w.setCell ⟨g + 1 + 1, 0, none⟩ x).setCell ⟨g + 1 + 1, 1, none⟩ y).setCell ⟨g + 1 + 1 + 1, 0, none⟩ z) (g + 1 + 1) 26 [x, y] ∧ CB (((w.setCell ⟨g + 1 + 1, 0, none⟩ x).setCell ⟨g + 1 + 1, 1, none⟩ y).setCell ⟨g + 1 + 1 + 1, 0, none⟩ z) (g + 1 + 1 + 1) 30 [z] :=
  ⟨((h.b2.set 0 x).set 1 y).far (p := ⟨g + 1 + 1 + 1, 0, none⟩) (Nat.ne_of_lt (Nat.lt_succ_self _)) z, ((h.b3.far (p := ⟨g + 1 + 1, 0, none⟩) (Nat.ne_of_gt (Nat.lt_succ_self _)) x).far (p := ⟨g + 1 + 1, 1, none⟩) (Nat.ne_of_gt (Nat.lt_succ_self _)) y).set 0 z⟩
theorem do_endB {w0 w : World} {g : Nat} (h : Below g w0 w) (x y z : Value) : Below g w0 (((w.setCell ⟨g + 1 + 1, 0, none⟩ x).setCell ⟨g + 1 + 1, 1, none⟩ y).setCell ⟨g + 1 + 1 + 1, 0, none⟩ z) :=
  ((h.setCell (p := ⟨g + 1 + 1, 0, none⟩) (by simp only; omega) x).setCell (p := ⟨g + 1 + 1, 1, none⟩) (by simp only; omega) y).setCell (p := ⟨g + 1 + 1 + 1, 0, none⟩) (by simp only; omega) z
set_option maxRecDepth 100000 in
set_option maxHeartbeats 4000000 in
theorem do_grant (tk : Int) (l : List Le) (v : Value) (c : Cm) (w : World) (hl : LesAt w.heap.size w l v) (hlen : l.length ≤ 2000) (hc : chkL tk l = true) (hwf : (Lit.int .i64 c.kd).wf = true) (hkd : c.kd = 1) (hrg : (wiB c.sl 0 4095 && wiB c.fl 0 4095 && wiB c.ai 0 7) = true) :
    Calls Try.prog 12 #[lsV tk v, c.v] w (DoPost (grantR tk l c (lowN l c.sl)) w) := by
  have hmf : ∀ (fn : Fn) (first cap : Array Value) (w : World), (Instr.makeFunc fn first cap).run Try.prog w = .ok (.func fn first cap) w := fun _ _ _ _ => rfl
  have HX := Lib.hid (doW_box w tk v c); have HB := Lib.hid (doW_below w tk v c); have HR := Lib.hid (doW_at (tk := tk) c hl); have hsz := Lib.hid (doW_size w tk v c)
  have Hlen := Lib.hid hlen; have Hc := Lib.hid hc; have Hwf := Lib.hid hwf; have Hrg := Lib.hid hrg; have Hkd := Lib.hid hkd
  obtain ⟨oa, cap, rfl, hlm⟩ := hl.shape
  have HL := Lib.hid hl
  obtain ⟨n, hn⟩ : ∃ n, lowN l c.sl = n := ⟨_, rfl⟩
  have Hlow : Hid (LowL l c.sl n) := by show LowL _ _ _; rw [← hn]; exact low_is l c.sl (good_iff.1 hc).ord
  rw [hn]
  obtain ⟨R, hR⟩ : ∃ R, grantR tk l c n = R := ⟨_, rfl⟩
  rw [hR]
  have HRR := Lib.hid hR
  have Htk := Lib.hid (good_iff.1 hc).lo
  clear hR hn
  obtain ⟨kd, sl, ai, fl, ct⟩ := c
  clear hl hlen hc hlm hwf hrg hkd
  change Calls Try.prog 12 #[.agg #[.int .i64 tk, .slice oa l.length cap], .agg #[.int .i64 kd, .int .i64 sl, .int .i64 ai, .int .i64 fl, .int .i64 ct]] w _
  go_enter_defers Try.func12, Try.ntmps12
  go_upto_region 2 with fail
  change Code.wp _ _ _ _ (DoW w tk (.slice oa l.length cap) ⟨kd, sl, ai, fl, ct⟩)
  generalize DoW w tk (.slice oa l.length cap) ⟨kd, sl, ai, fl, ct⟩ = w0 at *
  have a0 : w0.cell? ⟨w.heap.size, 0, none⟩ = some (.int .i64 tk) := HX.out.b0.cell 0
  have a1 : w0.cell? ⟨w.heap.size, 1, none⟩ = some (.slice oa l.length cap) := HX.out.b0.cell 1
  go_upto_region 3 with (go_at_call 9; refine (lcheck_any tk l _ w0 HR.out Hlen.out).mono ?_; rw [Hc.out]; rintro e w1 ⟨rfl, hb1⟩; have HX1 := Lib.hid (HX.out.ext hb1); have e0 : w1.cell? ⟨w.heap.size + 1 + 1 + 1, 0, none⟩ = some (.int .i64 0) := HX1.out.b3.cell 0; have e1 : w1.frozen? ⟨w.heap.size + 1 + 1 + 1, 0, none⟩ = false := HX1.out.b3.frozen 0)
  have HB1 := Lib.hid (below_ext HB.out hb1)
  have HR1 := Lib.hid (HR.out.ext hb1)
  have HX2 : Hid (DoB (w1.setCell ⟨w.heap.size + 1 + 1 + 1, 0, none⟩ (.int .i64 0)) w.heap.size tk (.slice oa l.length cap) ⟨kd, sl, ai, fl, ct⟩ 0 (.slice none 0 0) 0) :=
    ⟨HX1.out.b0.far (by simp; omega) _, HX1.out.b1.far (by simp) _, HX1.out.b2.far (by simp) _, HX1.out.b3.set 0 _⟩
  have HB2 := Lib.hid (HB1.out.setCell (p := ⟨w.heap.size + 1 + 1 + 1, 0, none⟩) (by simp; omega) (.int .i64 0))
  have HR2 : Hid (LesAt (w1.setCell ⟨w.heap.size + 1 + 1 + 1, 0, none⟩ (.int .i64 0)).heap.size (w1.setCell ⟨w.heap.size + 1 + 1 + 1, 0, none⟩ (.int .i64 0)) l (.slice oa l.length cap)) := do_les HL.out HB1.out (by omega) _
  clear e0 e1 a0 a1 hb1
  generalize w1.setCell ⟨w.heap.size + 1 + 1 + 1, 0, none⟩ (.int .i64 0) = w2 at *
  have r2 : w2.cell? ⟨w.heap.size + 1 + 1 + 1, 0, none⟩ = some (.int .i64 0) := HX2.out.b3.cell 0
  have hmm := @run_makeMap Try.prog
  obtain ⟨k1, k2, k3, u1, u2, u3, hK, hbK⟩ := kinds_made w2
  unfold opV at u1 u2 u3
  have HX3 := Lib.hid (HX2.out.ext hbK)
  have HB3 := Lib.hid (below_ext HB2.out hbK)
  have HR3 := Lib.hid (HR2.out.ext hbK)
  clear hbK
  have d0 : k3.cell? ⟨w.heap.size + 1, 0, none⟩ = some (.int .i64 kd) := HX3.out.b1.cell 0
  have hlk := hK.look (k := kd) Hwf.out
  clear hK
  have hkv : kdV kd = opV 24 := by rw [show kd = 1 from Hkd.out]; rfl
  have hKo : (kd == 1 || kd == 2 || kd == 3) = true := by rw [show kd = 1 from Hkd.out]; rfl
  rw [hkv, hKo] at hlk
  unfold opV at hlk
  clear hkv hKo
  go_upto_region 7 with fail
  have HX4 := Lib.hid (HX3.out.ext ((Below.refl k3.heap.size k3).alloc (Nat.le_refl _) (.cells #[.func (.func 24) #[] #[]] 66)))
  have HR4 := Lib.hid (HR3.out.ext ((Below.refl k3.heap.size k3).alloc (Nat.le_refl _) (.cells #[.func (.func 24) #[] #[]] 66)))
  have HB4 := Lib.hid (below_ext HB3.out ((Below.refl k3.heap.size k3).alloc (Nat.le_refl _) (.cells #[.func (.func 24) #[] #[]] 66)))
  have HF4 : Hid (CB (k3.alloc (.cells #[.func (.func 24) #[] #[]] 66)) k3.heap.size 66 [.func (.func 24) #[] #[]]) := CB.new k3 _ _
  have HFb := Lib.hid HX3.out.b3.lt
  clear d0 hlk u1 u2 u3 r2
  generalize k3.alloc (.cells #[.func (.func 24) #[] #[]] 66) = w4 at *
  generalize k3.heap.size = Fb at *
  have d1 : w4.cell? ⟨w.heap.size + 1, 1, none⟩ = some (.int .i64 sl) := HX4.out.b1.cell 1
  have d2 : w4.cell? ⟨w.heap.size + 1, 2, none⟩ = some (.int .i64 ai) := HX4.out.b1.cell 2
  have d3 : w4.cell? ⟨w.heap.size + 1, 3, none⟩ = some (.int .i64 fl) := HX4.out.b1.cell 3
  have Hs : Hid (wiB sl 0 4095 = true) := (Bool.and_eq_true_iff.1 (Bool.and_eq_true_iff.1 Hrg.out).1).1
  have Hf : Hid (wiB fl 0 4095 = true) := (Bool.and_eq_true_iff.1 (Bool.and_eq_true_iff.1 Hrg.out).1).2
  have Ha : Hid (wiB ai 0 7 = true) := (Bool.and_eq_true_iff.1 Hrg.out).2
  go_upto_region 8 with (first | (go_at_call 19; (first | (with_reducible refine (within_is Hs _).mono ?_) | (with_reducible refine (within_is Hf _).mono ?_) | (with_reducible refine (within_is Ha _).mono ?_)); rintro e w' ⟨rfl, rfl⟩) | (go_at_call 27; refine (demand_true _ _).mono ?_; rintro e w' ⟨rfl, rfl⟩))
  clear d1 d2 d3
  have HX5 := Lib.hid (HX4.out.ext (Below.refl w4.heap.size w4).drew)
  have HR5 := Lib.hid (HR4.out.ext (Below.refl w4.heap.size w4).drew)
  have HB5 := Lib.hid HB4.out.drew
  have HF5 := Lib.hid (HF4.out.ext (Below.refl w4.heap.size w4).drew)
  have HF5l := Lib.hid (HF5.out.lt)
  have HX5l := Lib.hid (HX5.out.b3.lt)
  refine wp_region_noPanic ?_
  refine wp_region_held_drew (S := fun w' => w'.cell? ⟨w.heap.size, 0, none⟩ = some (.int .i64 tk) ∧ w'.cell? ⟨w.heap.size, 1, none⟩ = some (.slice oa l.length cap)) (by kernel_rfl) ⟨HX4.out.b0.cell 0, HX4.out.b0.cell 1⟩ (fun hHeld => ?_)
  clear HX4 HR4 HB4 HF4
  generalize w4.drew = w5 at *
  refine take_dst (some 46) (i := 0) (v := ?vA0) rfl rfl (by kernel_rfl) (by kernel_rfl) (by kernel_rfl) (fun _ _ _ h => h) (Or.inl ⟨by rfl, fun wS hSw => ?hyA0⟩) (by assumption) ?restA0
  case hyA0 => (obtain ⟨s0, s1⟩ := hSw; go_simp; first | done | with_reducible rfl)
  try simp only [Act.put, List.setIfInBounds_toArray, List.set_cons_zero, List.set_cons_succ]
  refine take_dst (some 47) (i := 1) (v := ?vA1) rfl rfl (by kernel_rfl) (by kernel_rfl) (by kernel_rfl) (fun _ _ _ h => h) (Or.inl ⟨by rfl, fun wS hSw => ?hyA1⟩) (by assumption) ?restA1
  case hyA1 => (obtain ⟨s0, s1⟩ := hSw; go_simp; first | done | with_reducible rfl)
  try simp only [Act.put, List.setIfInBounds_toArray, List.set_cons_zero, List.set_cons_succ]
  refine take_dst (some 48) (i := 2) (v := ?vA2) rfl rfl (by kernel_rfl) (by kernel_rfl) (by kernel_rfl) (fun _ _ _ h => h) (Or.inl ⟨by rfl, fun wS hSw => ?hyA2⟩) (by assumption) ?restA2
  case hyA2 => (obtain ⟨s0, s1⟩ := hSw; go_simp; first | done | with_reducible rfl)
  try simp only [Act.put, List.setIfInBounds_toArray, List.set_cons_zero, List.set_cons_succ]
  refine take_dst (some 49) (i := 3) (v := ?vA3) rfl rfl (by kernel_rfl) (by kernel_rfl) (by kernel_rfl) (fun _ _ _ h => h) (Or.inl ⟨by rfl, fun wS hSw => ?hyA3⟩) (by assumption) ?restA3
  case hyA3 => (obtain ⟨s0, s1⟩ := hSw; go_simp; first | done | with_reducible rfl)
  try simp only [Act.put, List.setIfInBounds_toArray, List.set_cons_zero, List.set_cons_succ]
  refine wpAnyH_ready (rs := [4, 7]) (by kernel_rfl) (by simp) ?_
  refine AllReadyH.cons rfl (fun K hK => ?_) (AllReadyH.cons rfl (fun K hK => ?_) AllReadyH.nil)
  · go_simp
    refine (lclone_any l _ w5 HR5.out Hlen.out).mono ?_
    rintro e w6 ⟨vC, rfl, hO6, hb6⟩
    have HO6 := Lib.hid hO6
    have HX6 := Lib.hid (HX5.out.ext hb6)
    have HF6 := Lib.hid (HF5.out.ext hb6)
    have HB6 := Lib.hid (below_ext HB5.out hb6)
    have Hz6 := Lib.hid hb6.size
    clear hO6 hb6
    obtain ⟨oa2, cap2, rfl, _⟩ := HO6.out.rd.shape
    refine hK.out _ _ ⟨HX6.out.b0.cell 0, HX6.out.b0.cell 1⟩ (fun hHeldA => ?_)
    clear hK K
    try simp only [Act.put, List.setIfInBounds_toArray, List.set_cons_zero, List.set_cons_succ]
    refine take_dst (some 51) (i := 5) (v := ?vB5) rfl rfl (by kernel_rfl) (by kernel_rfl) (by kernel_rfl) (fun _ _ _ h => h) (Or.inl ⟨by rfl, fun wS hSw => ?hyB5⟩) (by assumption) ?restB5
    case hyB5 => (obtain ⟨s0, s1⟩ := hSw; go_simp; first | done | with_reducible rfl)
    try simp only [Act.put, List.setIfInBounds_toArray, List.set_cons_zero, List.set_cons_succ]
    refine take_dst (some 52) (i := 6) (v := ?vB6) rfl rfl (by kernel_rfl) (by kernel_rfl) (by kernel_rfl) (fun _ _ _ h => h) (Or.inl ⟨by rfl, fun wS hSw => ?hyB6⟩) (by assumption) ?restB6
    case hyB6 => (obtain ⟨s0, s1⟩ := hSw; go_simp; first | done | with_reducible rfl)
    try simp only [Act.put, List.setIfInBounds_toArray, List.set_cons_zero, List.set_cons_succ]
    refine wpAnyH_ready (rs := [7]) (by kernel_rfl) (by simp) ?_
    refine AllReadyH.cons rfl (fun K hK => ?_) AllReadyH.nil
    go_simp
    have HS6 : Hid (CB (w6.alloc (.cells #[.int .i64 0, .slice none 0 0] 72)) w6.heap.size 72 [.int .i64 0, .slice none 0 0]) := CB.new w6 _ _
    have HX7 := Lib.hid (HX6.out.ext ((Below.refl w6.heap.size w6).alloc (Nat.le_refl _) (.cells #[.int .i64 0, .slice none 0 0] 72)))
    have HF7 := Lib.hid (HF6.out.alloc (.cells #[.int .i64 0, .slice none 0 0] 72))
    have HB7 := Lib.hid (below_ext HB6.out ((Below.refl w6.heap.size w6).alloc (Nat.le_refl _) (.cells #[.int .i64 0, .slice none 0 0] 72)))
    have HO7 := Lib.hid (HO6.out.alloc (.cells #[.int .i64 0, .slice none 0 0] 72))
    have hne7 := Lib.hid (show (Value.slice oa2 l.length cap2).ownBlock ≠ some w6.heap.size from fun e => by have := (HO6.out.lt _ e).2; omega)
    have HBS := Lib.hid Hz6.out
    generalize hw7 : w6.alloc (.cells #[.int .i64 0, .slice none 0 0] 72) = w7 at *
    generalize w6.heap.size = S at *
    clear hw7
    refine hK.out _ _ ⟨HX7.out.b0.cell 0, HX7.out.b0.cell 1⟩ (fun hHeldB => ?_)
    clear hK K
    try simp only [Act.put, List.setIfInBounds_toArray, List.set_cons_zero, List.set_cons_succ]
    refine wpAnyH_ready (rs := [8]) (by kernel_rfl) (by simp) ?_
    refine AllReadyH.cons rfl (fun K hK => ?_) AllReadyH.nil
    have y0 : w7.cell? ⟨S, 0, none⟩ = some (.int .i64 0) := HS6.out.cell 0
    have y1 : w7.cell? ⟨S, 1, none⟩ = some (.slice none 0 0) := HS6.out.cell 1
    have z0 : w7.frozen? ⟨S, 0, none⟩ = false := HS6.out.frozen _
    have z1 : w7.frozen? ⟨S, 1, none⟩ = false := HS6.out.frozen _
    have hgS := Lib.hid (show w.heap.size + 1 + 1 + 1 < S from Nat.lt_of_lt_of_le HX5l.out HBS.out)
    go_simp
    have HX8 := Lib.hid ((HX7.out.far (p := ⟨S, 0, none⟩) hgS.out (.int .i64 tk)).far (p := ⟨S, 1, none⟩) hgS.out (.slice oa2 l.length cap2))
    have HF8 := Lib.hid ((HF7.out.far (p := ⟨S, 0, none⟩) (Nat.ne_of_lt (Nat.lt_of_lt_of_le HF5l.out HBS.out)) (.int .i64 tk)).far (p := ⟨S, 1, none⟩) (Nat.ne_of_lt (Nat.lt_of_lt_of_le HF5l.out HBS.out)) (.slice oa2 l.length cap2))
    have HB8 := Lib.hid ((HB7.out.setCell (p := ⟨S, 0, none⟩) (by have := hgS.out; simp only; omega) (.int .i64 tk)).setCell (p := ⟨S, 1, none⟩) (by have := hgS.out; simp only; omega) (.slice oa2 l.length cap2))
    have HS8 : Hid (StCB ((w7.setCell ⟨S, 0, none⟩ (.int .i64 tk)).setCell ⟨S, 1, none⟩ (.slice oa2 l.length cap2)) S tk (.slice oa2 l.length cap2)) := (HS6.out.set 0 _).set 1 _
    have HO8 := Lib.hid ((HO7.out.far2 (i := 0) hne7.out (.int .i64 tk)).far2 (i := 1) hne7.out (.slice oa2 l.length cap2))
    generalize hw8 : (w7.setCell ⟨S, 0, none⟩ (.int .i64 tk)).setCell ⟨S, 1, none⟩ (.slice oa2 l.length cap2) = w8 at *
    clear hw8 y0 y1 z0 z1
    refine hK.out _ _ ⟨HX8.out.b0.cell 0, HX8.out.b0.cell 1⟩ (fun hHeldZ => ?_)
    clear hK K
    refine wpAnyH_done (by kernel_rfl) ?_ _
    refine NoPanic.normal ?_
    have Hop : Hid (Calls Try.prog 24 #[.pointer (some ⟨S, 0, none⟩), .agg #[.int .i64 kd, .int .i64 sl, .int .i64 ai, .int .i64 fl, .int .i64 ct]] w8 (OpPost S w5.heap.size R w8)) := by show Calls _ _ _ _ _; rw [← HRR.out]; exact grant_any S w5.heap.size tk l _ ⟨kd, sl, ai, fl, ct⟩ n w8 HS8.out HO8.out hne7.out HBS.out Htk.out Hlen.out Hlow.out
    have f0 : w8.cell? ⟨Fb, 0, none⟩ = some (.func (.func 24) #[] #[]) := HF8.out.cell 0
    have k0 : w8.cell? ⟨w.heap.size + 1, 0, none⟩ = some (.int .i64 kd) := HX8.out.b1.cell 0
    have k1 : w8.cell? ⟨w.heap.size + 1, 1, none⟩ = some (.int .i64 sl) := HX8.out.b1.cell 1
    have k2 : w8.cell? ⟨w.heap.size + 1, 2, none⟩ = some (.int .i64 ai) := HX8.out.b1.cell 2
    have k3 : w8.cell? ⟨w.heap.size + 1, 3, none⟩ = some (.int .i64 fl) := HX8.out.b1.cell 3
    have k4 : w8.cell? ⟨w.heap.size + 1, 4, none⟩ = some (.int .i64 ct) := HX8.out.b1.cell 4
    clear HX HB HR HX1 HB1 HR1 HX2 HB2 HR2 HX3 HB3 HR3 HR5 HF5 HF7 HF8
    cases R with
    | inl k =>
      go_wp2_with (go_at_call 24; refine Hop.out.mono ?_; rintro e w9 ⟨hb9, rfl⟩)
      have HX9 := Lib.hid (HX8.out.keepB hb9 HX5l.out)
      have HB9 := Lib.hid (do_base HB8.out hb9 (by have := HX5l.out; omega))
      refine leaves_cons (f := 22) (args := #[.pointer (some ⟨w.heap.size + 1 + 1 + 1, 0, none⟩)]) (by simp) (by simp [go_sem]) ?_
      refine (do1_panicking k (w.heap.size + 1 + 1 + 1) _ w9 (HX9.out.b3.cell 0) (HX9.out.b3.frozen 0)).mono ?_
      rintro r u' w'' ⟨rfl, rfl, hcw⟩
      obtain ⟨q2, q3, hgw⟩ := hcw
      have HBx : Hid (Below w.heap.size w w'') := do_grown HB9.out hgw (by omega)
      have hb2 := HX9.out.b2.keep (hgw.block _ HX9.out.b2.lt (fun e => by injection e; omega))
      have q0 : w''.cell? ⟨w.heap.size + 1 + 1, 0, none⟩ = some (.int .i64 0) := hb2.cell 0
      have q1 : w''.cell? ⟨w.heap.size + 1 + 1, 1, none⟩ = some (.slice none 0 0) := hb2.cell 1
      clear hb2 hgw q3
      simp [Leaves, settle, failDone, results, Try.results12, go_sem, q0, q1, q2]
      exact ⟨HBx.out, rfl⟩
    | inr pr =>
      obtain ⟨tk2, l2⟩ := pr
      go_upto_region 10 with (go_at_call 24; refine Hop.out.mono ?_; rintro e w9 ⟨hb9, rfl, v2, hS9, hO9, hne9⟩)
      have HX9 := Lib.hid (HX8.out.keepB hb9 HX5l.out)
      have HB9 := Lib.hid (do_base HB8.out hb9 (by have := HX5l.out; omega))
      have HO9 := Lib.hid hO9
      obtain ⟨oa3, cap3, rfl, _⟩ := HO9.out.rd.shape
      have s0 : w9.cell? ⟨S, 0, none⟩ = some (.int .i64 tk2) := hS9.cell 0
      have s1 : w9.cell? ⟨S, 1, none⟩ = some (.slice oa3 l2.length cap3) := hS9.cell 1
      have r0 : w9.cell? ⟨w.heap.size + 1 + 1, 0, none⟩ = some (.int .i64 0) := HX9.out.b2.cell 0
      have r1 : w9.cell? ⟨w.heap.size + 1 + 1, 1, none⟩ = some (.slice none 0 0) := HX9.out.b2.cell 1
      have r2 : w9.cell? ⟨w.heap.size + 1 + 1 + 1, 0, none⟩ = some (.int .i64 0) := HX9.out.b3.cell 0
      have z0 : w9.frozen? ⟨w.heap.size + 1 + 1, 0, none⟩ = false := HX9.out.b2.frozen 0
      have z1 : w9.frozen? ⟨w.heap.size + 1 + 1, 1, none⟩ = false := HX9.out.b2.frozen 1
      have z2 : w9.frozen? ⟨w.heap.size + 1 + 1 + 1, 0, none⟩ = false := HX9.out.b3.frozen 0
      have hn2 := Lib.hid (own_far HO9.out (show w.heap.size + 1 + 1 < w5.heap.size by have := HX5l.out; omega))
      have hn3 := Lib.hid (own_far HO9.out HX5l.out)
      have HXf := Lib.hid (do_end HX9.out (.int .i64 tk2) (.slice oa3 l2.length cap3) (.int .i64 0))
      have HBf := Lib.hid (do_endB HB9.out (.int .i64 tk2) (.slice oa3 l2.length cap3) (.int .i64 0))
      have HOf := Lib.hid (((HO9.out.far2 (i := 0) hn2.out (.int .i64 tk2)).far2 (i := 1) hn2.out (.slice oa3 l2.length cap3)).far2 (i := 0) hn3.out (.int .i64 0))
      clear hS9 hb9 hO9
      go_wp2
      generalize hwf : ((w9.setCell ⟨w.heap.size + 1 + 1, 0, none⟩ (.int .i64 tk2)).setCell ⟨w.heap.size + 1 + 1, 1, none⟩ (.slice oa3 l2.length cap3)).setCell ⟨w.heap.size + 1 + 1 + 1, 0, none⟩ (.int .i64 0) = wf at *
      clear hwf r0 r1 r2 z0 z1 z2 s0 s1
      have q0 : wf.cell? ⟨w.heap.size + 1 + 1, 0, none⟩ = some (.int .i64 tk2) := HXf.out.1.cell 0
      have q1 : wf.cell? ⟨w.heap.size + 1 + 1, 1, none⟩ = some (.slice oa3 l2.length cap3) := HXf.out.1.cell 1
      have q2 : wf.cell? ⟨w.heap.size + 1 + 1 + 1, 0, none⟩ = some (.int .i64 0) := HXf.out.2.cell 0
      refine leaves_cons (f := 22) (args := #[.pointer (some ⟨w.heap.size + 1 + 1 + 1, 0, none⟩)]) (by simp) (by simp [go_sem]) ?_
      refine (do1_idle (w.heap.size + 1 + 1 + 1) wf).mono ?_
      rintro e u' w'' ⟨rfl, rfl, rfl⟩
      simp [Leaves, settle, results, Try.results12, go_sem, q0, q1, q2]
      exact ⟨HBf.out, _, rfl, own_base HOf.out (by have := HX5l.out; omega)⟩
  · go_simp
    have HX6 := Lib.hid (HX5.out.ext ((Below.refl w5.heap.size w5).alloc (Nat.le_refl _) (.cells #[.int .i64 0, .slice none 0 0] 72)))
    have HF6 := Lib.hid (HF5.out.alloc (.cells #[.int .i64 0, .slice none 0 0] 72))
    have HB6 := Lib.hid (below_ext HB5.out ((Below.refl w5.heap.size w5).alloc (Nat.le_refl _) (.cells #[.int .i64 0, .slice none 0 0] 72)))
    have HR6 := Lib.hid (HR5.out.ext ((Below.refl w5.heap.size w5).alloc (Nat.le_refl _) (.cells #[.int .i64 0, .slice none 0 0] 72)))
    have HS5 : Hid (CB (w5.alloc (.cells #[.int .i64 0, .slice none 0 0] 72)) w5.heap.size 72 [.int .i64 0, .slice none 0 0]) := CB.new w5 _ _
    have HS5l := Lib.hid HS5.out.lt
    generalize hw6 : w5.alloc (.cells #[.int .i64 0, .slice none 0 0] 72) = w6 at *
    clear hw6
    refine hK.out _ _ ⟨HX6.out.b0.cell 0, HX6.out.b0.cell 1⟩ (fun hHeldA => ?_)
    clear hK K
    try simp only [Act.put, List.setIfInBounds_toArray, List.set_cons_zero, List.set_cons_succ]
    refine wpAnyH_ready (rs := [4]) (by kernel_rfl) (by simp) ?_
    refine AllReadyH.cons rfl (fun K hK => ?_) AllReadyH.nil
    go_simp
    refine (lclone_any l _ w6 HR6.out Hlen.out).mono ?_
    rintro e w7 ⟨vC, rfl, hO7, hb7⟩
    have hne7 := Lib.hid (show vC.ownBlock ≠ some w5.heap.size from fun e => by have := (hO7.lt _ e).1; have := HS5l.out; omega)
    have HO7 := Lib.hid (own_base hO7 (show w5.heap.size ≤ w6.heap.size from Nat.le_of_lt HS5l.out))
    have HBS := Lib.hid (Nat.le_refl w5.heap.size)
    have HX7 := Lib.hid (HX6.out.ext hb7)
    have HF7 := Lib.hid (HF6.out.ext hb7)
    have HB7 := Lib.hid (below_ext HB6.out hb7)
    have HS6 := Lib.hid (HS5.out.ext hb7)
    clear hO7 hb7 HS5l
    obtain ⟨oa2, cap2, rfl, _⟩ := HO7.out.rd.shape
    obtain ⟨S, hS⟩ : ∃ S, w5.heap.size = S := ⟨_, rfl⟩
    rw [hS] at hne7 HS6
    have HBS : Hid (w5.heap.size ≤ S) := by show _ ≤ _; rw [hS]; exact Nat.le_refl _
    try simp only [hS]
    clear hS
    refine hK.out _ _ ⟨HX7.out.b0.cell 0, HX7.out.b0.cell 1⟩ (fun hHeldB => ?_)
    clear hK K
    try simp only [Act.put, List.setIfInBounds_toArray, List.set_cons_zero, List.set_cons_succ]
    refine take_dst (some 51) (i := 5) (v := ?vC5) rfl rfl (by kernel_rfl) (by kernel_rfl) (by kernel_rfl) (fun _ _ _ h => h) (Or.inl ⟨by rfl, fun wS hSw => ?hyC5⟩) (by assumption) ?restC5
    case hyC5 => (obtain ⟨s0, s1⟩ := hSw; go_simp; first | done | with_reducible rfl)
    try simp only [Act.put, List.setIfInBounds_toArray, List.set_cons_zero, List.set_cons_succ]
    refine take_dst (some 52) (i := 6) (v := ?vC6) rfl rfl (by kernel_rfl) (by kernel_rfl) (by kernel_rfl) (fun _ _ _ h => h) (Or.inl ⟨by rfl, fun wS hSw => ?hyC6⟩) (by assumption) ?restC6
    case hyC6 => (obtain ⟨s0, s1⟩ := hSw; go_simp; first | done | with_reducible rfl)
    try simp only [Act.put, List.setIfInBounds_toArray, List.set_cons_zero, List.set_cons_succ]
    refine wpAnyH_ready (rs := [8]) (by kernel_rfl) (by simp) ?_
    refine AllReadyH.cons rfl (fun K hK => ?_) AllReadyH.nil
    have y0 : w7.cell? ⟨S, 0, none⟩ = some (.int .i64 0) := HS6.out.cell 0
    have y1 : w7.cell? ⟨S, 1, none⟩ = some (.slice none 0 0) := HS6.out.cell 1
    have z0 : w7.frozen? ⟨S, 0, none⟩ = false := HS6.out.frozen _
    have z1 : w7.frozen? ⟨S, 1, none⟩ = false := HS6.out.frozen _
    have hgS := Lib.hid (show w.heap.size + 1 + 1 + 1 < S from Nat.lt_of_lt_of_le HX5l.out HBS.out)
    go_simp
    have HX8 := Lib.hid ((HX7.out.far (p := ⟨S, 0, none⟩) hgS.out (.int .i64 tk)).far (p := ⟨S, 1, none⟩) hgS.out (.slice oa2 l.length cap2))
    have HF8 := Lib.hid ((HF7.out.far (p := ⟨S, 0, none⟩) (Nat.ne_of_lt (Nat.lt_of_lt_of_le HF5l.out HBS.out)) (.int .i64 tk)).far (p := ⟨S, 1, none⟩) (Nat.ne_of_lt (Nat.lt_of_lt_of_le HF5l.out HBS.out)) (.slice oa2 l.length cap2))
    have HB8 := Lib.hid ((HB7.out.setCell (p := ⟨S, 0, none⟩) (by have := hgS.out; simp only; omega) (.int .i64 tk)).setCell (p := ⟨S, 1, none⟩) (by have := hgS.out; simp only; omega) (.slice oa2 l.length cap2))
    have HS8 : Hid (StCB ((w7.setCell ⟨S, 0, none⟩ (.int .i64 tk)).setCell ⟨S, 1, none⟩ (.slice oa2 l.length cap2)) S tk (.slice oa2 l.length cap2)) := (HS6.out.set 0 _).set 1 _
    have HO8 := Lib.hid ((HO7.out.far2 (i := 0) hne7.out (.int .i64 tk)).far2 (i := 1) hne7.out (.slice oa2 l.length cap2))
    generalize hw8 : (w7.setCell ⟨S, 0, none⟩ (.int .i64 tk)).setCell ⟨S, 1, none⟩ (.slice oa2 l.length cap2) = w8 at *
    clear hw8 y0 y1 z0 z1
    refine hK.out _ _ ⟨HX8.out.b0.cell 0, HX8.out.b0.cell 1⟩ (fun hHeldZ => ?_)
    clear hK K
    refine wpAnyH_done (by kernel_rfl) ?_ _
    refine NoPanic.normal ?_
    have Hop : Hid (Calls Try.prog 24 #[.pointer (some ⟨S, 0, none⟩), .agg #[.int .i64 kd, .int .i64 sl, .int .i64 ai, .int .i64 fl, .int .i64 ct]] w8 (OpPost S w5.heap.size R w8)) := by show Calls _ _ _ _ _; rw [← HRR.out]; exact grant_any S w5.heap.size tk l _ ⟨kd, sl, ai, fl, ct⟩ n w8 HS8.out HO8.out hne7.out HBS.out Htk.out Hlen.out Hlow.out
    have f0 : w8.cell? ⟨Fb, 0, none⟩ = some (.func (.func 24) #[] #[]) := HF8.out.cell 0
    have k0 : w8.cell? ⟨w.heap.size + 1, 0, none⟩ = some (.int .i64 kd) := HX8.out.b1.cell 0
    have k1 : w8.cell? ⟨w.heap.size + 1, 1, none⟩ = some (.int .i64 sl) := HX8.out.b1.cell 1
    have k2 : w8.cell? ⟨w.heap.size + 1, 2, none⟩ = some (.int .i64 ai) := HX8.out.b1.cell 2
    have k3 : w8.cell? ⟨w.heap.size + 1, 3, none⟩ = some (.int .i64 fl) := HX8.out.b1.cell 3
    have k4 : w8.cell? ⟨w.heap.size + 1, 4, none⟩ = some (.int .i64 ct) := HX8.out.b1.cell 4
    clear HX HB HR HX1 HB1 HR1 HX2 HB2 HR2 HX3 HB3 HR3 HR5 HF5 HF7 HF8
    cases R with
    | inl k =>
      go_wp2_with (go_at_call 24; refine Hop.out.mono ?_; rintro e w9 ⟨hb9, rfl⟩)
      have HX9 := Lib.hid (HX8.out.keepB hb9 HX5l.out)
      have HB9 := Lib.hid (do_base HB8.out hb9 (by have := HX5l.out; omega))
      refine leaves_cons (f := 22) (args := #[.pointer (some ⟨w.heap.size + 1 + 1 + 1, 0, none⟩)]) (by simp) (by simp [go_sem]) ?_
      refine (do1_panicking k (w.heap.size + 1 + 1 + 1) _ w9 (HX9.out.b3.cell 0) (HX9.out.b3.frozen 0)).mono ?_
      rintro r u' w'' ⟨rfl, rfl, hcw⟩
      obtain ⟨q2, q3, hgw⟩ := hcw
      have HBx : Hid (Below w.heap.size w w'') := do_grown HB9.out hgw (by omega)
      have hb2 := HX9.out.b2.keep (hgw.block _ HX9.out.b2.lt (fun e => by injection e; omega))
      have q0 : w''.cell? ⟨w.heap.size + 1 + 1, 0, none⟩ = some (.int .i64 0) := hb2.cell 0
      have q1 : w''.cell? ⟨w.heap.size + 1 + 1, 1, none⟩ = some (.slice none 0 0) := hb2.cell 1
      clear hb2 hgw q3
      simp [Leaves, settle, failDone, results, Try.results12, go_sem, q0, q1, q2]
      exact ⟨HBx.out, rfl⟩
    | inr pr =>
      obtain ⟨tk2, l2⟩ := pr
      go_upto_region 10 with (go_at_call 24; refine Hop.out.mono ?_; rintro e w9 ⟨hb9, rfl, v2, hS9, hO9, hne9⟩)
      have HX9 := Lib.hid (HX8.out.keepB hb9 HX5l.out)
      have HB9 := Lib.hid (do_base HB8.out hb9 (by have := HX5l.out; omega))
      have HO9 := Lib.hid hO9
      obtain ⟨oa3, cap3, rfl, _⟩ := HO9.out.rd.shape
      have s0 : w9.cell? ⟨S, 0, none⟩ = some (.int .i64 tk2) := hS9.cell 0
      have s1 : w9.cell? ⟨S, 1, none⟩ = some (.slice oa3 l2.length cap3) := hS9.cell 1
      have r0 : w9.cell? ⟨w.heap.size + 1 + 1, 0, none⟩ = some (.int .i64 0) := HX9.out.b2.cell 0
      have r1 : w9.cell? ⟨w.heap.size + 1 + 1, 1, none⟩ = some (.slice none 0 0) := HX9.out.b2.cell 1
      have r2 : w9.cell? ⟨w.heap.size + 1 + 1 + 1, 0, none⟩ = some (.int .i64 0) := HX9.out.b3.cell 0
      have z0 : w9.frozen? ⟨w.heap.size + 1 + 1, 0, none⟩ = false := HX9.out.b2.frozen 0
      have z1 : w9.frozen? ⟨w.heap.size + 1 + 1, 1, none⟩ = false := HX9.out.b2.frozen 1
      have z2 : w9.frozen? ⟨w.heap.size + 1 + 1 + 1, 0, none⟩ = false := HX9.out.b3.frozen 0
      have hn2 := Lib.hid (own_far HO9.out (show w.heap.size + 1 + 1 < w5.heap.size by have := HX5l.out; omega))
      have hn3 := Lib.hid (own_far HO9.out HX5l.out)
      have HXf := Lib.hid (do_end HX9.out (.int .i64 tk2) (.slice oa3 l2.length cap3) (.int .i64 0))
      have HBf := Lib.hid (do_endB HB9.out (.int .i64 tk2) (.slice oa3 l2.length cap3) (.int .i64 0))
      have HOf := Lib.hid (((HO9.out.far2 (i := 0) hn2.out (.int .i64 tk2)).far2 (i := 1) hn2.out (.slice oa3 l2.length cap3)).far2 (i := 0) hn3.out (.int .i64 0))
      clear hS9 hb9 hO9
      go_wp2
      generalize hwf : ((w9.setCell ⟨w.heap.size + 1 + 1, 0, none⟩ (.int .i64 tk2)).setCell ⟨w.heap.size + 1 + 1, 1, none⟩ (.slice oa3 l2.length cap3)).setCell ⟨w.heap.size + 1 + 1 + 1, 0, none⟩ (.int .i64 0) = wf at *
      clear hwf r0 r1 r2 z0 z1 z2 s0 s1
      have q0 : wf.cell? ⟨w.heap.size + 1 + 1, 0, none⟩ = some (.int .i64 tk2) := HXf.out.1.cell 0
      have q1 : wf.cell? ⟨w.heap.size + 1 + 1, 1, none⟩ = some (.slice oa3 l2.length cap3) := HXf.out.1.cell 1
      have q2 : wf.cell? ⟨w.heap.size + 1 + 1 + 1, 0, none⟩ = some (.int .i64 0) := HXf.out.2.cell 0
      refine leaves_cons (f := 22) (args := #[.pointer (some ⟨w.heap.size + 1 + 1 + 1, 0, none⟩)]) (by simp) (by simp [go_sem]) ?_
      refine (do1_idle (w.heap.size + 1 + 1 + 1) wf).mono ?_
      rintro e u' w'' ⟨rfl, rfl, rfl⟩
      simp [Leaves, settle, results, Try.results12, go_sem, q0, q1, q2]
      exact ⟨HBf.out, _, rfl, own_base HOf.out (by have := HX5l.out; omega)⟩
end Go.Proofs.Ytlocilbcmcfmaaa
