/- ReportsCheckSpec: the walk. -/
import Derived.Test.YtgdbmoggpfpkkaaZRla
namespace Go.Proofs.Ytgdbmoggpfpkkaa
open Go.RowKit
theorem I64_of_wf {n : Int} (h : (Lit.int .i64 n).wf = true) : I64 n := by
  simp only [Lit.wf, Bool.and_eq_true, decide_eq_true_eq] at h
  unfold I64; simpa [IntKind.min, IntKind.max, IntKind.signed, IntKind.bits] using h
theorem cb_pair (w : World) (t t2 : TypeId) (cs cs2 : List Value) : CB ((w.alloc (.cells cs.toArray t)).alloc (.cells cs2.toArray t2)) w.heap.size t cs ∧ CB ((w.alloc (.cells cs.toArray t)).alloc (.cells cs2.toArray t2)) (w.heap.size + 1) t2 cs2 :=
  ⟨(CB.new w _ _).alloc _, cb_two w _ _ _⟩
structure StaAt (w : World) (g : Nat) (v : Value) (sh fa : Int) : Prop where
  c0 : w.cell? ⟨g, 0, none⟩ = some v
  c1 : w.cell? ⟨g, 1, none⟩ = some (.int .i64 sh)
  c2 : w.cell? ⟨g, 2, none⟩ = some (.int .i64 fa)
theorem StaAt.of {w : World} {g : Nat} {t : TypeId} {v : Value} {sh fa : Int} (h : CB w g t [v, .int .i64 sh, .int .i64 fa]) : StaAt w g v sh fa := ⟨h.cell 0, h.cell 1, h.cell 2⟩
theorem chk_E (m m1 : Int) (r : Rp) (E : Int) (w : World) (hm : IntKind.i64.wrap (m - 1) = m1) (hs : r.cl.size ≤ 9223372036854775807) (h : (if repB m m1 r then (0 : Int) else 220) = E) : Calls Try.prog 13 #[.int .i64 m, r.v] w fun e w' => e = .returned (.int .i64 E) ∧ Below w.heap.size w w' :=
  (check22_any m m1 r w hm hs).mono fun _ _ q => ⟨by rw [q.1, h], q.2⟩
theorem rchk_E (m m1 : Int) (r : Rp) (E : Int) (w : World) (hm : IntKind.i64.wrap (m - 1) = m1) (hs : r.cl.size ≤ 9223372036854775807) (h : (if repB m m1 r then (0 : Int) else 220) = E) : Calls Try.prog 14 #[.int .i64 m, r.v] w fun e w' => e = .returned (.int .i64 E) ∧ Below w.heap.size w w' :=
  (rcheck22_any m m1 r w hm hs).mono fun _ _ q => ⟨by rw [q.1, h], q.2⟩
theorem sta_E (vol sh fa : Int) (l : List Int) (v : Value) (E : Int) (w : World) (hl : IntsAt w.heap.size w l v) (h : (if staB vol l sh fa then (0 : Int) else 220) = E) : Calls Try.prog 15 #[.int .i64 vol, .agg #[v, .int .i64 sh, .int .i64 fa]] w fun e w' => e = .returned (.int .i64 E) ∧ Below w.heap.size w w' :=
  (station_any vol sh fa l v w hl).mono fun _ _ q => ⟨by rw [q.1, h], q.2⟩
theorem rsta_E (vol m1 sh fa : Int) (l : List Int) (v : Value) (E : Int) (w : World) (hm : IntKind.i64.wrap (vol - 1) = m1) (hl : IntsAt w.heap.size w l v) (h : (if staB vol l sh fa then (0 : Int) else 220) = E) : Calls Try.prog 16 #[.int .i64 vol, .agg #[v, .int .i64 sh, .int .i64 fa]] w fun e w' => e = .returned (.int .i64 E) ∧ Below w.heap.size w w' :=
  (rstation_any vol m1 sh fa l v w hm hl).mono fun _ _ q => ⟨by rw [q.1, h], q.2⟩
theorem IntsAt.drew {w w' : World} {l : List Int} {v : Value} {g : Nat} (h : IntsAt w.heap.size w l v) (hb : Below g w w') (hg : g = w.heap.size) : IntsAt w'.heap.size w' l v := by subst hg; exact h.ext hb
set_option maxRecDepth 100000 in
set_option maxHeartbeats 4000000 in
theorem checkSpec22_walk (many : Int) (r : Rp) (vol : Int) (l : List Int) (u : Value) (sh fa : Int) (w : World) (hm : I64 many) (hs : r.cl.size ≤ maxLen) (hv : I64 vol) (hl : IntsAt w.heap.size w l u) : Calls Try.prog 3 #[.int .i64 many, r.v, .int .i64 vol, .agg #[u, .int .i64 sh, .int .i64 fa]] w (BoolPost true w) := by
  have HL := Lib.hid hl
  obtain ⟨oa, cap, rfl, hlm⟩ := hl.shape
  have bl : (l.length : Int) ≤ 9223372036854775807 := by omega
  have Hs : Hid (r.cl.size ≤ 9223372036854775807) := by show _ ≤ _; unfold maxLen at hs; omega
  clear hl hs hm hv hlm
  have hcp := cb_pair w 23 26 r.cells [.slice oa l.length cap, .int .i64 sh, .int .i64 fa]
  have hcb0 := Lib.hid hcp.1
  have hcs0 := Lib.hid hcp.2
  have hb0 := Lib.hid (((Below.refl w.heap.size w).alloc (Nat.le_refl _) (.cells r.cells.toArray 23)).alloc (by simp) (.cells [.slice oa l.length cap, .int .i64 sh, .int .i64 fa].toArray 26))
  clear hcp
  change Calls Try.prog 3 #[.int .i64 many, .agg #[.int .i64 r.st, .int .i64 r.no, .int .i64 r.mi, .int .i64 r.ar, .string r.cl, .int .i64 r.vo], .int .i64 vol, .agg #[.slice oa l.length cap, .int .i64 sh, .int .i64 fa]] w _
  obtain ⟨st, hsh⟩ : ∃ t, decide (r.cl.size ≤ 200) = t := ⟨_, rfl⟩
  have Hsh := Lib.hid hsh; clear hsh
  go_enter Try.func3, Try.ntmps3
  go_upto_region 1 with fail
  change Code.wp _ _ _ _ ((w.alloc (.cells r.cells.toArray 23)).alloc (.cells [.slice oa l.length cap, .int .i64 sh, .int .i64 fa].toArray 26))
  generalize (w.alloc (.cells r.cells.toArray 23)).alloc (.cells [.slice oa l.length cap, .int .i64 sh, .int .i64 fa].toArray 26) = w0 at *
  go_wp2_with fail
  refine (sane22_any _).mono ?_
  rintro e w1 ⟨rfl, hb⟩
  have H1 := Lib.hid (below_ext hb0.out hb)
  have HA1 := Lib.hid (hcb0.out.ext hb)
  have HS1 := Lib.hid (hcs0.out.ext hb)
  clear hb hb0 hcb0 hcs0
  obtain ⟨c0, c1, c2, c3, c4, c5⟩ := RpAt.of_cb HA1.out
  go_wp2_with fail
  refine (short1 r st Hsh.out _).mono ?_
  rintro e w2 ⟨rfl, hb⟩
  have H2 := Lib.hid (below_ext H1.out hb)
  have HA2 := Lib.hid (HA1.out.ext hb)
  have HS2 := Lib.hid (HS1.out.ext hb)
  clear hb c0 c1 c2 c3 c4 c5 H1 HA1 HS1
  obtain ⟨s0, s1, s2⟩ := StaAt.of HS2.out
  cases st
  case false =>
    go_wp2_with fail
    go_ret
    exact ⟨rfl, H2.out⟩
  case true =>
  by_cases h100 : 100 < l.length
  · have t3 : decide ((100 : Int) < (l.length : Int)) = true := by simp; omega
    go_wp2_with fail
    go_ret
    exact ⟨rfl, H2.out⟩
  have t3 : decide ((100 : Int) < (l.length : Int)) = false := by simp; omega
  clear h100
  obtain ⟨E, hE⟩ : ∃ E : Int, (if repB many (IntKind.i64.wrap (many - 1)) r then (0 : Int) else 220) = E := ⟨_, rfl⟩
  have HE := Lib.hid hE; clear hE
  obtain ⟨F, hF⟩ : ∃ E : Int, (if staB vol l sh fa then (0 : Int) else 220) = E := ⟨_, rfl⟩
  have HF := Lib.hid hF; clear hF
  go_upto_region 5 with fail
  clear s0 s1 s2 t3
  have hbS := (Below.refl w2.heap.size w2).drew
  go_region_held3 (fun w' => (w'.cell? ⟨w.heap.size, 0, none⟩ = some (.int .i64 r.st) ∧ w'.cell? ⟨w.heap.size, 1, none⟩ = some (.int .i64 r.no) ∧ w'.cell? ⟨w.heap.size, 2, none⟩ = some (.int .i64 r.mi) ∧ w'.cell? ⟨w.heap.size, 3, none⟩ = some (.int .i64 r.ar) ∧ w'.cell? ⟨w.heap.size, 4, none⟩ = some (.string r.cl) ∧ w'.cell? ⟨w.heap.size, 5, none⟩ = some (.int .i64 r.vo)) ∧ w'.cell? ⟨w.heap.size + 1, 0, none⟩ = some (.slice oa l.length cap) ∧ w'.cell? ⟨w.heap.size + 1, 1, none⟩ = some (.int .i64 sh) ∧ w'.cell? ⟨w.heap.size + 1, 2, none⟩ = some (.int .i64 fa))
    (first
     | exact ⟨((RpAt.of_cb HA2.out).ext hbS).six, cell_ext hbS (StaAt.of HS2.out).c0, cell_ext hbS (StaAt.of HS2.out).c1, cell_ext hbS (StaAt.of HS2.out).c2⟩
     | go_keep)
    (first
     | (go_at_call 13; refine (chk_E many _ r E _ rfl Hs.out HE.out).mono ?_; rintro e w7 ⟨rfl, hb7⟩; have hbS : Below w2.heap.size w2 w7 := by (first | exact below_ext hbS hb7 | exact below_undrew' hb7))
     | (go_at_call 14; refine (rchk_E many _ r E _ rfl Hs.out HE.out).mono ?_; rintro e w7 ⟨rfl, hb7⟩; have hbS : Below w2.heap.size w2 w7 := by (first | exact below_ext hbS hb7 | exact below_undrew' hb7))
     | (go_at_call 15; refine (sta_E vol sh fa l _ F _ (HL.out.ext (below_ext H2.out hbS)) HF.out).mono ?_; rintro e w7 ⟨rfl, hb7⟩; have hbS : Below w2.heap.size w2 w7 := by (first | exact below_ext hbS hb7 | exact below_undrew' hb7))
     | (go_at_call 16; refine (rsta_E vol _ sh fa l _ F _ rfl (HL.out.ext (below_ext H2.out hbS)) HF.out).mono ?_; rintro e w7 ⟨rfl, hb7⟩; have hbS : Below w2.heap.size w2 w7 := by (first | exact below_ext hbS hb7 | exact below_undrew' hb7)))
  have H3 := Lib.hid (below_ext H2.out hbS)
  clear hbS
  go_wp2_with fail
  go_ret
  exact ⟨rfl, H3.out⟩
end Go.Proofs.Ytgdbmoggpfpkkaa
