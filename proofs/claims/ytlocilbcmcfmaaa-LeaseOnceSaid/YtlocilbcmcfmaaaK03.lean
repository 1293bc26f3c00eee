/- Merged: Lgi Lgr Met. -/
import Derived.Test.YtlocilbcmcfmaaaK01
import Derived.Test.YtlocilbcmcfmaaaK02
import Derived.Maps.OwnSet
import Derived.Maps.OwnOps
import Derived.Maps.Views
/- lease: give. -/
namespace Go.Proofs.Ytlocilbcmcfmaaa
open Go.RowKit
theorem OwnK.far {α : Type} {K : EK α} {e : TypeId} {w : World} {base g n cap S i : Nat} {l : List α} (h : OwnK K e w base (.slice (some ⟨g, 0, none⟩) n cap) l) (hne : g ≠ S) (u : Value) : OwnK K e (w.setCell ⟨S, i, none⟩ u) base (.slice (some ⟨g, 0, none⟩) n cap) l := by
  rcases h with ⟨h1, h2⟩
  refine ⟨h1, ?_⟩
  rcases h2 with h2 | ⟨g', cp, cur, h3, hb1, hg, r⟩
  · exact .inl h2
  · have h4 := h3
    injection h4 with h4
    injection h4 with h4
    injection h4 with h4
    subst h4
    exact .inr ⟨g, cp, cur, h3, hb1, (Below.heap_setCell w _ u g hne).trans hg, r⟩
def set5 (w : World) (g o : Nat) (r : Le) : World := ((((w.setCell ⟨g, o, none⟩ (.int .i64 r.sl)).setCell ⟨g, o + 1, none⟩ (.int .i64 r.ai)).setCell ⟨g, o + 2, none⟩ (.int .i64 r.fl)).setCell ⟨g, o + 3, none⟩ (.int .i64 r.tk)).setCell ⟨g, o + 4, none⟩ (.bool r.us)
theorem set5_far {g k o : Nat} {w : World} (r : Le) (h : k ≠ g) : (set5 w g o r).heap[k]? = w.heap[k]? := by
  unfold set5
  rw [Below.heap_setCell _ _ _ k h, Below.heap_setCell _ _ _ k h, Below.heap_setCell _ _ _ k h, Below.heap_setCell _ _ _ k h, Below.heap_setCell _ _ _ k h]
theorem set5_below {B g o : Nat} {w0 w : World} (r : Le) (h : Below B w0 w) (hg : B ≤ g) : Below B w0 (set5 w g o r) :=
  ((((h.setCell hg _).setCell hg _).setCell hg _).setCell hg _).setCell hg _
theorem set_some {α : Type} {l : List α} {n : Nat} {x : α} (h : l[n]? = some x) (y : α) : (l.set n y)[n]? = some y := by
  rw [List.getElem?_set_self (List.getElem?_eq_some_iff.1 h).1]
theorem set5_own {w : World} {base g n m cap : Nat} {l : List Le} {x : Le} (r : Le) (h : OwnLe w base (.slice (some ⟨g, 0, none⟩) m cap) l) (hx : l[n]? = some x) : OwnLe (set5 w g (n * 5) r) base (.slice (some ⟨g, 0, none⟩) m cap) (l.set n r) := by
  have h1 := OwnK.put (K := leK) (j := 0) (b := { x with sl := r.sl }) h hx rfl (by decide)
  have h2 := OwnK.put (K := leK) (j := 1) (b := { x with sl := r.sl, ai := r.ai }) h1 (set_some hx _) rfl (by decide)
  have h3 := OwnK.put (K := leK) (j := 2) (b := { x with sl := r.sl, ai := r.ai, fl := r.fl }) h2 (set_some (set_some hx _) _) rfl (by decide)
  have h4 := OwnK.put (K := leK) (j := 3) (b := { x with sl := r.sl, ai := r.ai, fl := r.fl, tk := r.tk }) h3 (set_some (set_some (set_some hx _) _) _) rfl (by decide)
  have h5 := OwnK.put (K := leK) (j := 4) (b := r) h4 (set_some (set_some (set_some (set_some hx _) _) _) _) rfl (by decide)
  rw [List.set_set, List.set_set, List.set_set, List.set_set] at h5
  exact h5
def giveR (tk : Int) (l : List Le) (c : Cm) (n : Nat) : Int ⊕ (Int × List Le) :=
  match heldE l c n with
  | some k => .inl k
  | none => if tk < 1048576 then .inr (tk + 1, l.set n ⟨c.sl, c.ai, c.fl, tk + 1, false⟩) else .inl 2
set_option maxRecDepth 100000 in
set_option maxHeartbeats 4000000 in
theorem give_any (S base : Nat) (tk : Int) (l : List Le) (v : Value) (c : Cm) (n : Nat) (w : World) (hS : StCB w S tk v) (hO : OwnLe w base v l) (hne : v.ownBlock ≠ some S) (hbS : base ≤ S) (htk : 0 ≤ tk) (hlen : l.length ≤ 2000) (hlow : LowL l c.sl n) :
    Calls Try.prog 25 #[.pointer (some ⟨S, 0, none⟩), c.v] w (OpPost S base (giveR tk l c n) w) := by
  have HS := Lib.hid hS; have HO := Lib.hid hO; have Hne := Lib.hid hne; have HbS := Lib.hid hbS; have Hlow := Lib.hid hlow; have Hlen := Lib.hid hlen
  have hbw := Lib.hid (Nat.le_of_lt (Nat.lt_of_le_of_lt hbS hS.lt))
  have Htk := Lib.hid htk
  clear hS hO hne hbS hlow hlen htk
  obtain ⟨kd, sl, ai, fl, ct⟩ := c
  have hb0 := Lib.hid ((Below.refl w.heap.size w).alloc (Nat.le_refl _) (.cells #[.int .i64 kd, .int .i64 sl, .int .i64 ai, .int .i64 fl, .int .i64 ct] 33))
  have hcb0 : Hid (CB (w.alloc (.cells #[.int .i64 kd, .int .i64 sl, .int .i64 ai, .int .i64 fl, .int .i64 ct] 33)) w.heap.size 33 [.int .i64 kd, .int .i64 sl, .int .i64 ai, .int .i64 fl, .int .i64 ct]) := CB.new w _ _
  have hS0 := Lib.hid (HS.out.alloc (.cells #[.int .i64 kd, .int .i64 sl, .int .i64 ai, .int .i64 fl, .int .i64 ct] 33))
  have hO0 := Lib.hid (HO.out.ext hb0.out)
  change Calls Try.prog 25 #[.pointer (some ⟨S, 0, none⟩), .agg #[.int .i64 kd, .int .i64 sl, .int .i64 ai, .int .i64 fl, .int .i64 ct]] w _
  obtain ⟨R, hR⟩ : ∃ R, giveR tk l ⟨kd, sl, ai, fl, ct⟩ n = R := ⟨_, rfl⟩
  rw [hR]
  have HR := Lib.hid hR; clear hR
  go_enter Try.func25, Try.ntmps25
  go_upto_region 1 with fail
  generalize w.alloc (.cells #[.int .i64 kd, .int .i64 sl, .int .i64 ai, .int .i64 fl, .int .i64 ct] 33) = w0 at *
  have c0 : w0.cell? ⟨w.heap.size, 0, none⟩ = some (.int .i64 kd) := hcb0.out.cell 0
  have c1 : w0.cell? ⟨w.heap.size, 1, none⟩ = some (.int .i64 sl) := hcb0.out.cell 1
  have c2 : w0.cell? ⟨w.heap.size, 2, none⟩ = some (.int .i64 ai) := hcb0.out.cell 2
  have c3 : w0.cell? ⟨w.heap.size, 3, none⟩ = some (.int .i64 fl) := hcb0.out.cell 3
  have c4 : w0.cell? ⟨w.heap.size, 4, none⟩ = some (.int .i64 ct) := hcb0.out.cell 4
  cases hh : heldE l ⟨kd, sl, ai, fl, ct⟩ n with
  | some k =>
    have Hcall := Lib.hid (held_err hS0.out hO0.out.rd Hlen.out Hlow.out hh)
    have hRe : Hid (R = .inl k) := by show _ = _; rw [← HR.out]; unfold giveR; rw [hh]
    clear hh
    go_wp2_with (go_at_call 37; refine Hcall.out.mono ?_; rintro e w1 ⟨rfl, hb1⟩)
    exact ⟨rfl, below_mono (below_ext hb0.out hb1) hbw.out, by rw [hRe.out]⟩
  | none =>
    obtain ⟨x, hx⟩ := held_some hh
    obtain ⟨g, cap, rfl, hcall⟩ := held_good hS0.out hO0.out Hlen.out Hlow.out hh
    have Hcall := Lib.hid hcall
    have hR0 : Hid (R = if tk < 1048576 then .inr (tk + 1, l.set n ⟨sl, ai, fl, tk + 1, false⟩) else .inl 2) := by show _ = _; rw [← HR.out]; unfold giveR; rw [hh]
    have Hx := Lib.hid hx
    clear hh hcall hx
    go_upto_region 2 with (go_at_call 37; refine Hcall.out.mono ?_; rintro e w1 ⟨rfl, hb1⟩)
    have HB1 := Lib.hid (below_ext hb0.out hb1)
    have HS1 := Lib.hid (hS0.out.ext hb1)
    have HC1 := Lib.hid (hcb0.out.ext hb1)
    have HO1 := Lib.hid (hO0.out.ext hb1)
    clear hb1 c0 c1 c2 c3 c4
    obtain ⟨b, off, hbo, _, hat⟩ := HO1.out.rd.at (k := n) (List.getElem?_eq_some_iff.1 Hx.out).1
    injection hbo with hbo
    injection hbo with hbo1 hbo2
    subst hbo1 hbo2
    obtain ⟨y0, y1, y2, y3, y4⟩ := five_of (hat n x Hx.out)
    rw [Nat.zero_add] at y0 y1 y2 y3 y4
    change w1.cell? ⟨g, n * 5, none⟩ = _ at y0
    change w1.cell? ⟨g, n * 5 + 1, none⟩ = _ at y1
    change w1.cell? ⟨g, n * 5 + 2, none⟩ = _ at y2
    change w1.cell? ⟨g, n * 5 + 3, none⟩ = _ at y3
    change w1.cell? ⟨g, n * 5 + 4, none⟩ = _ at y4
    have d1 : w1.cell? ⟨w.heap.size, 1, none⟩ = some (.int .i64 sl) := HC1.out.cell 1
    have d2 : w1.cell? ⟨w.heap.size, 2, none⟩ = some (.int .i64 ai) := HC1.out.cell 2
    have d3 : w1.cell? ⟨w.heap.size, 3, none⟩ = some (.int .i64 fl) := HC1.out.cell 3
    have hbg := Lib.hid (HO1.out.lt g rfl).1
    clear hat
    by_cases hlt : tk < 1048576
    · have hRe : Hid (R = .inr (tk + 1, l.set n ⟨sl, ai, fl, tk + 1, false⟩)) := by show _ = _; rw [hR0.out, if_pos hlt]
      have Hlt := Lib.hid hlt
      clear hlt
      have hbS := (Below.refl w1.heap.size w1).drew
      refine wp_region_held_drew (S := fun w' => w'.cell? ⟨w.heap.size, 1, none⟩ = some (.int .i64 sl) ∧ w'.cell? ⟨w.heap.size, 2, none⟩ = some (.int .i64 ai) ∧ w'.cell? ⟨w.heap.size, 3, none⟩ = some (.int .i64 fl)) (by kernel_rfl) ⟨d1, d2, d3⟩ (fun hHeld => ?_)
      refine take_dst (some 8) (i := 0) (v := ?vA0) rfl rfl (by kernel_rfl) (by kernel_rfl) (by kernel_rfl) (fun _ _ _ h => h) (Or.inl ⟨by rfl, fun wS hSw => ?hyA0⟩) (by assumption) ?restA0
      case hyA0 => (obtain ⟨s0, s1, s2⟩ := hSw; go_simp; first | done | with_reducible rfl)
      try simp only [Act.put, List.setIfInBounds_toArray, List.set_cons_zero, List.set_cons_succ]
      refine take_dst (some 9) (i := 1) (v := ?vA1) rfl rfl (by kernel_rfl) (by kernel_rfl) (by kernel_rfl) (fun _ _ _ h => h) (Or.inl ⟨by rfl, fun wS hSw => ?hyA1⟩) (by assumption) ?restA1
      case hyA1 => (obtain ⟨s0, s1, s2⟩ := hSw; go_simp; first | done | with_reducible rfl)
      try simp only [Act.put, List.setIfInBounds_toArray, List.set_cons_zero, List.set_cons_succ]
      refine take_dst (some 10) (i := 2) (v := ?vA2) rfl rfl (by kernel_rfl) (by kernel_rfl) (by kernel_rfl) (fun _ _ _ h => h) (Or.inl ⟨by rfl, fun wS hSw => ?hyA2⟩) (by assumption) ?restA2
      case hyA2 => (obtain ⟨s0, s1, s2⟩ := hSw; go_simp; first | done | with_reducible rfl)
      try simp only [Act.put, List.setIfInBounds_toArray, List.set_cons_zero, List.set_cons_succ]
      refine take_dst (some 11) (i := 3) (v := ?vA3) rfl rfl (by kernel_rfl) (by kernel_rfl) (by kernel_rfl) (fun _ _ _ h => h) (Or.inl ⟨by rfl, fun wS hSw => ?hyA3⟩) (by assumption) ?restA3
      case hyA3 => (obtain ⟨s0, s1, s2⟩ := hSw; go_simp; first | done | with_reducible rfl)
      try simp only [Act.put, List.setIfInBounds_toArray, List.set_cons_zero, List.set_cons_succ]
      refine take_dst (some 12) (i := 4) (v := ?vA4) rfl rfl (by kernel_rfl) (by kernel_rfl) (by kernel_rfl) (fun _ _ _ h => h) (Or.inl ⟨by rfl, fun wS hSw => ?hyA4⟩) (by assumption) ?restA4
      case hyA4 => (obtain ⟨s0, s1, s2⟩ := hSw; go_simp; first | done | with_reducible rfl)
      try simp only [Act.put, List.setIfInBounds_toArray, List.set_cons_zero, List.set_cons_succ]
      refine take_dst (some 13) (i := 5) (v := ?vA5) rfl rfl (by kernel_rfl) (by kernel_rfl) (by kernel_rfl) (fun _ _ _ h => h) (Or.inl ⟨by rfl, fun wS hSw => ?hyA5⟩) (by assumption) ?restA5
      case hyA5 => (obtain ⟨s0, s1, s2⟩ := hSw; go_simp; first | done | with_reducible rfl)
      try simp only [Act.put, List.setIfInBounds_toArray, List.set_cons_zero, List.set_cons_succ]
      refine take_dst (some 14) (i := 6) (v := ?vA6) rfl rfl (by kernel_rfl) (by kernel_rfl) (by kernel_rfl) (fun _ _ _ h => h) (Or.inl ⟨by rfl, fun wS hSw => ?hyA6⟩) (by assumption) ?restA6
      case hyA6 => (obtain ⟨s0, s1, s2⟩ := hSw; go_simp; first | done | with_reducible rfl)
      try simp only [Act.put, List.setIfInBounds_toArray, List.set_cons_zero, List.set_cons_succ]
      refine take_dst (some 15) (i := 7) (v := ?vA7) rfl rfl (by kernel_rfl) (by kernel_rfl) (by kernel_rfl) (fun _ _ _ h => h) (Or.inl ⟨by rfl, fun wS hSw => ?hyA7⟩) (by assumption) ?restA7
      case hyA7 => (obtain ⟨s0, s1, s2⟩ := hSw; go_simp; first | done | with_reducible rfl)
      try simp only [Act.put, List.setIfInBounds_toArray, List.set_cons_zero, List.set_cons_succ]
      refine wpAnyH_ready (rs := [8]) (by kernel_rfl) (by simp) ?_
      refine AllReadyH.cons rfl (fun K hK => ?_) AllReadyH.nil
      go_simp
      refine (next_ok S tk _ w1.drew (HS1.out.ext hbS) Hlt.out Htk.out).mono ?_
      rintro e w8 ⟨rfl, hw8⟩
      have hgn : g ≠ S := fun e => Hne.out (by rw [e]; rfl)
      have HS8 : Hid (StCB w8 S (tk + 1) (.slice (some ⟨g, 0, none⟩) l.length cap)) := by
        show StCB _ _ _ _
        rw [hw8]; exact (HS1.out.ext hbS).set 0 _
      have HO8 : Hid (OwnLe w8 base (.slice (some ⟨g, 0, none⟩) l.length cap) l) := by
        show OwnLe _ _ _ _
        rw [hw8]; exact (HO1.out.ext hbS).far hgn _
      have HB8 : Hid (Below base w w8) := by
        show Below _ _ _
        rw [hw8]; exact Below.setCell (below_mono HB1.out hbw.out).drew HbS.out _
      have hwne : w.heap.size ≠ S := by have := HS.out.lt; omega
      have HC8 : Hid (CB w8 w.heap.size 33 [.int .i64 kd, .int .i64 sl, .int .i64 ai, .int .i64 fl, .int .i64 ct]) := by
        show CB _ _ _ _
        rw [hw8]; exact (HC1.out.ext hbS).far hwne _
      clear hw8 hgn hwne y0 y1 y2 y3 y4 d1 d2 d3
      obtain ⟨b, off, hbo, _, hat⟩ := HO8.out.rd.at (k := n) (List.getElem?_eq_some_iff.1 Hx.out).1
      injection hbo with hbo
      injection hbo with hbo1 hbo2
      subst hbo1 hbo2
      obtain ⟨y0, y1, y2, y3, y4⟩ := five_of (hat n x Hx.out)
      rw [Nat.zero_add] at y0 y1 y2 y3 y4
      change w8.cell? ⟨g, n * 5, none⟩ = _ at y0
      change w8.cell? ⟨g, n * 5 + 1, none⟩ = _ at y1
      change w8.cell? ⟨g, n * 5 + 2, none⟩ = _ at y2
      change w8.cell? ⟨g, n * 5 + 3, none⟩ = _ at y3
      change w8.cell? ⟨g, n * 5 + 4, none⟩ = _ at y4
      have hz : ∀ o, w8.frozen? ⟨g, o, none⟩ = false := fun o => HO8.out.free o
      clear hat
      refine hK.out _ _ ⟨HC8.out.cell 1, HC8.out.cell 2, HC8.out.cell 3⟩ (fun hHeld2 => ?_)
      clear hK K
      try simp only [Act.put, List.setIfInBounds_toArray, List.set_cons_zero, List.set_cons_succ]
      refine take_dst (some 17) (i := 9) (v := ?vB9) rfl rfl (by kernel_rfl) (by kernel_rfl) (by kernel_rfl) (fun _ _ _ h => h) (Or.inl ⟨by rfl, fun wS hSw => ?hyB9⟩) (by assumption) ?restB9
      case hyB9 => (obtain ⟨s0, s1, s2⟩ := hSw; go_simp; first | done | with_reducible rfl)
      try simp only [Act.put, List.setIfInBounds_toArray, List.set_cons_zero, List.set_cons_succ]
      refine take_dst (some 18) (i := 10) (v := ?vB10) rfl rfl (by kernel_rfl) (by kernel_rfl) (by kernel_rfl) (fun _ _ _ h => h) (Or.inl ⟨by rfl, fun wS hSw => ?hyB10⟩) (by assumption) ?restB10
      case hyB10 => (obtain ⟨s0, s1, s2⟩ := hSw; go_simp; first | done | with_reducible rfl)
      try simp only [Act.put, List.setIfInBounds_toArray, List.set_cons_zero, List.set_cons_succ]
      refine wpAnyH_ready (rs := [11]) (by kernel_rfl) (by simp) ?_
      refine AllReadyH.cons rfl (fun K hK => ?_) AllReadyH.nil
      go_simp
      obtain ⟨xs, xa, xf, xt, us⟩ := x
      have hgw : w.heap.size ≠ g := by have := (HO.out.lt g rfl).2; omega
      have hSg : S ≠ g := fun e => Hne.out (by rw [← e]; rfl)
      obtain ⟨w9, hw9⟩ : ∃ w9, set5 w8 g (n * 5) ⟨sl, ai, fl, tk + 1, false⟩ = w9 := ⟨_, rfl⟩
      have hfar : ∀ k, k ≠ g → w9.heap[k]? = w8.heap[k]? := fun k hk => by rw [← hw9]; exact set5_far _ hk
      have HC9 := HC8.out.keep (hfar _ hgw)
      have HS9 := HS8.out.keep (hfar _ hSg)
      have HO9 : OwnLe w9 base (.slice (some ⟨g, 0, none⟩) l.length cap) (l.set n ⟨sl, ai, fl, tk + 1, false⟩) := by rw [← hw9]; exact set5_own _ HO8.out Hx.out
      have HB9 : Below base w w9 := by rw [← hw9]; exact set5_below _ HB8.out hbg.out
      change K _ (set5 w8 g (n * 5) ⟨sl, ai, fl, tk + 1, false⟩)
      rw [hw9]
      refine hK.out _ _ ⟨HC9.cell 1, HC9.cell 2, HC9.cell 3⟩ (fun hHeld3 => ?_)
      clear hK K
      refine wpAnyH_done (by kernel_rfl) ?_ _
      go_end0
      refine ⟨HB9, ?_⟩
      rw [hRe.out]
      exact ⟨rfl, _, HS9, HO9, Hne.out⟩
    · have hRe : Hid (R = .inl 2) := by show _ = _; rw [hR0.out, if_neg hlt]
      have Hlt := Lib.hid hlt
      clear hlt
      refine wp_region_held_drew (S := fun w' => w'.cell? ⟨w.heap.size, 1, none⟩ = some (.int .i64 sl) ∧ w'.cell? ⟨w.heap.size, 2, none⟩ = some (.int .i64 ai) ∧ w'.cell? ⟨w.heap.size, 3, none⟩ = some (.int .i64 fl)) (by kernel_rfl) ⟨d1, d2, d3⟩ (fun hHeld => ?_)
      refine take_dst (some 8) (i := 0) (v := ?vC0) rfl rfl (by kernel_rfl) (by kernel_rfl) (by kernel_rfl) (fun _ _ _ h => h) (Or.inl ⟨by rfl, fun wS hSw => ?hyC0⟩) (by assumption) ?restC0
      case hyC0 => (obtain ⟨s0, s1, s2⟩ := hSw; go_simp; first | done | with_reducible rfl)
      try simp only [Act.put, List.setIfInBounds_toArray, List.set_cons_zero, List.set_cons_succ]
      refine take_dst (some 9) (i := 1) (v := ?vC1) rfl rfl (by kernel_rfl) (by kernel_rfl) (by kernel_rfl) (fun _ _ _ h => h) (Or.inl ⟨by rfl, fun wS hSw => ?hyC1⟩) (by assumption) ?restC1
      case hyC1 => (obtain ⟨s0, s1, s2⟩ := hSw; go_simp; first | done | with_reducible rfl)
      try simp only [Act.put, List.setIfInBounds_toArray, List.set_cons_zero, List.set_cons_succ]
      refine take_dst (some 10) (i := 2) (v := ?vC2) rfl rfl (by kernel_rfl) (by kernel_rfl) (by kernel_rfl) (fun _ _ _ h => h) (Or.inl ⟨by rfl, fun wS hSw => ?hyC2⟩) (by assumption) ?restC2
      case hyC2 => (obtain ⟨s0, s1, s2⟩ := hSw; go_simp; first | done | with_reducible rfl)
      try simp only [Act.put, List.setIfInBounds_toArray, List.set_cons_zero, List.set_cons_succ]
      refine take_dst (some 11) (i := 3) (v := ?vC3) rfl rfl (by kernel_rfl) (by kernel_rfl) (by kernel_rfl) (fun _ _ _ h => h) (Or.inl ⟨by rfl, fun wS hSw => ?hyC3⟩) (by assumption) ?restC3
      case hyC3 => (obtain ⟨s0, s1, s2⟩ := hSw; go_simp; first | done | with_reducible rfl)
      try simp only [Act.put, List.setIfInBounds_toArray, List.set_cons_zero, List.set_cons_succ]
      refine take_dst (some 12) (i := 4) (v := ?vC4) rfl rfl (by kernel_rfl) (by kernel_rfl) (by kernel_rfl) (fun _ _ _ h => h) (Or.inl ⟨by rfl, fun wS hSw => ?hyC4⟩) (by assumption) ?restC4
      case hyC4 => (obtain ⟨s0, s1, s2⟩ := hSw; go_simp; first | done | with_reducible rfl)
      try simp only [Act.put, List.setIfInBounds_toArray, List.set_cons_zero, List.set_cons_succ]
      refine take_dst (some 13) (i := 5) (v := ?vC5) rfl rfl (by kernel_rfl) (by kernel_rfl) (by kernel_rfl) (fun _ _ _ h => h) (Or.inl ⟨by rfl, fun wS hSw => ?hyC5⟩) (by assumption) ?restC5
      case hyC5 => (obtain ⟨s0, s1, s2⟩ := hSw; go_simp; first | done | with_reducible rfl)
      try simp only [Act.put, List.setIfInBounds_toArray, List.set_cons_zero, List.set_cons_succ]
      refine take_dst (some 14) (i := 6) (v := ?vC6) rfl rfl (by kernel_rfl) (by kernel_rfl) (by kernel_rfl) (fun _ _ _ h => h) (Or.inl ⟨by rfl, fun wS hSw => ?hyC6⟩) (by assumption) ?restC6
      case hyC6 => (obtain ⟨s0, s1, s2⟩ := hSw; go_simp; first | done | with_reducible rfl)
      try simp only [Act.put, List.setIfInBounds_toArray, List.set_cons_zero, List.set_cons_succ]
      refine take_dst (some 15) (i := 7) (v := ?vC7) rfl rfl (by kernel_rfl) (by kernel_rfl) (by kernel_rfl) (fun _ _ _ h => h) (Or.inl ⟨by rfl, fun wS hSw => ?hyC7⟩) (by assumption) ?restC7
      case hyC7 => (obtain ⟨s0, s1, s2⟩ := hSw; go_simp; first | done | with_reducible rfl)
      try simp only [Act.put, List.setIfInBounds_toArray, List.set_cons_zero, List.set_cons_succ]
      refine wpAnyH_ready (rs := [8]) (by kernel_rfl) (by simp) ?_
      refine AllReadyH.cons rfl (fun K hK => ?_) AllReadyH.nil
      go_simp
      refine (next_bad S tk _ w1.drew (HS1.out.ext (Below.refl w1.heap.size w1).drew) Hlt.out).mono ?_
      rintro e w8 ⟨rfl, rfl⟩
      exact ⟨rfl, (below_mono HB1.out hbw.out).drew, by rw [hRe.out]⟩
end Go.Proofs.Ytlocilbcmcfmaaa
/- lease: grant. -/
namespace Go.Proofs.Ytlocilbcmcfmaaa
open Go.RowKit
theorem OwnK.far2 {α : Type} {K : EK α} {e : TypeId} {w : World} {base S i : Nat} {v : Value} {l : List α} (h : OwnK K e w base v l) (hne : v.ownBlock ≠ some S) (u : Value) : OwnK K e (w.setCell ⟨S, i, none⟩ u) base v l := by
  rcases h with ⟨h1, h2⟩
  refine ⟨h1, ?_⟩
  rcases h2 with h2 | ⟨g, cp, cur, rfl, hb1, hg, r⟩
  · exact .inl h2
  · exact .inr ⟨g, cp, cur, rfl, hb1, (Below.heap_setCell w _ u g (fun e => hne (by rw [← show g = S from e]; rfl))).trans hg, r⟩
theorem own_ne {w : World} {base S : Nat} {tk : Int} {u v : Value} {l : List Le} (h : OwnLe w base v l) (hS : StCB w S tk u) : v.ownBlock ≠ some S := by
  intro e
  rcases h.2 with ⟨rfl, _⟩ | ⟨g, cp, cur, rfl, _, hg, _⟩
  · cases e
  · injection e with e
    change g = S at e
    subst e
    unfold StCB CB at hS
    rw [hS] at hg
    injection hg with hg
    injection hg with _ hg
    exact absurd hg (by decide)
theorem own_below2 {w w1 w2 : World} {base : Nat} {v : Value} {l : List Le} (hb : Below base w w1) (hO : OwnLe w1 base v l) (hg : w1.grownBy w2 v.ownBlock) (hbw : base ≤ w1.heap.size := by omega) : Below base w w2 :=
  hb.trans ⟨hg.os, hg.tape, hg.output, hg.size, fun k hk => hg.block k (Nat.lt_of_lt_of_le hk hbw) (fun e => by have := (hO.lt k e.symm).1; omega)⟩
/-- what grant answers -/
def grantR (tk : Int) (l : List Le) (c : Cm) (n : Nat) : Int ⊕ (Int × List Le) :=
  if hitL l c.sl n then .inl 350 else if tk < 1048576 then .inr (tk + 1, insG l n ⟨c.sl, c.ai, c.fl, tk + 1, false⟩) else .inl 2
set_option maxRecDepth 100000 in
set_option maxHeartbeats 4000000 in
theorem grant_any (S base : Nat) (tk : Int) (l : List Le) (v : Value) (c : Cm) (n : Nat) (w : World) (hS : StCB w S tk v) (hO : OwnLe w base v l) (hne : v.ownBlock ≠ some S) (hbS : base ≤ S) (htk : 0 ≤ tk) (hlen : l.length ≤ 2000) (hlow : LowL l c.sl n) :
    Calls Try.prog 24 #[.pointer (some ⟨S, 0, none⟩), c.v] w (OpPost S base (grantR tk l c n) w) := by
  have HS := Lib.hid hS; have HO := Lib.hid hO; have Hne := Lib.hid hne; have HbS := Lib.hid hbS; have Hlow := Lib.hid hlow; have Hlen := Lib.hid hlen
  have hbw := Lib.hid (Nat.le_of_lt (Nat.lt_of_le_of_lt hbS hS.lt))
  have Htk := Lib.hid htk
  clear hS hO hne hbS hlow hlen htk
  obtain ⟨kd, sl, ai, fl, ct⟩ := c
  have hb0 := Lib.hid ((Below.refl w.heap.size w).alloc (Nat.le_refl _) (.cells #[.int .i64 kd, .int .i64 sl, .int .i64 ai, .int .i64 fl, .int .i64 ct] 33))
  have hcb0 : Hid (CB (w.alloc (.cells #[.int .i64 kd, .int .i64 sl, .int .i64 ai, .int .i64 fl, .int .i64 ct] 33)) w.heap.size 33 [.int .i64 kd, .int .i64 sl, .int .i64 ai, .int .i64 fl, .int .i64 ct]) := CB.new w _ _
  have hS0 := Lib.hid (HS.out.alloc (.cells #[.int .i64 kd, .int .i64 sl, .int .i64 ai, .int .i64 fl, .int .i64 ct] 33))
  have hO0 := Lib.hid (HO.out.ext hb0.out)
  change Calls Try.prog 24 #[.pointer (some ⟨S, 0, none⟩), .agg #[.int .i64 kd, .int .i64 sl, .int .i64 ai, .int .i64 fl, .int .i64 ct]] w _
  obtain ⟨R, hR⟩ : ∃ R, grantR tk l ⟨kd, sl, ai, fl, ct⟩ n = R := ⟨_, rfl⟩
  rw [hR]
  have HR := Lib.hid hR; clear hR
  obtain ⟨H, hH⟩ : ∃ H, hitL l sl n = H := ⟨_, rfl⟩
  have hR0 : Hid (R = if H then .inl 350 else if tk < 1048576 then .inr (tk + 1, insG l n ⟨sl, ai, fl, tk + 1, false⟩) else .inl 2) := by show _ = _; rw [← HR.out]; unfold grantR; rw [hH]
  have HH := Lib.hid hH; clear hH
  go_enter Try.func24, Try.ntmps24
  go_upto_region 1 with fail
  generalize w.alloc (.cells #[.int .i64 kd, .int .i64 sl, .int .i64 ai, .int .i64 fl, .int .i64 ct] 33) = w0 at *
  have c0 : w0.cell? ⟨S, 1, none⟩ = some v := hS0.out.cell 1
  have c1 : w0.cell? ⟨w.heap.size, 1, none⟩ = some (.int .i64 sl) := hcb0.out.cell 1
  have hbS := (Below.refl w0.heap.size w0).drew
  go_region_held3 (fun w' => w'.cell? ⟨S, 1, none⟩ = some v ∧ w'.cell? ⟨w.heap.size, 1, none⟩ = some (.int .i64 sl))
    (first | exact ⟨cell_ext hbS (hS0.out.cell 1), cell_ext hbS (hcb0.out.cell 1)⟩ | go_keep)
    ((go_at_call 34; refine (find_any l _ sl n _ (hO0.out.rd.ext hbS) Hlen.out Hlow.out).mono ?_; rw [HH.out]; rintro e w7 ⟨rfl, hb7⟩; have hbS : Below w0.heap.size w0 w7 := by (first | exact below_ext hbS hb7 | exact below_undrew' hb7)))
  have HB1 := Lib.hid (below_ext hb0.out hbS)
  have HS1 := Lib.hid (hS0.out.ext hbS)
  have HC1 := Lib.hid (hcb0.out.ext hbS)
  have HO1 := Lib.hid (hO0.out.ext hbS)
  clear hbS hb7 c0 c1
  cases H
  case true =>
    have hRe : Hid (R = .inl 350) := hR0.out
    go_wp2_with (go_at_call 27; refine (demand_false _ _).mono ?_; rintro e w' ⟨rfl, rfl⟩)
    exact ⟨rfl, below_mono HB1.out hbw.out, by rw [hRe.out]⟩
  case false =>
    have d1 : w7.cell? ⟨w.heap.size, 1, none⟩ = some (.int .i64 sl) := HC1.out.cell 1
    have d2 : w7.cell? ⟨w.heap.size, 2, none⟩ = some (.int .i64 ai) := HC1.out.cell 2
    have d3 : w7.cell? ⟨w.heap.size, 3, none⟩ = some (.int .i64 fl) := HC1.out.cell 3
    have d4 : w7.cell? ⟨S, 1, none⟩ = some v := HS1.out.cell 1
    go_upto_region 3 with (go_at_call 27; refine (demand_true _ _).mono ?_; rintro e w' ⟨rfl, rfl⟩)
    by_cases hlt : tk < 1048576
    · have hRe : Hid (R = .inr (tk + 1, insG l n ⟨sl, ai, fl, tk + 1, false⟩)) := by show _ = _; rw [hR0.out]; simp [hlt]
      have Hlt := Lib.hid hlt
      clear hlt
      have hbS := (Below.refl w7.heap.size w7).drew
      have hwne : w.heap.size ≠ S := by have := HS.out.lt; omega
      refine wp_region_held_drew (S := fun w' => w'.cell? ⟨w.heap.size, 1, none⟩ = some (.int .i64 sl) ∧ w'.cell? ⟨w.heap.size, 2, none⟩ = some (.int .i64 ai) ∧ w'.cell? ⟨w.heap.size, 3, none⟩ = some (.int .i64 fl)) (by kernel_rfl) ⟨d1, d2, d3⟩ (fun hHeld => ?_)
      refine take_dst (some 20) (i := 0) (v := ?vT60) rfl rfl (by kernel_rfl) (by kernel_rfl) (by kernel_rfl) (fun _ _ _ h => h) (Or.inl ⟨by rfl, fun wS hSw => ?hyT60⟩) (by assumption) ?restT60
      case hyT60 => (obtain ⟨s0, s1, s2⟩ := hSw; go_simp; first | done | with_reducible rfl)
      try simp only [Act.put, List.setIfInBounds_toArray, List.set_cons_zero, List.set_cons_succ]
      refine take_dst (some 21) (i := 1) (v := ?vT61) rfl rfl (by kernel_rfl) (by kernel_rfl) (by kernel_rfl) (fun _ _ _ h => h) (Or.inl ⟨by rfl, fun wS hSw => ?hyT61⟩) (by assumption) ?restT61
      case hyT61 => (obtain ⟨s0, s1, s2⟩ := hSw; go_simp; first | done | with_reducible rfl)
      try simp only [Act.put, List.setIfInBounds_toArray, List.set_cons_zero, List.set_cons_succ]
      refine take_dst (some 22) (i := 2) (v := ?vT62) rfl rfl (by kernel_rfl) (by kernel_rfl) (by kernel_rfl) (fun _ _ _ h => h) (Or.inl ⟨by rfl, fun wS hSw => ?hyT62⟩) (by assumption) ?restT62
      case hyT62 => (obtain ⟨s0, s1, s2⟩ := hSw; go_simp; first | done | with_reducible rfl)
      try simp only [Act.put, List.setIfInBounds_toArray, List.set_cons_zero, List.set_cons_succ]
      refine take_dst (some 23) (i := 3) (v := ?vT63) rfl rfl (by kernel_rfl) (by kernel_rfl) (by kernel_rfl) (fun _ _ _ h => h) (Or.inl ⟨by rfl, fun wS hSw => ?hyT63⟩) (by assumption) ?restT63
      case hyT63 => (obtain ⟨s0, s1, s2⟩ := hSw; go_simp; first | done | with_reducible rfl)
      try simp only [Act.put, List.setIfInBounds_toArray, List.set_cons_zero, List.set_cons_succ]
      refine take_dst (some 24) (i := 4) (v := ?vT64) rfl rfl (by kernel_rfl) (by kernel_rfl) (by kernel_rfl) (fun _ _ _ h => h) (Or.inl ⟨by rfl, fun wS hSw => ?hyT64⟩) (by assumption) ?restT64
      case hyT64 => (obtain ⟨s0, s1, s2⟩ := hSw; go_simp; first | done | with_reducible rfl)
      try simp only [Act.put, List.setIfInBounds_toArray, List.set_cons_zero, List.set_cons_succ]
      refine take_dst (some 26) (i := 6) (v := ?vT66) rfl rfl (by kernel_rfl) (by kernel_rfl) (by kernel_rfl) (fun _ _ _ h => h) (Or.inl ⟨by rfl, fun wS hSw => ?hyT66⟩) (by assumption) ?restT66
      case hyT66 => (obtain ⟨s0, s1, s2⟩ := hSw; go_simp; first | done | with_reducible rfl)
      try simp only [Act.put, List.setIfInBounds_toArray, List.set_cons_zero, List.set_cons_succ]
      refine take_dst (some 27) (i := 7) (v := ?vT67) rfl rfl (by kernel_rfl) (by kernel_rfl) (by kernel_rfl) (fun _ _ _ h => h) (Or.inl ⟨by rfl, fun wS hSw => ?hyT67⟩) (by assumption) ?restT67
      case hyT67 => (obtain ⟨s0, s1, s2⟩ := hSw; go_simp; first | done | with_reducible rfl)
      try simp only [Act.put, List.setIfInBounds_toArray, List.set_cons_zero, List.set_cons_succ]
      refine take_dst (some 28) (i := 8) (v := ?vT68) rfl rfl (by kernel_rfl) (by kernel_rfl) (by kernel_rfl) (fun _ _ _ h => h) (Or.inl ⟨by rfl, fun wS hSw => ?hyT68⟩) (by assumption) ?restT68
      case hyT68 => (obtain ⟨s0, s1, s2⟩ := hSw; go_simp; first | done | with_reducible rfl)
      try simp only [Act.put, List.setIfInBounds_toArray, List.set_cons_zero, List.set_cons_succ]
      refine take_dst (some 29) (i := 9) (v := ?vT69) rfl rfl (by kernel_rfl) (by kernel_rfl) (by kernel_rfl) (fun _ _ _ h => h) (Or.inl ⟨by rfl, fun wS hSw => ?hyT69⟩) (by assumption) ?restT69
      case hyT69 => (obtain ⟨s0, s1, s2⟩ := hSw; go_simp; first | done | with_reducible rfl)
      try simp only [Act.put, List.setIfInBounds_toArray, List.set_cons_zero, List.set_cons_succ]
      refine take_dst (some 30) (i := 10) (v := ?vT610) rfl rfl (by kernel_rfl) (by kernel_rfl) (by kernel_rfl) (fun _ _ _ h => h) (Or.inl ⟨by rfl, fun wS hSw => ?hyT610⟩) (by assumption) ?restT610
      case hyT610 => (obtain ⟨s0, s1, s2⟩ := hSw; go_simp; first | done | with_reducible rfl)
      try simp only [Act.put, List.setIfInBounds_toArray, List.set_cons_zero, List.set_cons_succ]
      refine take_dst (some 31) (i := 11) (v := ?vT611) rfl rfl (by kernel_rfl) (by kernel_rfl) (by kernel_rfl) (fun _ _ _ h => h) (Or.inl ⟨by rfl, fun wS hSw => ?hyT611⟩) (by assumption) ?restT611
      case hyT611 => (obtain ⟨s0, s1, s2⟩ := hSw; go_simp; first | done | with_reducible rfl)
      try simp only [Act.put, List.setIfInBounds_toArray, List.set_cons_zero, List.set_cons_succ]
      refine take_dst (some 32) (i := 12) (v := ?vT612) rfl rfl (by kernel_rfl) (by kernel_rfl) (by kernel_rfl) (fun _ _ _ h => h) (Or.inl ⟨by rfl, fun wS hSw => ?hyT612⟩) (by assumption) ?restT612
      case hyT612 => (obtain ⟨s0, s1, s2⟩ := hSw; go_simp; first | done | with_reducible rfl)
      try simp only [Act.put, List.setIfInBounds_toArray, List.set_cons_zero, List.set_cons_succ]
      refine take_dst (some 33) (i := 13) (v := ?vT613) rfl rfl (by kernel_rfl) (by kernel_rfl) (by kernel_rfl) (fun _ _ _ h => h) (Or.inl ⟨by rfl, fun wS hSw => ?hyT613⟩) (by assumption) ?restT613
      case hyT613 => (obtain ⟨s0, s1, s2⟩ := hSw; go_simp; first | done | with_reducible rfl)
      try simp only [Act.put, List.setIfInBounds_toArray, List.set_cons_zero, List.set_cons_succ]
      refine wpAnyH_ready (rs := [5, 14]) (by kernel_rfl) (by simp) ?_
      refine AllReadyH.cons rfl (fun K hK => ?_) (AllReadyH.cons rfl (fun K hK => ?_) AllReadyH.nil)
      · go_simp
        refine hK.out _ _ ⟨d1, d2, d3⟩ (fun hHeldL => ?_)
        clear hK K
        try simp only [Act.put, List.setIfInBounds_toArray, List.set_cons_zero, List.set_cons_succ]
        refine wpAnyH_ready (rs := [14]) (by kernel_rfl) (by simp) ?_
        refine AllReadyH.cons rfl (fun K hK => ?_) AllReadyH.nil
        go_simp
        refine (next_ok S tk _ w7.drew (HS1.out.ext hbS) Hlt.out Htk.out).mono ?_
        rintro e w8 ⟨rfl, hw8⟩
        have HS8 : Hid (StCB w8 S (tk + 1) v) := by
          show StCB _ _ _ _
          rw [hw8]; exact (HS1.out.ext hbS).set 0 _
        have HO8 : Hid (OwnLe w8 base v l) := by
          show OwnLe _ _ _ _
          rw [hw8]; exact (HO1.out.ext hbS).far2 Hne.out _
        have HB8 : Hid (Below base w w8) := by
          show Below _ _ _
          rw [hw8]; exact Below.setCell (below_mono HB1.out hbw.out).drew HbS.out _
        have HC8 : Hid (CB w8 w.heap.size 33 [.int .i64 kd, .int .i64 sl, .int .i64 ai, .int .i64 fl, .int .i64 ct]) := by
          show CB _ _ _ _
          rw [hw8]; exact (HC1.out.ext hbS).far hwne _
        have e4 : w8.cell? ⟨S, 1, none⟩ = some v := HS8.out.cell 1
        clear hw8 hbS
        refine hK.out _ _ ⟨HC8.out.cell 1, HC8.out.cell 2, HC8.out.cell 3⟩ (fun hHeld2 => ?_)
        clear hK K
        try simp only [Act.put, List.setIfInBounds_toArray, List.set_cons_zero, List.set_cons_succ]
        refine take_dst (some 35) (i := 15) (v := ?vT115) rfl rfl (by kernel_rfl) (by kernel_rfl) (by kernel_rfl) (fun _ _ _ h => h) (Or.inl ⟨by rfl, fun wS hSw => ?hyT115⟩) (by assumption) ?restT115
        case hyT115 => (obtain ⟨s0, s1, s2⟩ := hSw; go_simp; first | done | with_reducible rfl)
        try simp only [Act.put, List.setIfInBounds_toArray, List.set_cons_zero, List.set_cons_succ]
        refine wpAnyH_ready (rs := [16]) (by kernel_rfl) (by simp) ?_
        refine AllReadyH.cons rfl (fun K hK => ?_) AllReadyH.nil
        go_simp
        have hcx : Hid (CB (w8.alloc (.cells #[.int .i64 sl, .int .i64 ai, .int .i64 fl, .int .i64 (tk + 1), .bool false] 36)) w8.heap.size 36 (Le.cells ⟨sl, ai, fl, tk + 1, false⟩)) := CB.new w8 _ _
        have hnx : Hid (v.ownBlock ≠ some w8.heap.size) := fun e => by have := (HO8.out.lt _ e).2; omega
        have HS9 := Lib.hid (HS8.out.alloc (.cells #[.int .i64 sl, .int .i64 ai, .int .i64 fl, .int .i64 (tk + 1), .bool false] 36))
        have HC9 := Lib.hid (HC8.out.alloc (.cells #[.int .i64 sl, .int .i64 ai, .int .i64 fl, .int .i64 (tk + 1), .bool false] 36))
        have HO9 := Lib.hid (HO8.out.alloc (.cells #[.int .i64 sl, .int .i64 ai, .int .i64 fl, .int .i64 (tk + 1), .bool false] 36))
        have hb8 : base ≤ w8.heap.size := Nat.le_trans hbw.out HB8.out.size
        have HB9 := Lib.hid (HB8.out.alloc hb8 (.cells #[.int .i64 sl, .int .i64 ai, .int .i64 fl, .int .i64 (tk + 1), .bool false] 36))
        have e5 : (w8.alloc (.cells #[.int .i64 sl, .int .i64 ai, .int .i64 fl, .int .i64 (tk + 1), .bool false] 36)).cell? ⟨S, 1, none⟩ = some v := HS9.out.cell 1
        refine hK.out _ _ ⟨HC9.out.cell 1, HC9.out.cell 2, HC9.out.cell 3⟩ (fun hHeld3 => ?_)
        clear hK K
        try simp only [Act.put, List.setIfInBounds_toArray, List.set_cons_zero, List.set_cons_succ]
        refine wpAnyH_ready (rs := [17]) (by kernel_rfl) (by simp) ?_
        refine AllReadyH.cons rfl (fun K hK => ?_) AllReadyH.nil
        go_simp
        refine (linsert_any l v base ⟨sl, ai, fl, tk + 1, false⟩ n w8.heap.size _ HO9.out (Nat.le_trans hbw.out HB9.out.size) Hlow.out.1 Hlen.out hcx.out hnx.out).mono ?_
        rintro e w10 ⟨v', rfl, hO10, hg10⟩
        have HS10 : Hid (StCB w10 S (tk + 1) v) := HS9.out.keep (hg10.block S HS9.out.lt (fun e => Hne.out e.symm))
        have hcne : some w.heap.size ≠ v.ownBlock := fun e => by have := (HO.out.lt _ e.symm).2; omega
        have HC10 := Lib.hid (HC9.out.keep (hg10.block w.heap.size HC9.out.lt hcne))
        have HB10 : Hid (Below base w w10) := own_below2 HB9.out HO9.out hg10 (Nat.le_trans hbw.out HB9.out.size)
        have HO10 := Lib.hid hO10
        clear hO10 hg10
        refine hK.out _ _ ⟨HC10.out.cell 1, HC10.out.cell 2, HC10.out.cell 3⟩ (fun hHeld4 => ?_)
        clear hK K
        try simp only [Act.put, List.setIfInBounds_toArray, List.set_cons_zero, List.set_cons_succ]
        refine take_dst (some 38) (i := 18) (v := ?vT218) rfl rfl (by kernel_rfl) (by kernel_rfl) (by kernel_rfl) (fun _ _ _ h => h) (Or.inl ⟨by rfl, fun wS hSw => ?hyT218⟩) (by assumption) ?restT218
        case hyT218 => (obtain ⟨s0, s1, s2⟩ := hSw; go_simp; first | done | with_reducible rfl)
        try simp only [Act.put, List.setIfInBounds_toArray, List.set_cons_zero, List.set_cons_succ]
        refine take_dst (some 39) (i := 19) (v := ?vT219) rfl rfl (by kernel_rfl) (by kernel_rfl) (by kernel_rfl) (fun _ _ _ h => h) (Or.inl ⟨by rfl, fun wS hSw => ?hyT219⟩) (by assumption) ?restT219
        case hyT219 => (obtain ⟨s0, s1, s2⟩ := hSw; go_simp; first | done | with_reducible rfl)
        try simp only [Act.put, List.setIfInBounds_toArray, List.set_cons_zero, List.set_cons_succ]
        refine take_dst (some 40) (i := 20) (v := ?vT220) rfl rfl (by kernel_rfl) (by kernel_rfl) (by kernel_rfl) (fun _ _ _ h => h) (Or.inl ⟨by rfl, fun wS hSw => ?hyT220⟩) (by assumption) ?restT220
        case hyT220 => (obtain ⟨s0, s1, s2⟩ := hSw; go_simp; first | done | with_reducible rfl)
        try simp only [Act.put, List.setIfInBounds_toArray, List.set_cons_zero, List.set_cons_succ]
        have q1 : w10.cell? ⟨S, 1, none⟩ = some v := HS10.out.cell 1
        have q2 : w10.frozen? ⟨S, 1, none⟩ = false := HS10.out.frozen _
        have hn10 := own_ne HO10.out HS10.out
        obtain ⟨oa', cap', hv', _⟩ := HO10.out.rd.shape
        subst hv'
        refine wpAnyH_ready (rs := [21]) (by kernel_rfl) (by simp) ?_
        refine AllReadyH.cons rfl (fun K hK => ?_) AllReadyH.nil
        go_simp
        have HC11 := HC10.out.far (p := ⟨S, 1, none⟩) hwne (.slice oa' (insG l n ⟨sl, ai, fl, tk + 1, false⟩).length cap')
        refine hK.out _ _ ⟨HC11.cell 1, HC11.cell 2, HC11.cell 3⟩ (fun hHeld5 => ?_)
        clear hK K
        refine wpAnyH_done (by kernel_rfl) ?_ _
        go_end0
        refine ⟨HB10.out.setCell HbS.out _, ?_⟩
        rw [hRe.out]
        exact ⟨rfl, _, HS10.out.set 1 _, HO10.out.far2 hn10 _, hn10⟩
      · go_simp
        refine (next_ok S tk _ w7.drew (HS1.out.ext hbS) Hlt.out Htk.out).mono ?_
        rintro e w8 ⟨rfl, hw8⟩
        have HS8 : Hid (StCB w8 S (tk + 1) v) := by
          show StCB _ _ _ _
          rw [hw8]; exact (HS1.out.ext hbS).set 0 _
        have HO8 : Hid (OwnLe w8 base v l) := by
          show OwnLe _ _ _ _
          rw [hw8]; exact (HO1.out.ext hbS).far2 Hne.out _
        have HB8 : Hid (Below base w w8) := by
          show Below _ _ _
          rw [hw8]; exact Below.setCell (below_mono HB1.out hbw.out).drew HbS.out _
        have HC8 : Hid (CB w8 w.heap.size 33 [.int .i64 kd, .int .i64 sl, .int .i64 ai, .int .i64 fl, .int .i64 ct]) := by
          show CB _ _ _ _
          rw [hw8]; exact (HC1.out.ext hbS).far hwne _
        have e4 : w8.cell? ⟨S, 1, none⟩ = some v := HS8.out.cell 1
        clear hw8 hbS
        refine hK.out _ _ ⟨HC8.out.cell 1, HC8.out.cell 2, HC8.out.cell 3⟩ (fun hHeld2 => ?_)
        clear hK K
        try simp only [Act.put, List.setIfInBounds_toArray, List.set_cons_zero, List.set_cons_succ]
        refine take_dst (some 35) (i := 15) (v := ?vT315) rfl rfl (by kernel_rfl) (by kernel_rfl) (by kernel_rfl) (fun _ _ _ h => h) (Or.inl ⟨by rfl, fun wS hSw => ?hyT315⟩) (by assumption) ?restT315
        case hyT315 => (obtain ⟨s0, s1, s2⟩ := hSw; go_simp; first | done | with_reducible rfl)
        try simp only [Act.put, List.setIfInBounds_toArray, List.set_cons_zero, List.set_cons_succ]
        refine wpAnyH_ready (rs := [5, 16]) (by kernel_rfl) (by simp) ?_
        refine AllReadyH.cons rfl (fun K hK => ?_) (AllReadyH.cons rfl (fun K hK => ?_) AllReadyH.nil)
        · go_simp
          refine hK.out _ _ ⟨HC8.out.cell 1, HC8.out.cell 2, HC8.out.cell 3⟩ (fun hHeldL => ?_)
          clear hK K
          try simp only [Act.put, List.setIfInBounds_toArray, List.set_cons_zero, List.set_cons_succ]
          refine wpAnyH_ready (rs := [16]) (by kernel_rfl) (by simp) ?_
          refine AllReadyH.cons rfl (fun K hK => ?_) AllReadyH.nil
          go_simp
          have hcx : Hid (CB (w8.alloc (.cells #[.int .i64 sl, .int .i64 ai, .int .i64 fl, .int .i64 (tk + 1), .bool false] 36)) w8.heap.size 36 (Le.cells ⟨sl, ai, fl, tk + 1, false⟩)) := CB.new w8 _ _
          have hnx : Hid (v.ownBlock ≠ some w8.heap.size) := fun e => by have := (HO8.out.lt _ e).2; omega
          have HS9 := Lib.hid (HS8.out.alloc (.cells #[.int .i64 sl, .int .i64 ai, .int .i64 fl, .int .i64 (tk + 1), .bool false] 36))
          have HC9 := Lib.hid (HC8.out.alloc (.cells #[.int .i64 sl, .int .i64 ai, .int .i64 fl, .int .i64 (tk + 1), .bool false] 36))
          have HO9 := Lib.hid (HO8.out.alloc (.cells #[.int .i64 sl, .int .i64 ai, .int .i64 fl, .int .i64 (tk + 1), .bool false] 36))
          have hb8 : base ≤ w8.heap.size := Nat.le_trans hbw.out HB8.out.size
          have HB9 := Lib.hid (HB8.out.alloc hb8 (.cells #[.int .i64 sl, .int .i64 ai, .int .i64 fl, .int .i64 (tk + 1), .bool false] 36))
          have e5 : (w8.alloc (.cells #[.int .i64 sl, .int .i64 ai, .int .i64 fl, .int .i64 (tk + 1), .bool false] 36)).cell? ⟨S, 1, none⟩ = some v := HS9.out.cell 1
          refine hK.out _ _ ⟨HC9.out.cell 1, HC9.out.cell 2, HC9.out.cell 3⟩ (fun hHeld3 => ?_)
          clear hK K
          try simp only [Act.put, List.setIfInBounds_toArray, List.set_cons_zero, List.set_cons_succ]
          refine wpAnyH_ready (rs := [17]) (by kernel_rfl) (by simp) ?_
          refine AllReadyH.cons rfl (fun K hK => ?_) AllReadyH.nil
          go_simp
          refine (linsert_any l v base ⟨sl, ai, fl, tk + 1, false⟩ n w8.heap.size _ HO9.out (Nat.le_trans hbw.out HB9.out.size) Hlow.out.1 Hlen.out hcx.out hnx.out).mono ?_
          rintro e w10 ⟨v', rfl, hO10, hg10⟩
          have HS10 : Hid (StCB w10 S (tk + 1) v) := HS9.out.keep (hg10.block S HS9.out.lt (fun e => Hne.out e.symm))
          have hcne : some w.heap.size ≠ v.ownBlock := fun e => by have := (HO.out.lt _ e.symm).2; omega
          have HC10 := Lib.hid (HC9.out.keep (hg10.block w.heap.size HC9.out.lt hcne))
          have HB10 : Hid (Below base w w10) := own_below2 HB9.out HO9.out hg10 (Nat.le_trans hbw.out HB9.out.size)
          have HO10 := Lib.hid hO10
          clear hO10 hg10
          refine hK.out _ _ ⟨HC10.out.cell 1, HC10.out.cell 2, HC10.out.cell 3⟩ (fun hHeld4 => ?_)
          clear hK K
          try simp only [Act.put, List.setIfInBounds_toArray, List.set_cons_zero, List.set_cons_succ]
          refine take_dst (some 38) (i := 18) (v := ?vT418) rfl rfl (by kernel_rfl) (by kernel_rfl) (by kernel_rfl) (fun _ _ _ h => h) (Or.inl ⟨by rfl, fun wS hSw => ?hyT418⟩) (by assumption) ?restT418
          case hyT418 => (obtain ⟨s0, s1, s2⟩ := hSw; go_simp; first | done | with_reducible rfl)
          try simp only [Act.put, List.setIfInBounds_toArray, List.set_cons_zero, List.set_cons_succ]
          refine take_dst (some 39) (i := 19) (v := ?vT419) rfl rfl (by kernel_rfl) (by kernel_rfl) (by kernel_rfl) (fun _ _ _ h => h) (Or.inl ⟨by rfl, fun wS hSw => ?hyT419⟩) (by assumption) ?restT419
          case hyT419 => (obtain ⟨s0, s1, s2⟩ := hSw; go_simp; first | done | with_reducible rfl)
          try simp only [Act.put, List.setIfInBounds_toArray, List.set_cons_zero, List.set_cons_succ]
          refine take_dst (some 40) (i := 20) (v := ?vT420) rfl rfl (by kernel_rfl) (by kernel_rfl) (by kernel_rfl) (fun _ _ _ h => h) (Or.inl ⟨by rfl, fun wS hSw => ?hyT420⟩) (by assumption) ?restT420
          case hyT420 => (obtain ⟨s0, s1, s2⟩ := hSw; go_simp; first | done | with_reducible rfl)
          try simp only [Act.put, List.setIfInBounds_toArray, List.set_cons_zero, List.set_cons_succ]
          have q1 : w10.cell? ⟨S, 1, none⟩ = some v := HS10.out.cell 1
          have q2 : w10.frozen? ⟨S, 1, none⟩ = false := HS10.out.frozen _
          have hn10 := own_ne HO10.out HS10.out
          obtain ⟨oa', cap', hv', _⟩ := HO10.out.rd.shape
          subst hv'
          refine wpAnyH_ready (rs := [21]) (by kernel_rfl) (by simp) ?_
          refine AllReadyH.cons rfl (fun K hK => ?_) AllReadyH.nil
          go_simp
          have HC11 := HC10.out.far (p := ⟨S, 1, none⟩) hwne (.slice oa' (insG l n ⟨sl, ai, fl, tk + 1, false⟩).length cap')
          refine hK.out _ _ ⟨HC11.cell 1, HC11.cell 2, HC11.cell 3⟩ (fun hHeld5 => ?_)
          clear hK K
          refine wpAnyH_done (by kernel_rfl) ?_ _
          go_end0
          refine ⟨HB10.out.setCell HbS.out _, ?_⟩
          rw [hRe.out]
          exact ⟨rfl, _, HS10.out.set 1 _, HO10.out.far2 hn10 _, hn10⟩
        · go_simp
          have hcx : Hid (CB (w8.alloc (.cells #[.int .i64 sl, .int .i64 ai, .int .i64 fl, .int .i64 (tk + 1), .bool false] 36)) w8.heap.size 36 (Le.cells ⟨sl, ai, fl, tk + 1, false⟩)) := CB.new w8 _ _
          have hnx : Hid (v.ownBlock ≠ some w8.heap.size) := fun e => by have := (HO8.out.lt _ e).2; omega
          have HS9 := Lib.hid (HS8.out.alloc (.cells #[.int .i64 sl, .int .i64 ai, .int .i64 fl, .int .i64 (tk + 1), .bool false] 36))
          have HC9 := Lib.hid (HC8.out.alloc (.cells #[.int .i64 sl, .int .i64 ai, .int .i64 fl, .int .i64 (tk + 1), .bool false] 36))
          have HO9 := Lib.hid (HO8.out.alloc (.cells #[.int .i64 sl, .int .i64 ai, .int .i64 fl, .int .i64 (tk + 1), .bool false] 36))
          have hb8 : base ≤ w8.heap.size := Nat.le_trans hbw.out HB8.out.size
          have HB9 := Lib.hid (HB8.out.alloc hb8 (.cells #[.int .i64 sl, .int .i64 ai, .int .i64 fl, .int .i64 (tk + 1), .bool false] 36))
          have e5 : (w8.alloc (.cells #[.int .i64 sl, .int .i64 ai, .int .i64 fl, .int .i64 (tk + 1), .bool false] 36)).cell? ⟨S, 1, none⟩ = some v := HS9.out.cell 1
          refine hK.out _ _ ⟨HC9.out.cell 1, HC9.out.cell 2, HC9.out.cell 3⟩ (fun hHeld3 => ?_)
          clear hK K
          try simp only [Act.put, List.setIfInBounds_toArray, List.set_cons_zero, List.set_cons_succ]
          refine wpAnyH_ready (rs := [5]) (by kernel_rfl) (by simp) ?_
          refine AllReadyH.cons rfl (fun K hK => ?_) AllReadyH.nil
          go_simp
          refine hK.out _ _ ⟨HC9.out.cell 1, HC9.out.cell 2, HC9.out.cell 3⟩ (fun hHeldL => ?_)
          clear hK K
          try simp only [Act.put, List.setIfInBounds_toArray, List.set_cons_zero, List.set_cons_succ]
          refine wpAnyH_ready (rs := [17]) (by kernel_rfl) (by simp) ?_
          refine AllReadyH.cons rfl (fun K hK => ?_) AllReadyH.nil
          go_simp
          refine (linsert_any l v base ⟨sl, ai, fl, tk + 1, false⟩ n w8.heap.size _ HO9.out (Nat.le_trans hbw.out HB9.out.size) Hlow.out.1 Hlen.out hcx.out hnx.out).mono ?_
          rintro e w10 ⟨v', rfl, hO10, hg10⟩
          have HS10 : Hid (StCB w10 S (tk + 1) v) := HS9.out.keep (hg10.block S HS9.out.lt (fun e => Hne.out e.symm))
          have hcne : some w.heap.size ≠ v.ownBlock := fun e => by have := (HO.out.lt _ e.symm).2; omega
          have HC10 := Lib.hid (HC9.out.keep (hg10.block w.heap.size HC9.out.lt hcne))
          have HB10 : Hid (Below base w w10) := own_below2 HB9.out HO9.out hg10 (Nat.le_trans hbw.out HB9.out.size)
          have HO10 := Lib.hid hO10
          clear hO10 hg10
          refine hK.out _ _ ⟨HC10.out.cell 1, HC10.out.cell 2, HC10.out.cell 3⟩ (fun hHeld4 => ?_)
          clear hK K
          try simp only [Act.put, List.setIfInBounds_toArray, List.set_cons_zero, List.set_cons_succ]
          refine take_dst (some 38) (i := 18) (v := ?vT518) rfl rfl (by kernel_rfl) (by kernel_rfl) (by kernel_rfl) (fun _ _ _ h => h) (Or.inl ⟨by rfl, fun wS hSw => ?hyT518⟩) (by assumption) ?restT518
          case hyT518 => (obtain ⟨s0, s1, s2⟩ := hSw; go_simp; first | done | with_reducible rfl)
          try simp only [Act.put, List.setIfInBounds_toArray, List.set_cons_zero, List.set_cons_succ]
          refine take_dst (some 39) (i := 19) (v := ?vT519) rfl rfl (by kernel_rfl) (by kernel_rfl) (by kernel_rfl) (fun _ _ _ h => h) (Or.inl ⟨by rfl, fun wS hSw => ?hyT519⟩) (by assumption) ?restT519
          case hyT519 => (obtain ⟨s0, s1, s2⟩ := hSw; go_simp; first | done | with_reducible rfl)
          try simp only [Act.put, List.setIfInBounds_toArray, List.set_cons_zero, List.set_cons_succ]
          refine take_dst (some 40) (i := 20) (v := ?vT520) rfl rfl (by kernel_rfl) (by kernel_rfl) (by kernel_rfl) (fun _ _ _ h => h) (Or.inl ⟨by rfl, fun wS hSw => ?hyT520⟩) (by assumption) ?restT520
          case hyT520 => (obtain ⟨s0, s1, s2⟩ := hSw; go_simp; first | done | with_reducible rfl)
          try simp only [Act.put, List.setIfInBounds_toArray, List.set_cons_zero, List.set_cons_succ]
          have q1 : w10.cell? ⟨S, 1, none⟩ = some v := HS10.out.cell 1
          have q2 : w10.frozen? ⟨S, 1, none⟩ = false := HS10.out.frozen _
          have hn10 := own_ne HO10.out HS10.out
          obtain ⟨oa', cap', hv', _⟩ := HO10.out.rd.shape
          subst hv'
          refine wpAnyH_ready (rs := [21]) (by kernel_rfl) (by simp) ?_
          refine AllReadyH.cons rfl (fun K hK => ?_) AllReadyH.nil
          go_simp
          have HC11 := HC10.out.far (p := ⟨S, 1, none⟩) hwne (.slice oa' (insG l n ⟨sl, ai, fl, tk + 1, false⟩).length cap')
          refine hK.out _ _ ⟨HC11.cell 1, HC11.cell 2, HC11.cell 3⟩ (fun hHeld5 => ?_)
          clear hK K
          refine wpAnyH_done (by kernel_rfl) ?_ _
          go_end0
          refine ⟨HB10.out.setCell HbS.out _, ?_⟩
          rw [hRe.out]
          exact ⟨rfl, _, HS10.out.set 1 _, HO10.out.far2 hn10 _, hn10⟩
    · have hRe : Hid (R = .inl 2) := by show _ = _; rw [hR0.out]; simp [hlt]
      have Hlt := Lib.hid hlt
      clear hlt
      refine wp_region_held_drew (S := fun w' => w'.cell? ⟨w.heap.size, 1, none⟩ = some (.int .i64 sl) ∧ w'.cell? ⟨w.heap.size, 2, none⟩ = some (.int .i64 ai) ∧ w'.cell? ⟨w.heap.size, 3, none⟩ = some (.int .i64 fl)) (by kernel_rfl) ⟨d1, d2, d3⟩ (fun hHeld => ?_)
      refine take_dst (some 20) (i := 0) (v := ?vT70) rfl rfl (by kernel_rfl) (by kernel_rfl) (by kernel_rfl) (fun _ _ _ h => h) (Or.inl ⟨by rfl, fun wS hSw => ?hyT70⟩) (by assumption) ?restT70
      case hyT70 => (obtain ⟨s0, s1, s2⟩ := hSw; go_simp; first | done | with_reducible rfl)
      try simp only [Act.put, List.setIfInBounds_toArray, List.set_cons_zero, List.set_cons_succ]
      refine take_dst (some 21) (i := 1) (v := ?vT71) rfl rfl (by kernel_rfl) (by kernel_rfl) (by kernel_rfl) (fun _ _ _ h => h) (Or.inl ⟨by rfl, fun wS hSw => ?hyT71⟩) (by assumption) ?restT71
      case hyT71 => (obtain ⟨s0, s1, s2⟩ := hSw; go_simp; first | done | with_reducible rfl)
      try simp only [Act.put, List.setIfInBounds_toArray, List.set_cons_zero, List.set_cons_succ]
      refine take_dst (some 22) (i := 2) (v := ?vT72) rfl rfl (by kernel_rfl) (by kernel_rfl) (by kernel_rfl) (fun _ _ _ h => h) (Or.inl ⟨by rfl, fun wS hSw => ?hyT72⟩) (by assumption) ?restT72
      case hyT72 => (obtain ⟨s0, s1, s2⟩ := hSw; go_simp; first | done | with_reducible rfl)
      try simp only [Act.put, List.setIfInBounds_toArray, List.set_cons_zero, List.set_cons_succ]
      refine take_dst (some 23) (i := 3) (v := ?vT73) rfl rfl (by kernel_rfl) (by kernel_rfl) (by kernel_rfl) (fun _ _ _ h => h) (Or.inl ⟨by rfl, fun wS hSw => ?hyT73⟩) (by assumption) ?restT73
      case hyT73 => (obtain ⟨s0, s1, s2⟩ := hSw; go_simp; first | done | with_reducible rfl)
      try simp only [Act.put, List.setIfInBounds_toArray, List.set_cons_zero, List.set_cons_succ]
      refine take_dst (some 24) (i := 4) (v := ?vT74) rfl rfl (by kernel_rfl) (by kernel_rfl) (by kernel_rfl) (fun _ _ _ h => h) (Or.inl ⟨by rfl, fun wS hSw => ?hyT74⟩) (by assumption) ?restT74
      case hyT74 => (obtain ⟨s0, s1, s2⟩ := hSw; go_simp; first | done | with_reducible rfl)
      try simp only [Act.put, List.setIfInBounds_toArray, List.set_cons_zero, List.set_cons_succ]
      refine take_dst (some 26) (i := 6) (v := ?vT76) rfl rfl (by kernel_rfl) (by kernel_rfl) (by kernel_rfl) (fun _ _ _ h => h) (Or.inl ⟨by rfl, fun wS hSw => ?hyT76⟩) (by assumption) ?restT76
      case hyT76 => (obtain ⟨s0, s1, s2⟩ := hSw; go_simp; first | done | with_reducible rfl)
      try simp only [Act.put, List.setIfInBounds_toArray, List.set_cons_zero, List.set_cons_succ]
      refine take_dst (some 27) (i := 7) (v := ?vT77) rfl rfl (by kernel_rfl) (by kernel_rfl) (by kernel_rfl) (fun _ _ _ h => h) (Or.inl ⟨by rfl, fun wS hSw => ?hyT77⟩) (by assumption) ?restT77
      case hyT77 => (obtain ⟨s0, s1, s2⟩ := hSw; go_simp; first | done | with_reducible rfl)
      try simp only [Act.put, List.setIfInBounds_toArray, List.set_cons_zero, List.set_cons_succ]
      refine take_dst (some 28) (i := 8) (v := ?vT78) rfl rfl (by kernel_rfl) (by kernel_rfl) (by kernel_rfl) (fun _ _ _ h => h) (Or.inl ⟨by rfl, fun wS hSw => ?hyT78⟩) (by assumption) ?restT78
      case hyT78 => (obtain ⟨s0, s1, s2⟩ := hSw; go_simp; first | done | with_reducible rfl)
      try simp only [Act.put, List.setIfInBounds_toArray, List.set_cons_zero, List.set_cons_succ]
      refine take_dst (some 29) (i := 9) (v := ?vT79) rfl rfl (by kernel_rfl) (by kernel_rfl) (by kernel_rfl) (fun _ _ _ h => h) (Or.inl ⟨by rfl, fun wS hSw => ?hyT79⟩) (by assumption) ?restT79
      case hyT79 => (obtain ⟨s0, s1, s2⟩ := hSw; go_simp; first | done | with_reducible rfl)
      try simp only [Act.put, List.setIfInBounds_toArray, List.set_cons_zero, List.set_cons_succ]
      refine take_dst (some 30) (i := 10) (v := ?vT710) rfl rfl (by kernel_rfl) (by kernel_rfl) (by kernel_rfl) (fun _ _ _ h => h) (Or.inl ⟨by rfl, fun wS hSw => ?hyT710⟩) (by assumption) ?restT710
      case hyT710 => (obtain ⟨s0, s1, s2⟩ := hSw; go_simp; first | done | with_reducible rfl)
      try simp only [Act.put, List.setIfInBounds_toArray, List.set_cons_zero, List.set_cons_succ]
      refine take_dst (some 31) (i := 11) (v := ?vT711) rfl rfl (by kernel_rfl) (by kernel_rfl) (by kernel_rfl) (fun _ _ _ h => h) (Or.inl ⟨by rfl, fun wS hSw => ?hyT711⟩) (by assumption) ?restT711
      case hyT711 => (obtain ⟨s0, s1, s2⟩ := hSw; go_simp; first | done | with_reducible rfl)
      try simp only [Act.put, List.setIfInBounds_toArray, List.set_cons_zero, List.set_cons_succ]
      refine take_dst (some 32) (i := 12) (v := ?vT712) rfl rfl (by kernel_rfl) (by kernel_rfl) (by kernel_rfl) (fun _ _ _ h => h) (Or.inl ⟨by rfl, fun wS hSw => ?hyT712⟩) (by assumption) ?restT712
      case hyT712 => (obtain ⟨s0, s1, s2⟩ := hSw; go_simp; first | done | with_reducible rfl)
      try simp only [Act.put, List.setIfInBounds_toArray, List.set_cons_zero, List.set_cons_succ]
      refine take_dst (some 33) (i := 13) (v := ?vT713) rfl rfl (by kernel_rfl) (by kernel_rfl) (by kernel_rfl) (fun _ _ _ h => h) (Or.inl ⟨by rfl, fun wS hSw => ?hyT713⟩) (by assumption) ?restT713
      case hyT713 => (obtain ⟨s0, s1, s2⟩ := hSw; go_simp; first | done | with_reducible rfl)
      try simp only [Act.put, List.setIfInBounds_toArray, List.set_cons_zero, List.set_cons_succ]
      refine wpAnyH_ready (rs := [5, 14]) (by kernel_rfl) (by simp) ?_
      refine AllReadyH.cons rfl (fun K hK => ?_) (AllReadyH.cons rfl (fun K hK => ?_) AllReadyH.nil)
      · go_simp
        refine hK.out _ _ ⟨d1, d2, d3⟩ (fun hHeldL => ?_)
        clear hK K
        try simp only [Act.put, List.setIfInBounds_toArray, List.set_cons_zero, List.set_cons_succ]
        refine wpAnyH_ready (rs := [14]) (by kernel_rfl) (by simp) ?_
        refine AllReadyH.cons rfl (fun K hK => ?_) AllReadyH.nil
        go_simp
        refine (next_bad S tk _ w7.drew (HS1.out.ext (Below.refl w7.heap.size w7).drew) Hlt.out).mono ?_
        rintro e w8 ⟨rfl, rfl⟩
        exact ⟨rfl, (below_mono HB1.out hbw.out).drew, by rw [hRe.out]⟩
      · go_simp
        refine (next_bad S tk _ w7.drew (HS1.out.ext (Below.refl w7.heap.size w7).drew) Hlt.out).mono ?_
        rintro e w8 ⟨rfl, rfl⟩
        exact ⟨rfl, (below_mono HB1.out hbw.out).drew, by rw [hRe.out]⟩
end Go.Proofs.Ytlocilbcmcfmaaa
/- a map of ints to bools that the call has made: numbers that were met. -/
namespace Go.Proofs.Ytlocilbcmcfmaaa
open Go.RowKit
open Go.Maps (Keyed)
theorem plainElem_bool_inv {P : Program} {e : TypeId} (he : P.underlying e = some .bool) {v : Value} {z : DataW Nat × List MemPlace} (h : plainElem P e v = some z) : ∃ x, v = .bool x ∧ z = (.lit (.bool x), []) := by
  unfold plainElem at h
  rw [he] at h
  cases v <;> simp at h
  subst h
  exact ⟨_, rfl, rfl⟩
theorem keyed_int : Keyed Try.prog 3 := Maps.int_keyed Try.underlying3
theorem key_int {a : Int} (h : (Lit.int .i64 a).wf = true) : keyOf Try.prog 3 (.int .i64 a) = some (.int .i64 a) := Maps.keyOf_int_mk Try.underlying3 h
theorem zero_bool (w : World) : (zeroValue 4).run Try.prog w = .ok (.bool false) w := by kernel_rfl
/-- block b is such a map, of at most n entries; T: what was met -/
def MetAt (w : World) (b n : Nat) (T : List Int) : Prop :=
  ∃ D : DataW Nat, w.ownsMap Try.prog 3 (plainElem Try.prog 4) b n D ∧ ∀ t : Int, (Lit.int .i64 t).wf = true → D.atKey (.int .i64 t) (.lit (.bool false)) = .lit (.bool (T.contains t))
theorem MetAt.made (w : World) : MetAt (w.alloc (.map #[] 0)) w.heap.size 0 [] := ⟨_, World.ownsMap_made w _ _ _, fun t _ => rfl⟩
theorem MetAt.lt {w : World} {b n : Nat} {T : List Int} (h : MetAt w b n T) : b < w.heap.size := by obtain ⟨D, h, _⟩ := h; exact h.lt
theorem MetAt.kept {w w' : World} {b n : Nat} {T : List Int} {row : Option Nat} (h : MetAt w b n T) (hg : w.grownBy w' row) (hne : some b ≠ row) : MetAt w' b n T := by
  obtain ⟨D, h, q⟩ := h
  exact ⟨D, h.kept hg hne, q⟩
theorem MetAt.alloc {w : World} {b n : Nat} {T : List Int} (h : MetAt w b n T) (o : Obj) : MetAt (w.alloc o) b n T := by
  obtain ⟨D, h, q⟩ := h
  exact ⟨D, h.alloc o, q⟩
theorem MetAt.drew {w : World} {b n : Nat} {T : List Int} (h : MetAt w b n T) : MetAt w.drew b n T := h
theorem MetAt.ext {w w' : World} {b n : Nat} {T : List Int} (h : MetAt w b n T) (hb : Below w.heap.size w w') : MetAt w' b n T := by
  obtain ⟨D, ⟨es, clock, h1, F, hs, hD⟩, q⟩ := h
  have hlt : b < w.heap.size := (Array.getElem?_eq_some_iff.1 h1).1
  exact ⟨D, ⟨es, clock, (hb.block b hlt).trans h1, F, hs, hD⟩, q⟩
def unB : DataW Nat → Bool
  | .lit (.bool x) => x
  | _ => false
theorem MetAt.look {w : World} {b n : Nat} {T : List Int} (h : MetAt w b n T) {t : Int} (ht : (Lit.int .i64 t).wf = true) : (Instr.lookup 57 (.map (some b)) (.int .i64 t) false).run Try.prog w = .ok (.bool (T.contains t)) w := by
  obtain ⟨D, h, q⟩ := h
  obtain ⟨v, ps, hrun, hv⟩ := h.lookup keyed_int Try.underlying57 (zero_bool w) (plainElem_bool Try.underlying4 false) (key_int ht)
  obtain ⟨x, rfl, hx⟩ := plainElem_bool_inv Try.underlying4 hv
  rw [q t ht] at hx
  have h1 : (DataW.lit (.bool (T.contains t)) : DataW Nat) = .lit (.bool x) := congrArg Prod.fst hx
  obtain ⟨c, hc⟩ : ∃ c, T.contains t = c := ⟨_, rfl⟩
  rw [hc] at h1 ⊢
  have h2 : c = x := congrArg unB h1
  rw [h2]; exact hrun
theorem MetAt.update {w : World} {b n : Nat} {T : List Int} (h : MetAt w b n T) (hn : n < maxLen) {t : Int} (ht : (Lit.int .i64 t).wf = true) :
    ∃ w', (Instr.mapUpdate 57 (.map (some b)) (.int .i64 t) (.bool true)).run Try.prog w = .ok () w' ∧ MetAt w' b (n + 1) (t :: T) ∧ w.grownBy w' (some b) := by
  obtain ⟨D, h, q⟩ := h
  obtain ⟨w', h1, h2, h3⟩ := h.update keyed_int Try.underlying57 hn (key_int ht) (plainElem_bool (H := Nat) Try.underlying4 true)
  refine ⟨w', h1, ⟨_, h2, fun s hs => ?_⟩, h3⟩
  by_cases he : s = t
  · subst he
    rw [Maps.atKey_put_same h.isMap (by trivial)]
    simp
  · rw [Maps.atKey_put_other (by intro e; injection e with _ e; exact he e), q s hs, List.contains_cons]
    have : (s == t) = false := by rw [beq_eq_false_iff_ne]; exact he
    rw [this, Bool.false_or]
end Go.Proofs.Ytlocilbcmcfmaaa
