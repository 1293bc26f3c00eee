/- Merged: Tls Tvn Tve Tcd. -/
import Derived.Test.YtbonebmboolemaaDoorK13
import Derived.Test.YtbonebmboolemaaDoorK22
import Derived.Test.YtbonebmboolemaaDoorK29
import Derived.Test.YtbonebmboolemaaDoorK33
import Derived.Test.YtbonebmboolemaaDoorK34
import Derived.Test.YtbonebmboolemaaDoorK37
import Derived.Shelf.Abstract
import Derived.RangeFuncWrites
import Derived.BigQuiet
/- commitment.listed. -/
namespace Go.Proofs.YtbonebmboolemaaDoor
open Go.RowKit
attribute [local go_sem] Oper.semAt_some
theorem leaves_stops (n : Nat) (hn : 1 ≤ n) (S0 Bt : Nat) (t : Tab) (r : Tb) (w : World) (hL : Laid w) (hg : 1 < S0 ∧ 0 < S0) (hB : CB w Bt 31 r.cells) (hc : LsAt nuK S0 w t.costs r.cv) (ha : r.air = t.air) (hf : r.fl = t.fl) (hs : r.salt = t.salt) (hI : TabI t) (hSB : S0 ≤ Bt) :
    SeqStopsK Fence.wide n Tryd.prog 72 #[.pointer (some ⟨Bt, 0, none⟩)] (fun x : Dg => #[dv x.1]) (KpL S0 Bt) (fun ys => ys = leavesT t) (fun pre => pre <+: leavesT t) t.costs.length w := fun l J Jx W hW hJ _ hY h0 =>
  leaves1_in n hn l S0 Bt t r J Jx W hJ hY (hL.ext hW) hg (hB.ext hW) (hc.keep (Nat.le_refl _) (fun k hk => hW.block _ (by have := hB.lt; omega))) ha hf hs hI hSB h0
theorem own_row {α : Type} {K : EK α} {e : TypeId} {W : World} {base : Nat} {v : Value} {l : List α} {row : Option Nat} (h : OwnK K e W base v l) (hr : ∀ q, row = some q → ∃ o : Obj, W.heap[q]? = some o ∧ o.isCells = false) : v.ownBlock = none ∨ v.ownBlock ≠ row := by
  rcases h.2 with ⟨rfl, _⟩ | ⟨g, cap, cur, rfl, _, hgb, _⟩
  · exact .inl rfl
  · refine .inr fun e' => ?_
    obtain ⟨o, h1, h2⟩ := hr g (by simpa [Value.ownBlock] using e'.symm)
    rw [hgb] at h1; cases h1; cases h2
theorem results_cell_s {P : Program} {fn : Func} {p : Tmp} {ty e : TypeId} (h : fn.results = #[.cell p ty]) (tmps : Array Value) (w : World) (g : Nat) (v : Value)
    (hp : tmps.getD p undef = .pointer (some ⟨g, 0, none⟩)) (hc : w.cell? ⟨g, 0, none⟩ = some v) (hu : P.underlying ty = some (.slice e)) : (results fn tmps).run P w = .ok v w := by
  have hp' : tmps[p]?.getD undef = .pointer (some ⟨g, 0, none⟩) := by simpa using hp
  simp [results, h, hp', asAddr, loadVar, isAgg, underlying, hu, hc, Result.andThen, go_sem]
set_option maxRecDepth 100000 in
set_option maxHeartbeats 4000000 in
theorem listed_any (t : Tab) (r : Tb) (w : World) (hr : TabR w t r) (hI : TabI t) (hL : Laid w) :
    Calls Tryd.prog 37 #[r.v] w fun e w' => ∃ v, e = .returned v ∧ OwnK digK 29 w' w.heap.size v (leavesT t) ∧ Below w.heap.size w w' := by
  refine (callsIn_wide (n := 9)).1 ?_
  refine callsIn_of_wp_marks Tryd.func37 rfl trivial ?_ rfl
  simp only [Tryd.ntmps37, List.size_toArray, List.length_cons, List.length_nil, Nat.reduceAdd, Nat.reduceSub, Array.replicate_succ, Array.replicate_zero, List.push_toArray, List.append_toArray, List.nil_append, List.cons_append]
  have H1 : Hid (((w.alloc (.cells r.cells.toArray 31)).alloc (.cells #[.slice none 0 0] 34)).rangeAt w.heap.size 0 r.cells) := tb_rng ((cb_one w (bT r) _ _ rfl).alloc _)
  change Code.wpIn _ _ _ _ _ { tmps := #[.agg r.cells.toArray, undef, undef, undef, undef, undef, undef, undef, undef, undef, undef, undef], defers := _ } _
  gi_wp2_with (first
    | (with_reducible refine fin_load_mid rfl 31 (.tmp 1) rfl w.heap.size 0 rfl r.cells _ H1.out Tryd.underlying31 rfl (by rw [tb_len]; exact tb_sz) ?_)
    | (refine ⟨trivial, ?_⟩; gi_at_call 58; refine (callsIn_wide.2 (leaves_any r _)).mono ?_; rintro e w' ⟨rfl, rfl⟩))
  obtain ⟨W0, hW0⟩ : ∃ W0, ((w.alloc (.cells r.cells.toArray 31)).alloc (.cells #[.slice none 0 0] 34)).alloc (bT r) = W0 := ⟨_, rfl⟩
  have hz0 : W0.heap.size = w.heap.size + 1 + 1 + 1 := by rw [← hW0, World.size_alloc, World.size_alloc, World.size_alloc]
  have hB0 : Below w.heap.size w W0 := by rw [← hW0]; exact ((((Below.refl _ w).alloc (Nat.le_refl _) _).alloc (by simp) _).alloc (by simp; omega) _)
  have hb2 : CB W0 (w.heap.size + 1 + 1) 31 r.cells := by
    rw [← hW0]
    have := cb_one ((w.alloc (.cells r.cells.toArray 31)).alloc (.cells #[.slice none 0 0] 34)) (bT r) _ _ rfl
    rw [World.size_alloc, World.size_alloc] at this; exact this
  have hb1 : CB W0 (w.heap.size + 1) 34 [.slice none 0 0] := by
    rw [← hW0]
    have := cb_one (w.alloc (.cells r.cells.toArray 31)) (.cells #[.slice none 0 0] 34) _ [.slice none 0 0] rfl
    rw [World.size_alloc] at this; exact this.alloc _
  rw [hW0]
  clear hW0 H1
  have hg0 := hL.lt
  have hcs : LsAt nuK w.heap.size W0 t.costs r.cv := hr.cs.keep (Nat.le_refl _) (fun k hk => hB0.block k hk)
  refine wpIn_rangeFunc_ownH rfl (by decide) (gf := 72) (lb := #[.pointer (some ⟨w.heap.size + 1 + 1, 0, none⟩)]) rfl trivial (enters_of Tryd.func72 (by kernel_rfl) rfl)
    (leaves_stops 8 (by decide) w.heap.size (w.heap.size + 1 + 1) t r W0 (hL.ext hB0) hg0 hb2 hcs hr.air hr.fl hr.salt hI (by omega)) KpL.trans
    (fun W l o o' hl _ _ _ => ⟨fun k hk => World.putObj_heap_other (by omega), World.putObj_heap_other (by omega)⟩) (Below.refl _ _) (fun _ => rfl)
    (fun pre W => (∃ v, CB W (w.heap.size + 1) 34 [v] ∧ OwnK digK 29 W (w.heap.size + 3) v pre) ∧ Below w.heap.size w W ∧ w.heap.size + 3 ≤ W.heap.size)
    (fun _ _ _ => False) ?own (fun _ _ _ _ _ hs _ _ => hs) ⟨⟨_, hb1, OwnK.nil _ _ _⟩, hB0, by omega⟩
    (fun x a' W => ∃ g u, a' = { tmps := #[.agg r.cells.toArray, .pointer (some ⟨w.heap.size, 0, none⟩), .pointer (some ⟨w.heap.size + 1, 0, none⟩), .pointer (some ⟨g, 0, none⟩), .agg r.cells.toArray, .func (.func 72) #[] #[.pointer (some ⟨w.heap.size + 1 + 1, 0, none⟩)], u, undef, undef, undef, undef, undef], defers := [] } ∧ CB W g 29 (bcells x.1) ∧ w.heap.size + 3 ≤ g) ?ax ?assign ?body ?done ?stop
  case own =>
    rintro pre A B row ⟨⟨v, hc, ho⟩, hb, hsz⟩ hg hr2
    refine ⟨⟨v, hc.keep (hg.block _ hc.lt (fun e => ?_)), ho.keepR hg (own_row ho (fun q e => (hr2 q e).2))⟩, hb.grown hg hb.size (fun q e => by have := (hr2 q e).1; omega), Nat.le_trans hsz hg.size⟩
    obtain ⟨_, o, h1, h2⟩ := hr2 _ e.symm
    have h3 : A.heap[w.heap.size + 1]? = some (.cells [v].toArray 34 (0, 0)) := hc
    rw [h3] at h1; cases h1; cases h2
  case ax =>
    rintro x a' _ A B row ⟨g, u, he, hc, hgl⟩ hg hr2
    refine ⟨g, u, he, hc.keep (hg.block _ hc.lt (fun e => ?_)), hgl⟩
    obtain ⟨_, o, h1, h2⟩ := hr2 _ e.symm
    have h3 : A.heap[g]? = some (.cells (bcells x.1).toArray 29 (0, 0)) := hc
    rw [h3] at h1; cases h1; cases h2
  case assign =>
    rintro l pre x W K ⟨⟨v, hc, ho⟩, hb, hsz⟩ hK
    have HZ : Hid ((W.alloc ZD).heap[W.heap.size]? = some (.cells (bcells dgZ.1).toArray 29 (0, 0))) := cb_one W ZD _ _ rfl
    have hxl := Lib.hid x.2
    gi_wp2_with (refine fin_store_d rfl 29 (.tmp 3) (.tmp 6) rfl W.heap.size x.1 hxl.out rfl rfl 29 _ HZ.out rfl dig_sz ?_; intro w2 hc2 hg2 hz2)
    have hz3 : w2.heap.size = W.heap.size + 1 := by rw [hz2, World.size_alloc]
    have hg0 := hg2.out
    have hgW : W.grownBy w2 none := ⟨hg0.os, hg0.tape, hg0.output, by omega, fun k hk _ => (hg0.block k (by rw [World.size_alloc]; omega) (fun e => by injection e; omega)).trans (Below.heap_alloc W ZD k hk)⟩
    refine hK _ _ ((KeepsOthers.of_grownBy hgW (fun j o e => by cases e)).from _) ⟨fun k hk => hgW.block k (by omega) (by simp), hgW.block _ (by omega) (by simp)⟩ ⟨⟨v, hc.keep (hgW.block _ (by omega) (by simp)), ho.keepR hgW (own_row ho (fun q e => by cases e))⟩, hb.grown hgW hb.size (fun q e => by cases e), by omega⟩ ⟨W.heap.size, _, rfl, hc2.out, hsz⟩
  case body =>
    rintro l pre x a' W hlW hrec ⟨⟨v, hc, ho⟩, hb, hsz⟩ ⟨g, u, rfl, hcg, hgl⟩ hlen
    have hxl := Lib.hid x.2
    obtain ⟨op, cp, rfl, _⟩ := ho.rd.shape
    have c1 : W.cell? ⟨w.heap.size + 1, 0, none⟩ = some (.slice op pre.length cp) := hc.cell 0
    have HR : Hid (W.rangeAt g 0 (bcells x.1)) := fun i u hu => by rw [Nat.zero_add, hcg.cell]; exact hu
    have hfr : W.frozen? ⟨w.heap.size + 1, 0, none⟩ = false := hc.frozen 0
    have HO := Lib.hid ho; have HC := Lib.hid hc; have HB := Lib.hid hb
    have Hlen : Hid (pre.length < 64) := by show _ < _; have := hI.few; omega
    clear ho hc hb hcg
    gi_wp2_with (first
      | (with_reducible refine fin_load_mid rfl 29 (.tmp 3) rfl g 0 rfl (bcells x.1) _ HR.out Tryd.underlying29 rfl (by rw [bcells_length, hxl.out]; exact dig_sz) ?_)
      | (refine fin_bs rfl (.tmp 8) rfl x rfl ?_; go_loud (
          have KX : Hid (Src Tryd.prog 32 34 (.slice (some ⟨W.heap.size, 0, none⟩) 1 1) 1 (digK.flat [x]) (W.alloc (bD x))) := src_el (K := digK) (a := x) Tryd.underlying34 (cb_one W _ _ _ rfl)
          have HO2 := Lib.hid (HO.out.alloc (bD x)); have HB2 := Lib.hid (HB.out.alloc (HB.out.size) (bD x)); have HC2 := Lib.hid (HC.out.alloc (bD x))))
      | ((refine fin_append_x (e := 29) (z := .agg (bcells dgZ.1).toArray) (size := 32) (bytes := 32) Tryd.underlying34 dig_info2 rfl rfl (.tmp 7) (.tmp 9) rfl (w.heap.size + 3) _ pre.length (digK.flat pre) rfl HO2.out _ 1 (digK.flat [x]) rfl KX.out (by have := Hlen.out; unfold maxLen; omega) (by have := Hlen.out; omega) (by rw [World.size_alloc]; omega) ?_); go_loud (
          intro v4 w4 ho4 hg4 hn4
          have KP4 : Hid (OwnK digK 29 w4 (w.heap.size + 3) v4 (pre ++ [x])) := OwnK.append (K := digK) ho4 (by simp)
          obtain ⟨o4, q4, he4, _⟩ := KP4.out.rd.shape
          rw [List.length_append, List.length_singleton] at he4
          subst he4
          have hrow : ∀ j, (Value.slice op pre.length cp).ownBlock = some j → w.heap.size + 3 ≤ j := fun j e => (HO2.out.lt j e).1
          have HC4 := Lib.hid (HC2.out.keep (hg4.block _ HC2.out.lt (fun e => by have := hrow _ e.symm; omega)))
          have c4 : w4.cell? ⟨w.heap.size + 1, 0, none⟩ = some (.slice op pre.length cp) := HC4.out.cell 0
          have f4 : w4.frozen? ⟨w.heap.size + 1, 0, none⟩ = false := HC4.out.frozen 0
          have HG4 : Hid ((W.alloc (bD x)).grownBy w4 (Value.slice op pre.length cp).ownBlock) := hg4; have HROW := Lib.hid hrow
          have HB4 := Lib.hid (HB2.out.grown hg4 HB2.out.size (fun q e => by have := hrow q e; omega))
          clear ho4 hg4 hn4 hrow c1 hfr)))
    have hal : ∀ k, k < W.heap.size → (W.alloc (bD x)).heap[k]? = W.heap[k]? := fun k hk => Below.heap_alloc W (bD x) k hk
    have hkeep : ∀ u k, k < W.heap.size → k < w.heap.size + 3 → k ≠ w.heap.size + 1 → (w4.setCell ⟨w.heap.size + 1, 0, none⟩ u).heap[k]? = W.heap[k]? := fun u k hk h3 hne =>
      (Below.heap_setCell w4 ⟨w.heap.size + 1, 0, none⟩ _ k hne).trans ((HG4.out.block k (by rw [World.size_alloc]; omega) (fun e => by have := HROW.out k e.symm; omega)).trans (hal k hk))
    have hz4 : w.heap.size + 3 ≤ w4.heap.size := by have := HG4.out.size; rw [World.size_alloc] at this; omega
    have hko : KeepsOthers (W.alloc (bD x)) w4 := KeepsOthers.of_grownBy HG4.out (fun j o e ho => by
      rcases HO2.out.2 with ⟨e2, _⟩ | ⟨g', cap', cur, e2, _, hgb, _⟩
      · injection e2 with e2; subst e2; cases e
      · injection e2 with e2 _ _; subst e2
        have : j = g' := by simpa [Value.ownBlock] using e.symm
        subst this; rw [hgb] at ho; cases ho; rfl)
    refine ⟨(((KeepsOthers.alloc W _).trans hko).trans (KeepsOthers.setCell _ _ _)).from _, ⟨fun k hk => hkeep _ k (by omega) (by omega) (by omega), hkeep _ (w.heap.size + 1 + 1) (by omega) (by omega) (by omega)⟩, ⟨_, HC4.out.set 0 _, KP4.out.far2 (S := w.heap.size + 1) (KP4.out.far (by omega)) _⟩, HB4.out.setCell (p := ⟨w.heap.size + 1, 0, none⟩) (by show _ ≤ w.heap.size + 1; omega) _, by simpa [World.setCell] using hz4⟩
  case done =>
    rintro D ys W hD rfl ⟨⟨v, hc, ho⟩, hb, hsz⟩ hK
    obtain ⟨op, cp, rfl, _⟩ := ho.rd.shape
    have c1 : W.cell? ⟨w.heap.size + 1, 0, none⟩ = some (.slice op (leavesT t).length cp) := hc.cell 0
    have hfr : W.frozen? ⟨w.heap.size + 1, 0, none⟩ = false := hc.frozen 0
    have HO := Lib.hid ho; have HC := Lib.hid hc; have HB := Lib.hid hb; have HK := Lib.hid hK
    clear ho hc hb hK
    gi_wp2
    have hc2 : (W.setCell ⟨w.heap.size + 1, 0, none⟩ (.slice op (leavesT t).length cp)).cell? ⟨w.heap.size + 1, 0, none⟩ = some (.slice op (leavesT t).length cp) := (HC.out.set 0 _).cell 0
    have hK2 : (W.setCell ⟨w.heap.size + 1, 0, none⟩ (.slice op (leavesT t).length cp)).heap[D]? = some (.deferred (some [])) := (Below.heap_setCell W _ _ D (by show D ≠ w.heap.size + 1; omega)).trans HK.out
    refine ⟨by simp, .inl ⟨_, _, rfl, run_takeDeferred hK2, ?_⟩⟩
    have hb7 := HB.out.setCell (p := ⟨w.heap.size + 1, 0, none⟩) (by show _ ≤ w.heap.size + 1; omega) (.slice op (leavesT t).length cp)
    have hb8 : Below w.heap.size w ((W.setCell ⟨w.heap.size + 1, 0, none⟩ (.slice op (leavesT t).length cp)).putObj D (.deferred none)) := hb7.trans (belowK_b (w := w) (Nat.le_refl _) _ D _ _ (by omega) hK2 rfl rfl)
    have hD1 : D ≠ w.heap.size + 1 := by omega
    have hc8 : ((W.setCell ⟨w.heap.size + 1, 0, none⟩ (.slice op (leavesT t).length cp)).putObj D (.deferred none)).cell? ⟨w.heap.size + 1, 0, none⟩ = some (.slice op (leavesT t).length cp) := (World.cell?_of_block (World.putObj_heap_other hD1.symm)).trans hc2
    refine ⟨_, results_cell_s rfl _ _ (w.heap.size + 1) _ rfl hc8 Tryd.underlying34, _, rfl, ?_, hb8⟩
    refine (((HO.out.far2 (HO.out.far (by omega)) _).base (by omega)).keepR (row := some D) (grownBy_putObj' _ D _) ?_)
    rcases HO.out.2 with ⟨e2, _⟩ | ⟨g', cap', cur, e2, _, hgb, _⟩
    · injection e2 with e2; rw [e2]; exact .inl rfl
    · injection e2 with e2 _ _; rw [e2]
      refine .inr (fun e => ?_)
      have : g' = D := by simpa [Value.ownBlock] using e
      subst this
      have := HK.out; rw [hgb] at this; cases this
  case stop =>
    rintro D c pre W _ _ h _
    exact h.elim
end Go.Proofs.YtbonebmboolemaaDoor
/- commitment.Verify (printed by gen36y.py). -/
namespace Go.Proofs.YtbonebmboolemaaDoor
open Go.RowKit
theorem eq_dv (l m : List UInt8) (hl : l.length = 32) (hm : m.length = 32) (w : World) :
    (Op.equalIn 10000 29 (.agg (bcells l).toArray) (.agg (bcells m).toArray)).run Tryd.prog w = .ok (decide (l = m)) w := by
  have hu := Tryd.underlying29
  have h := eq_loop (P := Tryd.prog) (w := w) (E := 5) Tryd.underlying5 (by kernel_rfl) l m hl hm (List.range' 0 32) (fun i hi => by have := List.mem_range'_1.1 hi; omega)
  rw [all_eq l m hl hm] at h
  have hs : (sizeOf 5).run Tryd.prog w = .ok 1 w := by kernel_rfl
  rw [show (10000 : Nat) = 9999 + 1 from rfl, Op.equalIn]
  simp only [Sem.run_bind, run_underlying hu, Result.andThen_ok, hs, Std.Legacy.Range.forIn_eq_forIn_range']
  erw [h]
  cases decide (l = m) <;> rfl
theorem below_drewN2 {B : Nat} {w w1 : World} (h : Below B w w1) (n : Nat) : Below B w (w1.drewN n) := ⟨h.os, h.tape, h.output, h.size, h.block⟩
def VerPost (d : Dg) (air tables slots : Int) (p : Opn) (w : World) (e : Ending) (w' : World) : Prop := e = .returned (.int .i64 (verE d air tables slots p)) ∧ Below w.heap.size w w'
theorem verE_no {d : Dg} {air tables slots : Int} {p : Opn} (h : preV air tables slots p = false) : verE d air tables slots p = 360 := by
  unfold verE verB; rw [h]; rfl
set_option maxRecDepth 100000 in
set_option maxHeartbeats 4000000 in
theorem verify_no (d : Dg) (air tables slots : Int) (p : Opn) (r : Ob) (w : World) (hr : OpR w p r) (h : preV air tables slots p = false) :
    Calls Tryd.prog 18 #[dv d.1, .int .i64 air, .int .i64 tables, .int .i64 slots, r.v] w (VerPost d air tables slots p w) := by
  have HP : Hid (∀ w', Below w.heap.size w w' → VerPost d air tables slots p w (.returned (.int .i64 360)) w') := fun w' hb => ⟨by rw [verE_no h], hb⟩
  have hb0 : Below w.heap.size w ((w.alloc (bD d)).alloc (bO r)) := (b_al (w := w) (bD d)).alloc (b_al (w := w) (bD d)).size _
  have hc0 : CB ((w.alloc (bD d)).alloc (bO r)) (w.heap.size + 1) 36 r.cells := by
    have := cb_one (w.alloc (bD d)) (bO r) 36 r.cells rfl
    rwa [World.size_alloc] at this
  have H := Lib.hid h
  have HB := Lib.hid hb0
  obtain ⟨c0, c1, c2, c3, -, c5⟩ := ob_cell hc0
  obtain ⟨e1, e2, e3, e4, -, -⟩ := hr
  rw [e1] at c0; rw [e2] at c1; rw [e3] at c2; rw [e4] at c3
  obtain ⟨ra, rf, rs, rc, psl, pp⟩ := p
  have HQ := Lib.hid (H.out)
  clear h hb0 hc0 H e1 e2 e3 e4
  by_cases h0 : tables < 1
  · have t0 : decide (tables < 1) = true := decide_eq_true h0
    clear HQ
    change Calls Tryd.prog 18 #[.agg (bcells d.1).toArray, _, _, _, .agg r.cells.toArray] w _
    go_enter Tryd.func18, Tryd.ntmps18
    go_upto_region 1 with fail
    change Code.wp _ _ _ _ ((w.alloc (bD d)).alloc (bO r))
    generalize (w.alloc (bD d)).alloc (bO r) = w0 at *
    go_wp2_with (first
      | (go_at_call 27; refine (known_any _ _ _).mono ?_; rw [T5.out]; rintro e w' ⟨rfl, rfl⟩)
      | (go_at_call 30; refine (cost_any _ _).mono ?_; rw [T8.out]; rintro e w' ⟨rfl, rfl⟩))
    go_ret
    exact HP.out _ HB.out
  have t0 : decide (tables < 1) = false := decide_eq_false h0
  by_cases h1 : 8 < tables
  · have t1 : decide (8 < tables) = true := decide_eq_true h1
    clear HQ
    change Calls Tryd.prog 18 #[.agg (bcells d.1).toArray, _, _, _, .agg r.cells.toArray] w _
    go_enter Tryd.func18, Tryd.ntmps18
    go_upto_region 1 with fail
    change Code.wp _ _ _ _ ((w.alloc (bD d)).alloc (bO r))
    generalize (w.alloc (bD d)).alloc (bO r) = w0 at *
    go_wp2_with (first
      | (go_at_call 27; refine (known_any _ _ _).mono ?_; rw [T5.out]; rintro e w' ⟨rfl, rfl⟩)
      | (go_at_call 30; refine (cost_any _ _).mono ?_; rw [T8.out]; rintro e w' ⟨rfl, rfl⟩))
    go_ret
    exact HP.out _ HB.out
  have t1 : decide (8 < tables) = false := decide_eq_false h1
  by_cases h2 : slots < 1
  · have t2 : decide (slots < 1) = true := decide_eq_true h2
    clear HQ
    change Calls Tryd.prog 18 #[.agg (bcells d.1).toArray, _, _, _, .agg r.cells.toArray] w _
    go_enter Tryd.func18, Tryd.ntmps18
    go_upto_region 1 with fail
    change Code.wp _ _ _ _ ((w.alloc (bD d)).alloc (bO r))
    generalize (w.alloc (bD d)).alloc (bO r) = w0 at *
    go_wp2_with (first
      | (go_at_call 27; refine (known_any _ _ _).mono ?_; rw [T5.out]; rintro e w' ⟨rfl, rfl⟩)
      | (go_at_call 30; refine (cost_any _ _).mono ?_; rw [T8.out]; rintro e w' ⟨rfl, rfl⟩))
    go_ret
    exact HP.out _ HB.out
  have t2 : decide (slots < 1) = false := decide_eq_false h2
  by_cases h3 : 8 < slots
  · have t3 : decide (8 < slots) = true := decide_eq_true h3
    clear HQ
    change Calls Tryd.prog 18 #[.agg (bcells d.1).toArray, _, _, _, .agg r.cells.toArray] w _
    go_enter Tryd.func18, Tryd.ntmps18
    go_upto_region 1 with fail
    change Code.wp _ _ _ _ ((w.alloc (bD d)).alloc (bO r))
    generalize (w.alloc (bD d)).alloc (bO r) = w0 at *
    go_wp2_with (first
      | (go_at_call 27; refine (known_any _ _ _).mono ?_; rw [T5.out]; rintro e w' ⟨rfl, rfl⟩)
      | (go_at_call 30; refine (cost_any _ _).mono ?_; rw [T8.out]; rintro e w' ⟨rfl, rfl⟩))
    go_ret
    exact HP.out _ HB.out
  have t3 : decide (8 < slots) = false := decide_eq_false h3
  by_cases h4 : ¬ ra = air
  · have t4 : decide (ra = air) = false := decide_eq_false h4
    clear HQ
    change Calls Tryd.prog 18 #[.agg (bcells d.1).toArray, _, _, _, .agg r.cells.toArray] w _
    go_enter Tryd.func18, Tryd.ntmps18
    go_upto_region 1 with fail
    change Code.wp _ _ _ _ ((w.alloc (bD d)).alloc (bO r))
    generalize (w.alloc (bD d)).alloc (bO r) = w0 at *
    go_wp2_with (first
      | (go_at_call 27; refine (known_any _ _ _).mono ?_; rw [T5.out]; rintro e w' ⟨rfl, rfl⟩)
      | (go_at_call 30; refine (cost_any _ _).mono ?_; rw [T8.out]; rintro e w' ⟨rfl, rfl⟩))
    go_ret
    exact HP.out _ HB.out
  obtain rfl : ra = air := Decidable.not_not.1 h4
  by_cases h5 : ¬ knownB ra rf = true
  · have T5 : Hid (knownB ra rf = false) := by show _ = _; simpa using h5
    clear HQ
    change Calls Tryd.prog 18 #[.agg (bcells d.1).toArray, _, _, _, .agg r.cells.toArray] w _
    go_enter Tryd.func18, Tryd.ntmps18
    go_upto_region 1 with fail
    change Code.wp _ _ _ _ ((w.alloc (bD d)).alloc (bO r))
    generalize (w.alloc (bD d)).alloc (bO r) = w0 at *
    go_wp2_with (first
      | (go_at_call 27; refine (known_any _ _ _).mono ?_; rw [T5.out]; rintro e w' ⟨rfl, rfl⟩)
      | (go_at_call 30; refine (cost_any _ _).mono ?_; rw [T8.out]; rintro e w' ⟨rfl, rfl⟩))
    go_ret
    exact HP.out _ HB.out
  have q5 : knownB ra rf = true := Decidable.not_not.1 h5
  have T5 := Lib.hid q5
  clear q5
  by_cases h6 : rs < 0
  · have t6 : decide (rs < 0) = true := decide_eq_true h6
    clear HQ
    change Calls Tryd.prog 18 #[.agg (bcells d.1).toArray, _, _, _, .agg r.cells.toArray] w _
    go_enter Tryd.func18, Tryd.ntmps18
    go_upto_region 1 with fail
    change Code.wp _ _ _ _ ((w.alloc (bD d)).alloc (bO r))
    generalize (w.alloc (bD d)).alloc (bO r) = w0 at *
    go_wp2_with (first
      | (go_at_call 27; refine (known_any _ _ _).mono ?_; rw [T5.out]; rintro e w' ⟨rfl, rfl⟩)
      | (go_at_call 30; refine (cost_any _ _).mono ?_; rw [T8.out]; rintro e w' ⟨rfl, rfl⟩))
    go_ret
    exact HP.out _ HB.out
  have t6 : decide (rs < 0) = false := decide_eq_false h6
  by_cases h7 : slots ≤ rs
  · have t7 : decide (slots ≤ rs) = true := decide_eq_true h7
    clear HQ
    change Calls Tryd.prog 18 #[.agg (bcells d.1).toArray, _, _, _, .agg r.cells.toArray] w _
    go_enter Tryd.func18, Tryd.ntmps18
    go_upto_region 1 with fail
    change Code.wp _ _ _ _ ((w.alloc (bD d)).alloc (bO r))
    generalize (w.alloc (bD d)).alloc (bO r) = w0 at *
    go_wp2_with (first
      | (go_at_call 27; refine (known_any _ _ _).mono ?_; rw [T5.out]; rintro e w' ⟨rfl, rfl⟩)
      | (go_at_call 30; refine (cost_any _ _).mono ?_; rw [T8.out]; rintro e w' ⟨rfl, rfl⟩))
    go_ret
    exact HP.out _ HB.out
  have t7 : decide (slots ≤ rs) = false := decide_eq_false h7
  have T8 : Hid (costB rc = false) := by
    show _ = _
    have hq := HQ.out
    unfold preV at hq
    rw [Bool.eq_false_iff]
    intro hc
    have : preV ra tables slots ⟨ra, rf, rs, rc, psl, pp⟩ = true := by
      unfold preV
      simp only [Bool.and_eq_true, decide_eq_true_eq]
      exact ⟨⟨⟨⟨⟨⟨⟨⟨by omega, by omega⟩, by omega⟩, by omega⟩, by first | rfl | trivial⟩, T5.out⟩, by omega⟩, by omega⟩, hc⟩
    unfold preV at this
    rw [this] at hq; cases hq
  clear HQ h0 h1 h2 h3 h4 h5 h6 h7
  change Calls Tryd.prog 18 #[.agg (bcells d.1).toArray, _, _, _, .agg r.cells.toArray] w _
  go_enter Tryd.func18, Tryd.ntmps18
  go_upto_region 1 with fail
  change Code.wp _ _ _ _ ((w.alloc (bD d)).alloc (bO r))
  generalize (w.alloc (bD d)).alloc (bO r) = w0 at *
  go_wp2_with (first
    | (go_at_call 27; refine (known_any _ _ _).mono ?_; rw [T5.out]; rintro e w' ⟨rfl, rfl⟩)
    | (go_at_call 30; refine (cost_any _ _).mono ?_; rw [T8.out]; rintro e w' ⟨rfl, rfl⟩))
  go_ret
  exact HP.out _ HB.out
end Go.Proofs.YtbonebmboolemaaDoor
/- commitment.Verify where it may find (printed by gen36y.py). -/
namespace Go.Proofs.YtbonebmboolemaaDoor
open Go.RowKit
theorem eql_dv (l m : List UInt8) (hl : l.length = 32) (hm : m.length = 32) (w : World) :
    (binOp .eql 29 (dv l) (dv m)).run Tryd.prog w = .ok (.bool (decide (l = m))) w := by
  unfold dv
  rw [run_eql_struct]
  rw [eq_dv l m hl hm w]; rfl
section
variable {P : Program} {w : World} {ops : Array Oper} {rest : List Oper} {o : Oper} {a : Act} {Q : Exit → Act → World → Prop}
/-- a load behind a guard that lets it through -/
theorem wpList_load_dg (hw : Region.wanted o (yielded ops a.tmps) = true) (ty : TypeId) (x : Operand) (ho : o.op = .load ty x) (g : Nat) (l : List UInt8) (hl : l.length = 32) (hx : a.eval x = .pointer (some ⟨g, 0, none⟩))
    (t : TypeId) (d : TypeDesc) (hg : CB w g t (bcells l)) (hu : P.underlying ty = some d) (hd : (match d with | .struct _ | .array _ _ => true | _ => false) = true) (hi : (P.info? ty).map (·.size) = some 32)
    (h : wpList P ops Q rest (a.put o.dst (dv l)) w) : wpList P ops Q (o :: rest) a w := by
  unfold wpList
  rw [if_pos hw]
  left
  exact wp_load_row ty x ho g hx t (bcells l).toArray (0, 0) d hg hu hd (by rw [List.size_toArray, bcells_length, hl]; exact hi) h
end
/-- half-way through the tables -/
structure ViRel (d x ow : Dg) (r : Ob) (T : Nat) (rest : List Dg) (w : World) (g gx : Nat) (w0 : World) (vi : Value) (wr : World) : Prop where
  h : ∃ a : Nat, vi = .int .i64 (a : Int) ∧ a ≤ T ∧ (∀ j, j < a → hitB d T x rest j = false) ∧ CB wr w.heap.size 29 (bcells d.1) ∧ CB wr (w.heap.size + 1) 36 r.cells ∧ CB wr g 29 (bcells ow.1) ∧ CB wr gx 29 (bcells x.1) ∧ Below w.heap.size w wr
structure VoRel (d ow : Dg) (r : Ob) (T S : Nat) (p : Opn) (w : World) (g : Nat) (vi : Value) (wr : World) : Prop where
  h : ∃ n : Nat, vi = .int .i64 (n : Int) ∧ n ≤ p.path.length + 1 ∧ (∀ j, j < n → tryB d T S p j = false) ∧ CB wr w.heap.size 29 (bcells d.1) ∧ CB wr (w.heap.size + 1) 36 r.cells ∧ CB wr g 29 (bcells ow.1) ∧ Below w.heap.size w wr
theorem upto_succ {f : Nat → Bool} {n : Nat} (h : ∀ j, j < n → f j = false) (hn : f n = false) : ∀ j, j < n + 1 → f j = false := fun j hj => by
  by_cases e : j = n
  · subst e; exact hn
  · exact h j (by omega)
theorem found_no {d : Dg} {T S : Nat} {p : Opn} (h : ∀ j, j < p.path.length + 1 → tryB d T S p j = false) : foundB d T S p = false := by
  unfold foundB
  rw [List.any_eq_false]
  intro j hj
  rw [h j (List.mem_range.1 hj)]; simp
theorem found_yes {d : Dg} {T S j : Nat} {p : Opn} (hj : j < p.path.length + 1) (h : tryB d T S p j = true) : foundB d T S p = true := by
  unfold foundB
  rw [List.any_eq_true]
  exact ⟨j, List.mem_range.2 hj, h⟩
theorem try_no {d : Dg} {T S n : Nat} {p : Opn} (h : fitsB S p.slot.toNat (p.path.take n) = false) : tryB d T S p n = false := by unfold tryB; rw [h]; rfl
theorem try_none {d x : Dg} {T S n k : Nat} {p : Opn} (hk : p.slot.toNat = k) (hx : riseD (ownD p) S k (p.path.take n) = x) (h : ∀ j, j < T → hitB d T x (p.path.drop n) j = false) : tryB d T S p n = false := by
  unfold tryB
  rw [hk, hx]
  have : (List.range T).any (hitB d T x (p.path.drop n)) = false := by
    rw [List.any_eq_false]
    intro j hj
    rw [h j (List.mem_range.1 hj)]; simp
  rw [this, Bool.and_false]
theorem try_yes {d x : Dg} {T S n k a : Nat} {p : Opn} (hk : p.slot.toNat = k) (hf : fitsB S k (p.path.take n) = true) (hx : riseD (ownD p) S k (p.path.take n) = x) (ha : a < T) (h : hitB d T x (p.path.drop n) a = true) : tryB d T S p n = true := by
  unfold tryB
  rw [hk, hx, hf, Bool.true_and, List.any_eq_true]
  exact ⟨a, List.mem_range.2 ha, h⟩
theorem climb_fit {d : Dg} {n a : Nat} {p : List Dg} (h : fitsB n a p = true) : climbD d n a p = riseD d n a p ∧ climbE n a p = 0 := by
  rw [fits_iff] at h
  unfold climbD climbE; rw [if_pos h, if_pos h]; exact ⟨rfl, rfl⟩
theorem climb_unfit {n a : Nat} {p : List Dg} (h : fitsB n a p = false) : climbE n a p = 1 := by
  have h2 : ¬ p.length = (firsts n a).length := fun e => by rw [fits_iff.2 e] at h; cases h
  unfold climbE; rw [if_neg h2]
set_option maxRecDepth 100000 in
set_option maxHeartbeats 8000000 in
theorem verify_main (d : Dg) (air0 : Int) (T S k : Nat) (p : Opn) (r : Ob) (w : World) (hr : OpR w p r) (hp : preV air0 T S p = true) (hk : p.slot = (k : Int)) (hl : p.path.length ≤ 64) (hLd : Laid w) :
    Calls Tryd.prog 18 #[dv d.1, .int .i64 air0, .int .i64 (T : Int), .int .i64 (S : Int), r.v] w (VerPost d air0 T S p w) := by
  have hfd : verE d air0 T S p = if foundB d T S p = true then 0 else 360 := by
    unfold verE verB; rw [hp, Bool.true_and, Int.toNat_natCast, Int.toNat_natCast]
  have HYes : Hid (foundB d T S p = true → ∀ w', Below w.heap.size w w' → VerPost d air0 T S p w (.returned (.int .i64 0)) w') := fun h w' hb => ⟨by rw [hfd, if_pos h], hb⟩
  have HNo : Hid (foundB d T S p = false → ∀ w', Below w.heap.size w w' → VerPost d air0 T S p w (.returned (.int .i64 360)) w') := fun h w' hb => ⟨by rw [hfd, if_neg (by rw [h]; simp)], hb⟩
  have hb1 : Below w.heap.size w ((w.alloc (bD d)).alloc (bO r)) := (b_al (w := w) (bD d)).alloc (b_al (w := w) (bD d)).size _
  have hc0 : CB ((w.alloc (bD d)).alloc (bO r)) (w.heap.size + 1) 36 r.cells := by
    have := cb_one (w.alloc (bD d)) (bO r) 36 r.cells rfl
    rwa [World.size_alloc] at this
  have hd0 : CB ((w.alloc (bD d)).alloc (bO r)) w.heap.size 29 (bcells d.1) := (cb_one w (bD d) _ _ rfl).alloc _
  obtain ⟨p1, p2, p3, p4, p5, p6, p7, p8, p9⟩ := pre_parts hp
  have HPt := Lib.hid hr.path
  have h64 : Hid (p.path.length ≤ 64) := hl
  have hd32 := Lib.hid d.2
  have HLd := Lib.hid (hLd.ext hb1)
  have HLw := Lib.hid hLd
  have hki : Hid (p.slot.toNat = k) := by show _ = _; omega
  have hkS : k < S := by omega
  have hIx : ∀ y ∈ [p.air, p.fl, p.slot, p.cost], I64 y := by
    unfold knownB at p6
    unfold costB at p9
    simp only [Bool.and_eq_true, decide_eq_true_eq] at p6 p9
    intro y hy
    simp only [List.mem_cons, List.not_mem_nil, or_false] at hy
    unfold I64
    rcases hy with rfl | rfl | rfl | rfl <;> omega
  obtain ⟨c0, c1, c2, c3, q4, c5⟩ := ob_cell hc0
  obtain ⟨e1, e2, e3, e4, e5, -⟩ := hr
  rw [e1] at c0; rw [e2] at c1; rw [e3] at c2; rw [e4] at c3; rw [e5] at q4
  obtain ⟨po, pn, pc, hpv⟩ : ∃ a b c, r.pv = .slice a b c := ⟨_, _, _, rfl⟩
  rw [hpv] at c5 HPt
  have HPV := Lib.hid hpv; have HE3 := Lib.hid (e3.trans hk)
  obtain ⟨P, hP⟩ : ∃ P, P = p := ⟨_, rfl⟩
  have HPp := Lib.hid hP
  have hown : Hid (leafX p.salt [p.air, p.fl, p.slot, p.cost] = ownD P) := by show _ = _; rw [hP]; rfl
  rw [← hP] at HYes HNo hki
  have hPP := Lib.hid (congrArg Opn.path hP)
  obtain ⟨ra, rf, ps, rc, sl, pp⟩ := p
  change ps = (k : Int) at hk
  subst hk
  change Hid (LsAt digK w.heap.size w pp (.slice po pn pc)) at HPt
  obtain ⟨hpn, hcp, hmx⟩ : pn = pp.length ∧ pp.length ≤ pc ∧ (pp.length : Int) ≤ 9223372036854775807 := by
    obtain ⟨_, _, he, h1, h2⟩ := HPt.out.shape2
    injection he with _ a2 a3
    subst a2 a3
    exact ⟨rfl, h1, by omega⟩
  subst hpn
  change ra = air0 at p5
  have t0 : decide ((T : Int) < 1) = false := decide_eq_false (by omega)
  have t0' : decide (T = 0) = false := decide_eq_false (by omega)
  have t1 : decide (8 < (T : Int)) = false := decide_eq_false (by omega)
  have t1' : decide (8 < T) = false := decide_eq_false (by omega)
  have t2 : decide ((S : Int) < 1) = false := decide_eq_false (by omega)
  have t2' : decide (S = 0) = false := decide_eq_false (by omega)
  have t3 : decide (8 < (S : Int)) = false := decide_eq_false (by omega)
  have t3' : decide (8 < S) = false := decide_eq_false (by omega)
  subst p5
  have T5 : Hid (knownB ra rf = true) := p6
  have t6 : decide ((k : Int) < 0) = false := decide_eq_false (by omega)
  have t7 : decide ((S : Int) ≤ (k : Int)) = false := decide_eq_false (by omega)
  have t7' : decide (S ≤ k) = false := decide_eq_false (by omega)
  have T8 : Hid (costB rc = true) := p9
  have HT8 : Hid (T ≤ 8) := by show _ ≤ _; omega
  have HS8 : Hid (S ≤ 8) := by show _ ≤ _; omega
  have HkS := Lib.hid hkS
  have HQ4 : Hid (((w.alloc (bD d)).alloc (bO r)).rangeAt (w.heap.size + 1) 4 (bcells sl.1)) := q4
  have Hsl : Hid (sl.1.length = 32) := sl.2
  change Hid (pp.length ≤ 64) at h64
  have bp : (pp.length : Int) ≤ 64 := by have := h64.out; omega
  have hcp' : (pp.length : Int) ≤ (pc : Int) := by omega
  have HB0 := Lib.hid hb1; have HD0 := Lib.hid hd0; have HC0 := Lib.hid hc0
  change ∀ y ∈ [ra, rf, (k : Int), rc], I64 y at hIx
  have HIx := Lib.hid hIx
  clear hfd hb1 hc0 hd0 hp hLd p1 p2 p3 p4 p6 p7 p8 p9 hkS hIx q4 hl hP hmx e1 e2 e3 e4 e5 hpv
  change Calls Tryd.prog 18 #[.agg (bcells d.1).toArray, _, _, _, .agg r.cells.toArray] w _
  have HRc : Hid (∀ (W : World) (g : Nat), CB W g 36 r.cells → W.cell? ⟨g, 2, none⟩ = some (.int .i64 (k : Int)) ∧ W.cell? ⟨g, 36, none⟩ = some (.slice po pp.length pc)) := fun W g h => by
    obtain ⟨-, -, h2, -, -, h5⟩ := ob_cell h
    rw [HE3.out] at h2; rw [HPV.out] at h5
    exact ⟨h2, h5⟩
  go_enter Tryd.func18, Tryd.ntmps18
  go_upto_region 1 with fail
  change Code.wp _ _ _ _ ((w.alloc (bD d)).alloc (bO r))
  generalize (w.alloc (bD d)).alloc (bO r) = w0 at *
  go_upto_region 3 with (first
    | (go_at_call 27; refine (known_any _ _ _).mono ?_; rw [T5.out]; rintro e w' ⟨rfl, rfl⟩)
    | (go_at_call 30; refine (cost_any _ _).mono ?_; rw [T8.out]; rintro e w' ⟨rfl, rfl⟩))
  have hb4 := b_al (w := w0) (.cells #[.int .i64 ra, .int .i64 rf, .int .i64 (k : Int), .int .i64 rc] 3)
  have hcb : CB (w0.alloc (.cells #[.int .i64 ra, .int .i64 rf, .int .i64 (k : Int), .int .i64 rc] 3)) w0.heap.size 3 (nuK.flat [ra, rf, (k : Int), rc]) := cb_one w0 _ _ _ rfl
  have hcl := Lib.hid (cleaf_any sl [ra, rf, (k : Int), rc] (.slice (some ⟨w0.heap.size, 0, none⟩) 4 4) _ (ls_block 4 hcb rfl (by unfold maxLen; omega)) HIx.out (by simp) (HLd.out.ext hb4))
  rw [show leafX sl [ra, rf, (k : Int), rc] = ownD P from hown.out] at hcl
  obtain ⟨ow, how⟩ : ∃ x, ownD P = x := ⟨_, rfl⟩
  rw [how] at hcl
  have How := Lib.hid how
  have HowL := Lib.hid ow.2
  have HB1 := Lib.hid (below_ext HB0.out hb4); have HD1 := Lib.hid (HD0.out.ext hb4); have HC1 := Lib.hid (HC0.out.ext hb4)
  have HLd1 := Lib.hid (HLd.out.ext hb4)
  clear hb4 hcb how HB0 HD0 HC0
  go_upto_region 4 with (first
    | (with_reducible refine wpList_load_mid rfl 29 (.tmp 65) rfl (w.heap.size + 1) 4 rfl (bcells sl.1) _ HQ4.out Tryd.underlying29 rfl (by rw [bcells_length, Hsl.out]; exact dig_sz) ?_)
    | (go_at_call 42; refine hcl.out.mono ?_; go_loud (
        rintro e w2 ⟨rfl, hb2⟩
        have HB2 := Lib.hid (below_ext HB1.out hb2); have HD2 := Lib.hid (HD1.out.ext hb2); have HC2 := Lib.hid (HC1.out.ext hb2); have HLd2 := Lib.hid (HLd1.out.ext hb2)
        have HZ : Hid ((w2.alloc ZD).heap[w2.heap.size]? = some (.cells (bcells dgZ.1).toArray 29 (0, 0))) := cb_one w2 ZD _ _ rfl
        clear hb2 HB1 HD1 HC1 HLd1 hcl c0 c1 c2 c3 c5))
    | ((refine wpList_store_d (hgd := rfl) 29 (.tmp 11) (.tmp 76) rfl w2.heap.size ow.1 HowL.out rfl rfl 29 _ HZ.out rfl dig_sz ?_); go_loud (
        intro w3 hc3 hg3 hz3
        have hb3 : Below w2.heap.size w2 w3 := (b_al (w := w2) ZD).grown hg3.out (by rw [World.size_alloc]; omega) (fun k hk => by injection hk; omega)
        have HB3 := Lib.hid (below_ext HB2.out hb3); have HD3 := Lib.hid (HD2.out.ext hb3); have HC3 := Lib.hid (HC2.out.ext hb3); have HLd3 := Lib.hid (HLd2.out.ext hb3)
        have hg0 : w.heap.size + 1 < w2.heap.size := HC2.out.lt
        clear hb3 hg3 hz3 HB2 HD2 HC2 HLd2 HZ)))
  generalize w2.heap.size = g at *
  obtain ⟨-, c5⟩ := HRc.out w3 _ HC3.out
  clear HQ4 HIx hown
  go_wp2_with fail
  go_loopw [81] (fun vi wr => VoRel d ow r T S P w g vi wr) (fun vi _ => pp.length + 1 - natOf vi)
  case atStart => exact ⟨⟨0, rfl, by omega, fun j h => by omega, HD3.out, HC3.out, hc3.out, HB3.out⟩⟩
  case round =>
    obtain ⟨n, rfl, hn, htr, hd, hc, ho, hb⟩ := hrel.h
    have hn : n ≤ pp.length + 1 := by have := hPP.out; rw [this] at hn; exact hn
    have HTr := Lib.hid htr; have HDr := Lib.hid hd; have HCr := Lib.hid hc; have HOr := Lib.hid ho; have HBr := Lib.hid hb
    clear hrel htr hd hc ho hb HB3 HD3 HC3 hc3 c5
    by_cases hlt : n < pp.length + 1
    case neg =>
      obtain rfl : n = pp.length + 1 := by omega
      have t9 : decide (((pp.length + 1 : Nat) : Int) < (pp.length : Int) + 1) = false := decide_eq_false (by omega)
      have t9' : decide ((pp.length : Int) + 1 < (pp.length : Int) + 1) = false := decide_eq_false (by omega)
      have hf := Lib.hid (found_no (d := d) (T := T) (S := S) (p := P) (fun j hj => HTr.out j (by have := hPP.out; rw [this] at hj; exact hj)))
      clear hlt hn
      go_wp2_with fail
      go_ret
      have hend := HNo.out hf.out _ HBr.out
      rw [HPp.out] at hend
      exact hend
    case pos =>
    have hnp : n ≤ pp.length := by omega
    have t9 : decide ((n : Int) < (pp.length : Int) + 1) = true := decide_eq_true (by omega)
    have t9' : decide (n < pp.length + 1) = true := decide_eq_true hlt
    have n1 : (n : Int) ≤ (pp.length : Int) := by omega
    have n2 : (n : Int) ≤ (pc : Int) := by omega
    have n3 : n ≤ pc := by omega
    obtain ⟨c2, c5⟩ := HRc.out wr _ HCr.out
    have Hlt := Lib.hid hlt; have Hnp := Lib.hid hnp
    clear hlt hn
    go_upto_region 7 with fail
    go_quiet (fail)
    obtain ⟨o2, ho2⟩ : ∃ o2, (if pc = n then po else Option.map (fun x => x.add (n * 32)) po) = o2 := ⟨_, rfl⟩
    rw [ho2]
    have HF1 : Hid (LsAt digK w.heap.size w (pp.take n) (.slice po n n)) := HPt.out.takeG hnp (by have := h64.out; unfold maxLen; omega)
    have HF2 : Hid (LsAt digK w.heap.size w (pp.drop n) (.slice o2 (pp.length - n) (pc - n))) := HPt.out.dropG hnp rfl rfl ho2.symm
    have hk1 := below_drewN2 HBr.out nq
    have KB := Lib.hid hk1
    have KD : Hid (CB (wr.drewN nq) w.heap.size 29 (bcells d.1)) := HDr.out
    have KC : Hid (CB (wr.drewN nq) (w.heap.size + 1) 36 r.cells) := HCr.out
    have KO : Hid (CB (wr.drewN nq) g 29 (bcells ow.1)) := HOr.out
    clear HDr HCr HOr HBr hk1 ho2 c2 c5
    generalize wr.drewN nq = w4 at *
    obtain ⟨c2, -⟩ := HRc.out w4 _ KC.out
    have HL4 : Hid (Laid w4) := HLw.out.ext KB.out
    have HCl := Lib.hid (climb_any ow k S (pp.take n) (.slice po n n) w4 (HF1.out.ext KB.out) (by have := HS8.out; omega) HkS.out HL4.out)
    obtain ⟨rest, hrest⟩ : ∃ x, pp.drop n = x := ⟨_, rfl⟩
    rw [hrest] at HF2
    have HRest := Lib.hid hrest
    generalize pp.length - n = m2 at *
    generalize pc - n = m3 at *
    obtain ⟨x, hx⟩ : ∃ x, climbD ow S k (pp.take n) = x := ⟨_, rfl⟩
    rw [hx] at HCl
    have HX := Lib.hid hx
    have HxL := Lib.hid x.2
    clear hrest hx
    by_cases hfit : fitsB S k (pp.take n) = true
    case neg =>
      have hfit' : fitsB S k (pp.take n) = false := by simpa using hfit
      rw [climb_unfit hfit'] at HCl
      have HNt := Lib.hid (try_no (d := d) (T := T) (S := S) (n := n) (p := P) (by rw [hki.out, hPP.out]; exact hfit'))
      clear hfit hfit'
      go_wp2_with (first
        | (with_reducible refine wpList_load_d (hgd := rfl) 29 (.tmp 11) rfl g ow.1 HowL.out rfl 29 _ KO.out Tryd.underlying29 rfl dig_sz ?_)
        | (go_at_call 43; refine HCl.out.mono ?_; go_loud (
            rintro e w5 ⟨rfl, hb5⟩
            have KB5 := Lib.hid (below_ext KB.out hb5); have KD5 := Lib.hid (KD.out.ext hb5); have KC5 := Lib.hid (KC.out.ext hb5); have KO5 := Lib.hid (KO.out.ext hb5)
            have HZ : Hid ((w5.alloc ZD).heap[w5.heap.size]? = some (.cells (bcells dgZ.1).toArray 29 (0, 0))) := cb_one w5 ZD _ _ rfl
            clear hb5 KB KD KC KO HCl HL4 c2))
        | ((refine wpList_store_d (hgd := rfl) 29 (.tmp 15) (.tmp 100) rfl w5.heap.size x.1 HxL.out rfl rfl 29 _ HZ.out rfl dig_sz ?_); go_loud (
            intro w6 hc6 hg6 hz6
            have hb6 : Below w5.heap.size w5 w6 := (b_al (w := w5) ZD).grown hg6.out (by rw [World.size_alloc]; omega) (fun k hk => by injection hk; omega)
            have KB6 := Lib.hid (below_ext KB5.out hb6); have KD6 := Lib.hid (KD5.out.ext hb6); have KC6 := Lib.hid (KC5.out.ext hb6); have KO6 := Lib.hid (KO5.out.ext hb6)
            clear hb6 hg6 hz6 KB5 KD5 KC5 KO5 HZ hc6)))
      go_roundw
      case rel => exact ⟨⟨n + 1, by go_num, by have := hPP.out; rw [this]; have := Hnp.out; show n + 1 ≤ pp.length + 1; omega, upto_succ HTr.out HNt.out, KD6.out, KC6.out, KO6.out, KB6.out⟩⟩
      case measure => simp [natOf]; have := Hnp.out; omega
    case pos =>
    obtain ⟨hf1, hf2⟩ := climb_fit (d := ow) hfit
    rw [hf2] at HCl
    have HX2 : Hid (riseD (ownD P) S P.slot.toNat (P.path.take n) = x) := by show _ = _; rw [hki.out, hPP.out, How.out, ← hf1]; exact HX.out
    have HFit : Hid (fitsB S k (P.path.take n) = true) := by show _ = _; rw [hPP.out]; exact hfit
    clear hf1 hf2 hfit
    go_upto_region 10 with (first
        | (with_reducible refine wpList_load_d (hgd := rfl) 29 (.tmp 11) rfl g ow.1 HowL.out rfl 29 _ KO.out Tryd.underlying29 rfl dig_sz ?_)
        | (go_at_call 43; refine HCl.out.mono ?_; go_loud (
            rintro e w5 ⟨rfl, hb5⟩
            have KB5 := Lib.hid (below_ext KB.out hb5); have KD5 := Lib.hid (KD.out.ext hb5); have KC5 := Lib.hid (KC.out.ext hb5); have KO5 := Lib.hid (KO.out.ext hb5)
            have HZ : Hid ((w5.alloc ZD).heap[w5.heap.size]? = some (.cells (bcells dgZ.1).toArray 29 (0, 0))) := cb_one w5 ZD _ _ rfl
            clear hb5 KB KD KC KO HCl HL4 c2))
        | ((refine wpList_store_d (hgd := rfl) 29 (.tmp 15) (.tmp 100) rfl w5.heap.size x.1 HxL.out rfl rfl 29 _ HZ.out rfl dig_sz ?_); go_loud (
            intro w6 hc6 hg6 hz6
            have hb6 : Below w5.heap.size w5 w6 := (b_al (w := w5) ZD).grown hg6.out (by rw [World.size_alloc]; omega) (fun k hk => by injection hk; omega)
            have KB6 := Lib.hid (below_ext KB5.out hb6); have KD6 := Lib.hid (KD5.out.ext hb6); have KC6 := Lib.hid (KC5.out.ext hb6); have KO6 := Lib.hid (KO5.out.ext hb6)
            have KX6 := Lib.hid hc6.out
            clear hb6 hg6 hz6 KB5 KD5 KC5 KO5 HZ)))
    generalize w5.heap.size = gx at *
    generalize wr = wr0 at *
    go_wp2_with fail
    go_loopw [105] (fun vi wr => ViRel d x ow r T rest w g gx w vi wr) (fun vi _ => T - natOf vi)
    case atStart => exact ⟨⟨0, rfl, by omega, fun j h => by omega, KD6.out, KC6.out, KO6.out, KX6.out, KB6.out⟩⟩
    case round =>
      obtain ⟨a, rfl, ha, hno, hd, hc, ho, hxx, hb⟩ := hrel.h
      have HNoh := Lib.hid hno; have HDr := Lib.hid hd; have HCr := Lib.hid hc; have HOr := Lib.hid ho; have HXr := Lib.hid hxx; have HBr := Lib.hid hb
      clear hrel hno hd hc ho hxx hb KD6 KC6 KO6 KX6 KB6 hc6
      by_cases hat : a < T
      case neg =>
        obtain rfl : a = T := by omega
        have ta : decide ((a : Int) < (a : Int)) = false := by simp
        have HNt : Hid (tryB d a S P n = false) := try_none rfl HX2.out (fun j hj => by rw [hPP.out, show pp.drop n = rest from HRest.out]; exact HNoh.out j hj)
        clear hat ha
        go_wp2_with fail
        go_roundw
        case rel => exact ⟨⟨n + 1, by go_num, by have := hPP.out; rw [this]; have := Hnp.out; show n + 1 ≤ pp.length + 1; omega, upto_succ HTr.out HNt.out, HDr.out, HCr.out, HOr.out, HBr.out⟩⟩
        case measure => simp [natOf]; have := Hnp.out; omega
      case pos =>
      have ta : decide ((a : Int) < (T : Int)) = true := decide_eq_true (by omega)
      have ta' : decide (a < T) = true := decide_eq_true hat
      have ta1 : (a : Int) < (T : Int) := by omega
      have ta2 : (T : Int) ≤ 8 := by have := HT8.out; omega
      have HAT := Lib.hid hat
      have HL4 : Hid (Laid wr) := HLw.out.ext HBr.out
      have HCl := Lib.hid (climb_any x a T rest (.slice o2 m2 m3) wr (HF2.out.ext HBr.out) (by have := HT8.out; omega) hat HL4.out)
      obtain ⟨y, hy⟩ : ∃ y, climbD x T a rest = y := ⟨_, rfl⟩
      rw [hy] at HCl
      have HY := Lib.hid hy
      have HyL := Lib.hid y.2
      have hgd := fun (a1 a2 : Operand) (W : World) => gd_dv .eql a1 a2 y.1 d.1 W
      clear hy hat
      by_cases hft : fitsB T a rest = true
      case neg =>
        have hft' : fitsB T a rest = false := by simpa using hft
        rw [climb_unfit hft'] at HCl
        have HHit : Hid (hitB d T x rest a = false) := by show _ = _; unfold hitB; rw [hft']; rfl
        clear hft hft'
        go_wp2_with (first
          | (with_reducible refine wpList_load_d (hgd := rfl) 29 (.tmp 15) rfl gx x.1 HxL.out rfl 29 _ HXr.out Tryd.underlying29 rfl dig_sz ?_)
          | (go_at_call 43; refine HCl.out.mono ?_; go_loud (
              rintro e w7 ⟨rfl, hb7⟩
              have KB7 := Lib.hid (below_ext HBr.out hb7); have KD7 := Lib.hid (HDr.out.ext hb7); have KC7 := Lib.hid (HCr.out.ext hb7); have KO7 := Lib.hid (HOr.out.ext hb7); have KX7 := Lib.hid (HXr.out.ext hb7)
              have HZ : Hid ((w7.alloc ZD).heap[w7.heap.size]? = some (.cells (bcells dgZ.1).toArray 29 (0, 0))) := cb_one w7 ZD _ _ rfl
              clear hb7 HBr HDr HCr HOr HXr HCl HL4))
          | ((refine wpList_store_d (hgd := rfl) 29 (.tmp 18) (.tmp 114) rfl w7.heap.size y.1 HyL.out rfl rfl 29 _ HZ.out rfl dig_sz ?_); go_loud (
              intro w8 hc8 hg8 hz8
              have hb8 : Below w7.heap.size w7 w8 := (b_al (w := w7) ZD).grown hg8.out (by rw [World.size_alloc]; omega) (fun k hk => by injection hk; omega)
              have KB8 := Lib.hid (below_ext KB7.out hb8); have KD8 := Lib.hid (KD7.out.ext hb8); have KC8 := Lib.hid (KC7.out.ext hb8); have KO8 := Lib.hid (KO7.out.ext hb8); have KX8 := Lib.hid (KX7.out.ext hb8)
              clear hb8 hg8 hz8 KB7 KD7 KC7 KO7 KX7 HZ hc8)))
        go_roundw
        case rel => exact ⟨⟨a + 1, by go_num, by have := HAT.out; omega, upto_succ HNoh.out HHit.out, KD8.out, KC8.out, KO8.out, KX8.out, KB8.out⟩⟩
        case measure => simp [natOf]; have := HAT.out; omega
      case pos =>
      obtain ⟨hf1, hf2⟩ := climb_fit (d := x) hft
      rw [hf2] at HCl
      have HR2 : Hid (riseD x T a rest = y) := by show _ = _; rw [← hf1]; exact HY.out
      have HFt := Lib.hid hft
      clear hf1 hf2 hft
      by_cases hyd : y = d
      · have heq : ∀ W, (binOp .eql 29 (dv y.1) (dv d.1)).run Tryd.prog W = .ok (.bool true) W := fun W => by rw [eql_dv _ _ HyL.out hd32.out, decide_eq_true (congrArg Subtype.val hyd)]
        have HFound : Hid (foundB d T S P = true) := by
          refine found_yes (j := n) (by rw [hPP.out]; have := Hnp.out; show n < pp.length + 1; omega) (try_yes rfl (by rw [hki.out]; exact HFit.out) HX2.out HAT.out ?_)
          rw [hPP.out, show pp.drop n = rest from HRest.out]
          rw [hit_iff]
          exact ⟨fits_iff.1 HFt.out, HR2.out.trans hyd⟩
        clear hyd
        go_wp2_with (first
          | (with_reducible refine wpList_load_d (hgd := rfl) 29 (.tmp 15) rfl gx x.1 HxL.out rfl 29 _ HXr.out Tryd.underlying29 rfl dig_sz ?_)
          | (go_at_call 43; refine HCl.out.mono ?_; go_loud (
              rintro e w7 ⟨rfl, hb7⟩
              have KB7 := Lib.hid (below_ext HBr.out hb7); have KD7 := Lib.hid (HDr.out.ext hb7)
              have HZ : Hid ((w7.alloc ZD).heap[w7.heap.size]? = some (.cells (bcells dgZ.1).toArray 29 (0, 0))) := cb_one w7 ZD _ _ rfl
              clear hb7 HBr HDr HCr HOr HXr HCl HL4))
          | ((refine wpList_store_d (hgd := rfl) 29 (.tmp 18) (.tmp 114) rfl w7.heap.size y.1 HyL.out rfl rfl 29 _ HZ.out rfl dig_sz ?_); go_loud (
              intro w8 hc8 hg8 hz8
              have hb8 : Below w7.heap.size w7 w8 := (b_al (w := w7) ZD).grown hg8.out (by rw [World.size_alloc]; omega) (fun k hk => by injection hk; omega)
              have KB8 := Lib.hid (below_ext KB7.out hb8); have KD8 := Lib.hid (KD7.out.ext hb8)
              clear hb8 hg8 hz8 KB7 KD7 HZ))
          | (refine wpList_load_dg (by rfl) 29 (.tmp 18) rfl w7.heap.size y.1 HyL.out rfl 29 _ hc8.out Tryd.underlying29 rfl dig_sz ?_)
          | (refine wpList_load_dg (by rfl) 29 (.tmp 5) rfl w.heap.size d.1 hd32.out rfl 29 _ KD8.out Tryd.underlying29 rfl dig_sz ?_))
        go_ret
        have hend := HYes.out HFound.out _ KB8.out
        rw [HPp.out] at hend
        exact hend
      · have heq : ∀ W, (binOp .eql 29 (dv y.1) (dv d.1)).run Tryd.prog W = .ok (.bool false) W := fun W => by rw [eql_dv _ _ HyL.out hd32.out, decide_eq_false (fun e => hyd (Subtype.ext e))]
        have HHit : Hid (hitB d T x rest a = false) := by show _ = _; unfold hitB; rw [HR2.out, decide_eq_false hyd, Bool.and_false]
        clear hyd
        go_wp2_with (first
          | (with_reducible refine wpList_load_d (hgd := rfl) 29 (.tmp 15) rfl gx x.1 HxL.out rfl 29 _ HXr.out Tryd.underlying29 rfl dig_sz ?_)
          | (go_at_call 43; refine HCl.out.mono ?_; go_loud (
              rintro e w7 ⟨rfl, hb7⟩
              have KB7 := Lib.hid (below_ext HBr.out hb7); have KD7 := Lib.hid (HDr.out.ext hb7); have KC7 := Lib.hid (HCr.out.ext hb7); have KO7 := Lib.hid (HOr.out.ext hb7); have KX7 := Lib.hid (HXr.out.ext hb7)
              have HZ : Hid ((w7.alloc ZD).heap[w7.heap.size]? = some (.cells (bcells dgZ.1).toArray 29 (0, 0))) := cb_one w7 ZD _ _ rfl
              clear hb7 HBr HDr HCr HOr HXr HCl HL4))
          | ((refine wpList_store_d (hgd := rfl) 29 (.tmp 18) (.tmp 114) rfl w7.heap.size y.1 HyL.out rfl rfl 29 _ HZ.out rfl dig_sz ?_); go_loud (
              intro w8 hc8 hg8 hz8
              have hb8 : Below w7.heap.size w7 w8 := (b_al (w := w7) ZD).grown hg8.out (by rw [World.size_alloc]; omega) (fun k hk => by injection hk; omega)
              have KB8 := Lib.hid (below_ext KB7.out hb8); have KD8 := Lib.hid (KD7.out.ext hb8); have KC8 := Lib.hid (KC7.out.ext hb8); have KO8 := Lib.hid (KO7.out.ext hb8); have KX8 := Lib.hid (KX7.out.ext hb8)
              clear hb8 hg8 hz8 KB7 KD7 KC7 KO7 KX7 HZ))
          | (refine wpList_load_dg (by rfl) 29 (.tmp 18) rfl w7.heap.size y.1 HyL.out rfl 29 _ hc8.out Tryd.underlying29 rfl dig_sz ?_)
          | (refine wpList_load_dg (by rfl) 29 (.tmp 5) rfl w.heap.size d.1 hd32.out rfl 29 _ KD8.out Tryd.underlying29 rfl dig_sz ?_))
        go_roundw
        case rel => exact ⟨⟨a + 1, by go_num, by have := HAT.out; omega, upto_succ HNoh.out HHit.out, KD8.out, KC8.out, KO8.out, KX8.out, KB8.out⟩⟩
        case measure => simp [natOf]; have := HAT.out; omega
end Go.Proofs.YtbonebmboolemaaDoor
/- commitment.digests. -/
namespace Go.Proofs.YtbonebmboolemaaDoor
open Go.RowKit
set_option maxRecDepth 100000 in
set_option maxHeartbeats 4000000 in
theorem digests_any (l : List Tab) (v : Value) (w : World) (hl : TabsAt w l v) (hi : ∀ t ∈ l, TabI t) (h64 : l.length ≤ 64) (hLd : Laid w) :
    Calls Tryd.prog 32 #[v] w fun e w' => ∃ v, e = .returned v ∧ OwnK digK 29 w' w.heap.size v (digestsT l) ∧ Below w.heap.size w w' := by
  have HL := Lib.hid hl; have HI := Lib.hid hi; have HLd := Lib.hid hLd
  obtain ⟨oa, cap, rfl, hlc, hlm⟩ := hl.shape
  have bl : (l.length : Int) ≤ 64 := by omega
  clear hl hi hlc hlm hLd
  go_enter Tryd.func32, Tryd.ntmps32
  go_wp2_with fail
  go_loopw [2, 7] (fun vl vi wr => DgRel l w vl vi wr) (fun _ vi _ => l.length - natOf vi)
  case atStart => exact ⟨⟨0, by omega, rfl, OwnK.nil _ _ _, Below.refl _ _⟩⟩
  case round =>
    obtain ⟨k, hk, rfl, ho, hb⟩ := hrel.h
    have HP := Lib.hid ho; have HBr := Lib.hid hb
    obtain ⟨op, cp, rfl, _⟩ := ho.rd.shape
    clear hrel ho hb
    by_cases hlt : k < l.length
    case neg =>
      obtain rfl : k = l.length := by omega
      have tj : decide ((l.length : Int) < (l.length : Int)) = false := by simp
      have hall : Hid ((digestsT l).take l.length = digestsT l) := by show _ = _; rw [List.take_of_length_le (by rw [digestsT_len]; exact Nat.le_refl _)]
      go_wp2_with fail
      go_ret
      exact ⟨_, rfl, by have := HP.out; rw [hall.out] at this; exact (by simpa [hall.out] using this), HBr.out⟩
    case pos =>
    have tj : decide ((k : Int) < (l.length : Int)) = true := by simp; omega
    have tj' : decide (k < l.length) = true := by simp; omega
    have kb : (k : Int) < (l.length : Int) := by omega
    obtain ⟨t, ht⟩ : ∃ t, l[k]? = some t := ⟨_, List.getElem?_eq_getElem hlt⟩
    obtain ⟨b, off, r, rfl, _, hel, hr⟩ := (HL.out.ext HBr.out).el ht
    have hti : TabI t := HI.out t (by obtain ⟨q1, q2⟩ := List.getElem?_eq_some_iff.1 ht; rw [← q2]; exact List.getElem_mem q1)
    have Hyr := Lib.hid (el_rng hel)
    have HR := Lib.hid hr; have HTI := Lib.hid hti
    have HLr := Lib.hid (HLd.out.ext HBr.out)
    have hlen : (leavesT t).length ≤ 64 := by rw [leavesT_len]; exact hti.few
    have Hlen := Lib.hid hlen
    have hts := Lib.hid (take_snocI (digestsT_at ht))
    obtain ⟨p, hp⟩ : ∃ p, (digestsT l).take k = p := ⟨_, rfl⟩
    have hpl : p.length ≤ 64 := by rw [← hp, List.length_take]; omega
    rw [hp] at HP hts
    have Hpl := Lib.hid hpl
    rw [hp]
    have HLv := Lib.hid (fun W (hW : Below wr.heap.size wr W) => listed_any t r W (hr.ext hW) hti (HLr.out.ext hW))
    obtain ⟨q, hq⟩ : ∃ q, leavesT t = q := ⟨_, rfl⟩
    rw [hq] at HLv Hlen hts
    obtain ⟨x, hx⟩ : ∃ x, treeD q = x := ⟨_, rfl⟩
    rw [hx] at hts
    have HX := Lib.hid hx
    have HZ : Hid ((wr.alloc ZT).heap[wr.heap.size]? = some (.cells (Tb.cells ⟨0, 0, none, 0, 0, dgZ⟩).toArray 31 (0, 0))) := cb_one wr ZT _ _ rfl
    clear ht hel hr hti hlen hp hpl hq hx
    go_wp2_with (first
      | (with_reducible refine wpList_load_mid rfl 31 (.tmp 9) rfl b (off + k * 35) rfl r.cells _ Hyr.out Tryd.underlying31 rfl (by rw [tb_len]; exact tb_sz) ?_)
      | ((refine wpList_store_tb (hgd := rfl) 31 (.tmp 4) (.tmp 10) rfl wr.heap.size r rfl rfl 31 _ HZ.out rfl tb_sz ?_); go_loud (
          intro w1 hc1 hg1 hz1
          have hb1 : Below wr.heap.size wr w1 := (b_al (w := wr) ZT).grown hg1.out (by rw [World.size_alloc]; omega) (fun k hk => by injection hk; omega)
          have HLv1 := Lib.hid (HLv.out w1 hb1)
          have HB1 := Lib.hid (below_ext HBr.out hb1); have HP1 := Lib.hid (HP.out.ext hb1)
          have HL1 := Lib.hid (HLr.out.ext hb1)
          clear hb1 HBr HP HLv hg1 hz1 HLr HZ))
      | (with_reducible refine wpList_load_tb (hgd := rfl) 31 (.tmp 4) rfl wr.heap.size r rfl 31 _ hc1.out Tryd.underlying31 rfl tb_sz ?_)
      | (go_at_call 37; refine HLv1.out.mono ?_; go_loud (
          rintro e w2 ⟨v2, rfl, ho2, hb2⟩
          have HT2 := Lib.hid (tree_is (w := w2) Hlen.out ho2.rd (HL1.out.ext hb2))
          have HB2 := Lib.hid (below_ext HB1.out hb2); have HP2 := Lib.hid (HP1.out.ext hb2)
          clear ho2 hb2 HB1 HP1 HLv1 HL1))
      | (go_at_call 25; refine HT2.out.mono ?_; go_loud (
          rintro e w3 ⟨rfl, hb3⟩
          rw [HX.out]
          have HB3 := Lib.hid (below_ext HB2.out hb3); have HP3 := Lib.hid (HP2.out.ext hb3)
          clear hb3 HB2 HP2 HT2))
      | ((with_reducible refine wpList_bs rfl (.tmp 14) rfl x rfl ?_); go_loud (
          have KX : Hid (Src Tryd.prog 32 34 (.slice (some ⟨w3.heap.size, 0, none⟩) 1 1) 1 (digK.flat [x]) (w3.alloc (bD x))) := src_el (K := digK) (a := x) Tryd.underlying34 (cb_one w3 _ _ _ rfl)
          have KP3 := Lib.hid (HP3.out.alloc (bD x)); have KB3 := Lib.hid (below_ext HB3.out (b_al (bD x)))
          clear HB3 HP3))
      | (at_builtin; go_loud (
          refine wpList_append_x (e := 29) (z := .agg (bcells dgZ.1).toArray) (size := 32) (bytes := 32) Tryd.underlying34 dig_info2 rfl rfl (.tmp 11) (.tmp 15) rfl w.heap.size _ p.length (digK.flat p) rfl KP3.out _ 1 (digK.flat [x]) rfl KX.out (by have := Hpl.out; unfold maxLen; omega) (by have := Hpl.out; omega) KB3.out.size ?_
          intro v4 w4 ho4 hg4 hn4
          have KP4 : Hid (OwnK digK 29 w4 w.heap.size v4 (p ++ [x])) := OwnK.append (K := digK) ho4 (by simp)
          have KB4 := Lib.hid (below_ownK KB3.out KP3.out hg4 (Nat.le_refl _))
          clear ho4 hg4 hn4 KX KP3 KB3)))
    go_roundw
    case rel => exact ⟨⟨k + 1, by omega, by go_num, by rw [hts.out]; exact KP4.out, KB4.out⟩⟩
    case measure => simp [natOf]; omega
set_option maxRecDepth 100000 in
set_option maxHeartbeats 2000000 in
theorem commit_any (l : List Tab) (v : Value) (w : World) (hl : TabsAt w l v) (hLd : Laid w) :
    Calls Tryd.prog 13 #[v] w fun e w' => e = .returned (.tuple #[dv (commitD l).1, .int .i64 (commitE l)]) ∧ Below w.heap.size w w' := by
  have HB := Lib.hid (b_al (w := w) ZD)
  have H2 : Hid (CB (w.alloc ZD) w.heap.size 29 (bcells dgZ.1)) := cb_one w _ _ _ rfl
  have HV := Lib.hid (valid_any l v _ (hl.ext HB.out))
  have HD := Lib.hid (fun (h : validT l = true) W (hW : Below w.heap.size w W) => digests_any l v W (hl.ext hW) (valid_tabI h) (by have := valid_len h; omega) (hLd.ext hW))
  have HLd := Lib.hid (hLd.ext HB.out)
  have hrl := (commitD l).2
  obtain ⟨r, hr⟩ : ∃ r, commitD l = r := ⟨_, rfl⟩
  obtain ⟨z, hz⟩ : ∃ z, commitE l = z := ⟨_, rfl⟩
  rw [hr] at hrl ⊢
  rw [hz]
  have Hr := Lib.hid hr; have Hz := Lib.hid hz; have Hrl := Lib.hid hrl
  obtain ⟨oa, cap, rfl, _⟩ := hl.shape
  clear hl hr hz hrl hLd
  by_cases hv : validT l = true
  · have HD2 := Lib.hid (HD.out hv)
    have hlen : (digestsT l).length ≤ 64 := by rw [digestsT_len]; have := valid_len hv; omega
    have Hlen := Lib.hid hlen
    have hr2 : treeD (digestsT l) = r := by have := Hr.out; unfold commitD at this; rw [if_pos hv] at this; exact this
    have hz2 : z = 0 := by have := Hz.out; unfold commitE at this; rw [if_pos hv] at this; exact this.symm
    subst hz2
    have Hr2 := Lib.hid hr2
    rw [hv] at HV
    clear HD hlen hr2 hv Hr Hz
    go_enter Tryd.func13, Tryd.ntmps13
    go_upto_region 1 with fail
    change Code.wp _ _ _ _ (w.alloc ZD)
    generalize w.alloc ZD = w0 at *
    go_wp2_with (first
      | (go_at_call 31; refine HV.out.mono ?_; go_loud (
          rintro e w2 ⟨rfl, hb2⟩
          have HB2 := Lib.hid (below_ext HB.out hb2); have H22 := Lib.hid (H2.out.ext hb2)
          have HDD := Lib.hid (HD2.out w2 HB2.out)
          have HL2 := Lib.hid (HLd.out.ext hb2)
          clear hb2 HB H2 HLd))
      | (go_at_call 32; refine HDD.out.mono ?_; go_loud (
          rintro e w3 ⟨v3, rfl, ho3, hb3⟩
          have HB3 := Lib.hid (below_ext HB2.out hb3); have H23 := Lib.hid (H22.out.ext hb3)
          have HT := Lib.hid (tree_is (w := w3) Hlen.out ho3.rd (HL2.out.ext hb3))
          clear hb3 ho3 HB2 H22 HDD HL2))
      | (go_at_call 25; refine HT.out.mono ?_; go_loud (
          rintro e w4 ⟨rfl, hb4⟩
          rw [Hr2.out]
          have HB4 := Lib.hid (below_ext HB3.out hb4)
          have HX : Hid (w4.heap[w.heap.size]? = some (.cells (bcells dgZ.1).toArray 29 (0, 0))) := H23.out.ext hb4
          clear hb4 HB3 H23 HT))
      | (with_reducible refine wpList_store_d (hgd := rfl) 29 (.tmp 2) (.tmp 10) rfl w.heap.size r.1 Hrl.out rfl rfl 29 _ HX.out rfl dig_sz ?_; intro w7 hc7 hg7 hz7))
    refine bodyPost_ret (v := .tuple #[dv r.1, .int .i64 0]) (results_row2 rfl _ _ w.heap.size 29 (bcells r.1).toArray (0, 0) _ (.int .i64 0) rfl rfl hc7.out Tryd.underlying29 rfl (by rw [List.size_toArray, bcells_length, Hrl.out]; exact dig_sz)) rfl ?_
    exact ⟨rfl, HB4.out.grown hg7.out HB4.out.size (fun k hk => by injection hk; omega)⟩
  · have hv' : validT l = false := by simpa using hv
    have hr2 : r = dgZ := by have := Hr.out; unfold commitD at this; rw [if_neg hv] at this; exact this.symm
    have hz2 : z = 360 := by have := Hz.out; unfold commitE at this; rw [if_neg hv] at this; exact this.symm
    subst hz2 hr2
    rw [hv'] at HV
    have Hzl : Hid (dgZ.1.length = 32) := dgZ.2
    clear HD hv hv' Hr Hz Hrl HLd
    go_enter Tryd.func13, Tryd.ntmps13
    go_upto_region 1 with fail
    change Code.wp _ _ _ _ (w.alloc ZD)
    generalize w.alloc ZD = w0 at *
    go_upto_region 2 with (go_at_call 31; refine HV.out.mono ?_; go_loud (
          rintro e w2 ⟨rfl, hb2⟩
          have HB2 := Lib.hid (below_ext HB.out hb2)
          have HX : Hid (w2.heap[w.heap.size]? = some (.cells (bcells dgZ.1).toArray 29 (0, 0))) := H2.out.ext hb2
          have HX2 : Hid (CB w2 w.heap.size 29 (bcells dgZ.1)) := HX.out
          clear hb2 HB H2))
    go_wp2_with (first
      | (with_reducible refine wpList_load_d (hgd := rfl) 29 (.tmp 2) rfl w.heap.size dgZ.1 Hzl.out rfl 29 _ HX2.out Tryd.underlying29 rfl dig_sz ?_)
      | (refine wpList_store_d (hgd := rfl) 29 (.tmp 2) (.tmp 7) rfl w.heap.size dgZ.1 Hzl.out rfl rfl 29 _ HX.out rfl dig_sz ?_; intro w7 hc7 hg7 hz7))
    refine bodyPost_ret (v := .tuple #[dv dgZ.1, .int .i64 360]) (results_row2 rfl _ _ w.heap.size 29 (bcells dgZ.1).toArray (0, 0) _ (.int .i64 360) rfl rfl hc7.out Tryd.underlying29 rfl (by rw [List.size_toArray, bcells_length, Hzl.out]; exact dig_sz)) rfl ?_
    exact ⟨rfl, HB2.out.grown hg7.out HB2.out.size (fun k hk => by injection hk; omega)⟩
end Go.Proofs.YtbonebmboolemaaDoor
