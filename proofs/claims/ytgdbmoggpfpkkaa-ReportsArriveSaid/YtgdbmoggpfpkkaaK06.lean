/- Merged: Rrj Rrk Lim Lex Cbk Rck Rst Rpl Rcr. -/
import Derived.Test.YtgdbmoggpfpkkaaK01
import Derived.Test.YtgdbmoggpfpkkaaK05
import Derived.Lib.Strings
import Derived.Lib.Slices
import Derived.Lib.Walk
import Derived.Lib.Bytealg
import Derived.Deep.DeepCutAuto
import Derived.Deep.RegionHeld3
import Derived.Deep.QuietTactic
import Derived.BigQuiet
/- the reference's Decode: what is read whole. -/
namespace Go.Proofs.Ytgdbmoggpfpkkaa
open Go.RowKit

theorem decJ_ext {w w' : World} (hb : Below w.heap.size w w') {R T : Nat} {a b c d x y : Value} {v : Value} {l : List UInt8} {B : Nat} (hR1 : w.cell? ⟨R, 1, none⟩ = some x) (hR2 : w.cell? ⟨R, 2, none⟩ = some y) (hc : C4 w T a b c d) (hv : BtsAt B w l v) (hB : B ≤ w.heap.size) :
    w'.cell? ⟨R, 1, none⟩ = some x ∧ w'.cell? ⟨R, 2, none⟩ = some y ∧ w'.cell? ⟨T, 0, none⟩ = some a ∧ w'.cell? ⟨T, 1, none⟩ = some b ∧ w'.cell? ⟨T, 2, none⟩ = some c ∧ w'.cell? ⟨T, 3, none⟩ = some d ∧ (convert 33 9 v).run Try.prog w' = .ok (.string ⟨l.toArray⟩) w' :=
  ⟨cell_ext hb hR1, cell_ext hb hR2, cell_ext hb hc.c0, cell_ext hb hc.c1, cell_ext hb hc.c2, cell_ext hb hc.c3, conv_bts ((hv.keep hB fun _ _ => rfl).ext hb)⟩

set_option maxRecDepth 100000 in
set_option maxHeartbeats 4000000 in
theorem rdecode_some (l : List UInt8) (hl : l.length ≤ 4000) (oa : Option Addr) (cap : Nat) (w : World) (hb : BtsAt w.heap.size w l (.slice oa l.length cap)) (x : V) (hN : rdV 16 l = some (x, [])) :
    Calls Try.prog 39 #[.slice oa l.length cap] w (DecRd (some x) w) := by
  have hdF : decF l = some x := by unfold decF; rw [hN]
  obtain ⟨henc, hck, hok, hsz⟩ := decF_sound hdF (by unfold maxLen; omega)
  have hfm := Lib.hid (ck_ok hck).1
  have hsx : sz x ≤ 60000 := by omega
  have Henc := Lib.hid henc; have Hck := Lib.hid hck
  clear hok hsz henc hck hdF
  have HB := Lib.hid hb; clear hb
  have HN := Lib.hid hN; clear hN
  go_enter Try.func39, Try.ntmps39
  go_wp2_with fail
  refine (rvalue_any 16 (by omega) w.heap.size (w.heap.size + 1) 0 l 0 (by simp) (by omega) _ (refAt_made HB.out) (by simp)).mono ?_
  rw [List.drop_zero, HN.out]
  rintro e w9 ⟨x', v9, q, bad, rfl, hv9, hrd9, hg9, hbad⟩
  obtain ⟨rfl, rfl, hq⟩ := hbad
  obtain rfl : q = l.length := by
    have h1 := hrd9.hp
    have h2 : (l.drop q).length = 0 := by rw [hq]; rfl
    rw [List.length_drop] at h2; omega
  have hs9 := hg9.size
  simp only [World.size_alloc] at hs9
  have hrv : RdV w9.heap.size w9 x' v9 := hv9.rd fun k hk => hk.2
  obtain ⟨xo, xc, rfl, _⟩ := hrv.form
  have hbx := ((BoxAt.made w 57 (.int .i64 0) (.int .i64 0) (.string ⟨#[]⟩) (.slice none 0 0)).grown (R := w.heap.size + 1) (grown_alloc (grown_refl _ _) (.cells #[.slice oa l.length cap, .int .i64 0, .bool false] 94)) (by omega)).grown hg9 (by omega)
  have hgw : w.grownBy w9 (some (w.heap.size + 1)) := grown_trans (grown_alloc (grown_alloc (grown_refl w _) _) _) hg9 (.inl rfl)
  have hV9 := Lib.hid hv9
  have hbw9 : Below w.heap.size w w9 := below_of_grown hgw (by omega)
  have hHX := Lib.hid (hrv.alloc (.cells #[.int .i64 x'.kind, .int .i64 x'.n, .string x'.s, .slice xo x'.l.length xc] 57))
  have hBX := Lib.hid (hbx.grown (R := w.heap.size + 1) (grown_alloc (grown_refl w9 _) (.cells #[.int .i64 x'.kind, .int .i64 x'.n, .string x'.s, .slice xo x'.l.length xc] 57)) (by omega))
  have hC4 : Hid (C4 (w9.alloc (.cells #[.int .i64 x'.kind, .int .i64 x'.n, .string x'.s, .slice xo x'.l.length xc] 57)) w9.heap.size (.int .i64 x'.kind) (.int .i64 x'.n) (.string x'.s) (.slice xo x'.l.length xc)) := C4.of_box (w := w9) (Below.refl _ _)
  have hR1 := Lib.hid (((hrd9.alloc (by omega) (.cells #[.int .i64 x'.kind, .int .i64 x'.n, .string x'.s, .slice xo x'.l.length xc] 57))).c1)
  have hR2 := Lib.hid (((hrd9.alloc (by omega) (.cells #[.int .i64 x'.kind, .int .i64 x'.n, .string x'.s, .slice xo x'.l.length xc] 57))).c2)
  have hBT := Lib.hid ((HB.out.ext hbw9).keep (Nat.le_refl _) (w' := w9.alloc (.cells #[.int .i64 x'.kind, .int .i64 x'.n, .string x'.s, .slice xo x'.l.length xc] 57)) fun k hk => Below.heap_alloc w9 _ k hk)
  have hb10 : Hid (Below w9.heap.size w9 (w9.alloc (.cells #[.int .i64 x'.kind, .int .i64 x'.n, .string x'.s, .slice xo x'.l.length xc] 57))) := (Below.refl _ _).alloc (Nat.le_refl _) _
  have hsz10 : w9.heap.size < (w9.alloc (.cells #[.int .i64 x'.kind, .int .i64 x'.n, .string x'.s, .slice xo x'.l.length xc] 57)).heap.size := by simp
  have Hbw9 := Lib.hid hbw9
  clear hrv hbx hgw hv9 hrd9 hg9 hq hbw9
  go_wp2
  generalize w9.alloc (.cells #[.int .i64 x'.kind, .int .i64 x'.n, .string x'.s, .slice xo x'.l.length xc] 57) = w10 at *
  have hS := decJ_ext ((Below.refl _ w10).drew) hR1.out hR2.out hC4.out hBT.out (by omega)
  have HS0 := Lib.hid hsz10
  clear hsz10
  refine wp_region_noPanic ?_
  refine wp_region_held_drew (S := (fun w' => w'.cell? ⟨w.heap.size + 1, 1, none⟩ = some (.int .i64 l.length) ∧ w'.cell? ⟨w.heap.size + 1, 2, none⟩ = some (.bool false) ∧ w'.cell? ⟨w9.heap.size, 0, none⟩ = some (.int .i64 x'.kind) ∧ w'.cell? ⟨w9.heap.size, 1, none⟩ = some (.int .i64 x'.n) ∧ w'.cell? ⟨w9.heap.size, 2, none⟩ = some (.string x'.s) ∧ w'.cell? ⟨w9.heap.size, 3, none⟩ = some (.slice xo x'.l.length xc) ∧ (convert 33 9 (.slice oa l.length cap)).run Try.prog w' = .ok (.string ⟨l.toArray⟩) w')) (by kernel_rfl) hS (fun hHeld => ?_)
  refine take_dst (some 11) (i := 0) (v := ?vd0) rfl rfl (by kernel_rfl) (by kernel_rfl) (by kernel_rfl) (fun _ _ _ h => h) (Or.inl ⟨by rfl, fun wS hSw => ?hyd0⟩) (by assumption) ?restd0
  case hyd0 => (obtain ⟨h0, h1, h2, h3, h4, h5, h6⟩ := hSw; go_simp; first | done | with_reducible rfl)
  try simp only [Act.put, List.setIfInBounds_toArray, List.set_cons_zero, List.set_cons_succ]
  refine take_dst (some 12) (i := 1) (v := ?vd1) rfl rfl (by kernel_rfl) (by kernel_rfl) (by kernel_rfl) (fun _ _ _ h => h) (Or.inl ⟨by rfl, fun wS hSw => ?hyd1⟩) (by assumption) ?restd1
  case hyd1 => (obtain ⟨h0, h1, h2, h3, h4, h5, h6⟩ := hSw; go_simp; first | done | with_reducible rfl)
  try simp only [Act.put, List.setIfInBounds_toArray, List.set_cons_zero, List.set_cons_succ]
  refine take_dst (some 13) (i := 2) (v := ?vd2) rfl rfl (by kernel_rfl) (by kernel_rfl) (by kernel_rfl) (fun _ _ _ h => h) (Or.inl ⟨by rfl, fun wS hSw => ?hyd2⟩) (by assumption) ?restd2
  case hyd2 => (obtain ⟨h0, h1, h2, h3, h4, h5, h6⟩ := hSw; go_simp; first | done | with_reducible rfl)
  try simp only [Act.put, List.setIfInBounds_toArray, List.set_cons_zero, List.set_cons_succ]
  refine take_dst (some 14) (i := 3) (v := ?vd3) rfl rfl (by kernel_rfl) (by kernel_rfl) (by kernel_rfl) (fun _ _ _ h => h) (Or.inl ⟨by rfl, fun wS hSw => ?hyd3⟩) (by assumption) ?restd3
  case hyd3 => (obtain ⟨h0, h1, h2, h3, h4, h5, h6⟩ := hSw; go_simp; first | done | with_reducible rfl)
  try simp only [Act.put, List.setIfInBounds_toArray, List.set_cons_zero, List.set_cons_succ]
  refine take_dst (some 15) (i := 4) (v := ?vd4) rfl rfl (by kernel_rfl) (by kernel_rfl) (by kernel_rfl) (fun _ _ _ h => h) (Or.inl ⟨by rfl, fun wS hSw => ?hyd4⟩) (by assumption) ?restd4
  case hyd4 => (obtain ⟨h0, h1, h2, h3, h4, h5, h6⟩ := hSw; go_simp; first | done | with_reducible rfl)
  try simp only [Act.put, List.setIfInBounds_toArray, List.set_cons_zero, List.set_cons_succ]
  refine take_dst (some 16) (i := 5) (v := ?vd5) rfl rfl (by kernel_rfl) (by kernel_rfl) (by kernel_rfl) (fun _ _ _ h => h) (Or.inl ⟨by rfl, fun wS hSw => ?hyd5⟩) (by assumption) ?restd5
  case hyd5 => (obtain ⟨h0, h1, h2, h3, h4, h5, h6⟩ := hSw; go_simp; first | done | with_reducible rfl)
  try simp only [Act.put, List.setIfInBounds_toArray, List.set_cons_zero, List.set_cons_succ]
  refine take_dst (some 17) (i := 6) (v := ?vd6) rfl rfl (by kernel_rfl) (by kernel_rfl) (by kernel_rfl) (fun _ _ _ h => h) (Or.inl ⟨by rfl, fun wS hSw => ?hyd6⟩) (by assumption) ?restd6
  case hyd6 => (obtain ⟨h0, h1, h2, h3, h4, h5, h6⟩ := hSw; go_simp; first | done | with_reducible rfl)
  try simp only [Act.put, List.setIfInBounds_toArray, List.set_cons_zero, List.set_cons_succ]
  refine take_dst (some 18) (i := 7) (v := ?vd7) rfl rfl (by kernel_rfl) (by kernel_rfl) (by kernel_rfl) (fun _ _ _ h => h) (Or.inl ⟨by rfl, fun wS hSw => ?hyd7⟩) (by assumption) ?restd7
  case hyd7 => (obtain ⟨h0, h1, h2, h3, h4, h5, h6⟩ := hSw; go_simp; first | done | with_reducible rfl)
  try simp only [Act.put, List.setIfInBounds_toArray, List.set_cons_zero, List.set_cons_succ]
  refine take_dst (some 19) (i := 8) (v := ?vd8) rfl rfl (by kernel_rfl) (by kernel_rfl) (by kernel_rfl) (fun _ _ _ h => h) (Or.inl ⟨by rfl, fun wS hSw => ?hyd8⟩) (by assumption) ?restd8
  case hyd8 => (obtain ⟨h0, h1, h2, h3, h4, h5, h6⟩ := hSw; go_simp; first | done | with_reducible rfl)
  try simp only [Act.put, List.setIfInBounds_toArray, List.set_cons_zero, List.set_cons_succ]
  refine take_dst (some 20) (i := 9) (v := ?vd9) rfl rfl (by kernel_rfl) (by kernel_rfl) (by kernel_rfl) (fun _ _ _ h => h) (Or.inl ⟨by rfl, fun wS hSw => ?hyd9⟩) (by assumption) ?restd9
  case hyd9 => (obtain ⟨h0, h1, h2, h3, h4, h5, h6⟩ := hSw; go_simp; first | done | with_reducible rfl)
  try simp only [Act.put, List.setIfInBounds_toArray, List.set_cons_zero, List.set_cons_succ]
  refine take_dst (some 21) (i := 10) (v := ?vd10) rfl rfl (by kernel_rfl) (by kernel_rfl) (by kernel_rfl) (fun _ _ _ h => h) (Or.inl ⟨by rfl, fun wS hSw => ?hyd10⟩) (by assumption) ?restd10
  case hyd10 => (obtain ⟨h0, h1, h2, h3, h4, h5, h6⟩ := hSw; go_simp; first | done | with_reducible rfl)
  try simp only [Act.put, List.setIfInBounds_toArray, List.set_cons_zero, List.set_cons_succ]
  refine take_dst (some 22) (i := 11) (v := ?vd11) rfl rfl (by kernel_rfl) (by kernel_rfl) (by kernel_rfl) (fun _ _ _ h => h) (Or.inl ⟨by rfl, fun wS hSw => ?hyd11⟩) (by assumption) ?restd11
  case hyd11 => (obtain ⟨h0, h1, h2, h3, h4, h5, h6⟩ := hSw; go_simp; first | done | with_reducible rfl)
  try simp only [Act.put, List.setIfInBounds_toArray, List.set_cons_zero, List.set_cons_succ]
  refine take_dst (some 23) (i := 12) (v := ?vd12) rfl rfl (by kernel_rfl) (by kernel_rfl) (by kernel_rfl) (fun _ _ _ h => h) (Or.inl ⟨by rfl, fun wS hSw => ?hyd12⟩) (by assumption) ?restd12
  case hyd12 => (obtain ⟨h0, h1, h2, h3, h4, h5, h6⟩ := hSw; go_simp; first | done | with_reducible rfl)
  try simp only [Act.put, List.setIfInBounds_toArray, List.set_cons_zero, List.set_cons_succ]
  refine take_dst (some 24) (i := 13) (v := ?vd13) rfl rfl (by kernel_rfl) (by kernel_rfl) (by kernel_rfl) (fun _ _ _ h => h) (Or.inl ⟨by rfl, fun wS hSw => ?hyd13⟩) (by assumption) ?restd13
  case hyd13 => (obtain ⟨h0, h1, h2, h3, h4, h5, h6⟩ := hSw; go_simp; first | done | with_reducible rfl)
  try simp only [Act.put, List.setIfInBounds_toArray, List.set_cons_zero, List.set_cons_succ]
  refine take_dst (some 25) (i := 14) (v := ?vd14) rfl rfl (by kernel_rfl) (by kernel_rfl) (by kernel_rfl) (fun _ _ _ h => h) (Or.inl ⟨by rfl, fun wS hSw => ?hyd14⟩) (by assumption) ?restd14
  case hyd14 => (obtain ⟨h0, h1, h2, h3, h4, h5, h6⟩ := hSw; go_simp; first | done | with_reducible rfl)
  try simp only [Act.put, List.setIfInBounds_toArray, List.set_cons_zero, List.set_cons_succ]
  refine wpAnyH_ready (rs := [15]) (by kernel_rfl) (by simp) ?_
  refine AllReadyH.cons rfl (fun K hK => ?_) AllReadyH.nil
  go_simp
  refine (rcheck_any x' hsx _ _ hHX.out.drew).mono ?_
  rw [Hck.out]
  rintro e w7 ⟨rfl, hb7⟩
  have hbS : Below w10.heap.size w10 w7 := below_undrew hb7
  refine hK.out _ _ (decJ_ext hbS hR1.out hR2.out hC4.out hBT.out (by have := HS0.out; omega)) (fun hHeld => ?_)
  clear hK K
  try simp only [Act.put, List.setIfInBounds_toArray, List.set_cons_zero, List.set_cons_succ]
  refine take_dst (some 27) (i := 16) (v := ?vd16) rfl rfl (by kernel_rfl) (by kernel_rfl) (by kernel_rfl) (fun _ _ _ h => h) (Or.inl ⟨by rfl, fun wS hSw => ?hyd16⟩) (by assumption) ?restd16
  case hyd16 => (obtain ⟨h0, h1, h2, h3, h4, h5, h6⟩ := hSw; go_simp; first | done | with_reducible rfl)
  try simp only [Act.put, List.setIfInBounds_toArray, List.set_cons_zero, List.set_cons_succ]
  refine take_dst (some 28) (i := 17) (v := ?vd17) rfl rfl (by kernel_rfl) (by kernel_rfl) (by kernel_rfl) (fun _ _ _ h => h) (Or.inl ⟨by rfl, fun wS hSw => ?hyd17⟩) (by assumption) ?restd17
  case hyd17 => (obtain ⟨h0, h1, h2, h3, h4, h5, h6⟩ := hSw; go_simp; first | done | with_reducible rfl)
  try simp only [Act.put, List.setIfInBounds_toArray, List.set_cons_zero, List.set_cons_succ]
  refine take_dst (some 29) (i := 18) (v := ?vd18) rfl rfl (by kernel_rfl) (by kernel_rfl) (by kernel_rfl) (fun _ _ _ h => h) (Or.inl ⟨by rfl, fun wS hSw => ?hyd18⟩) (by assumption) ?restd18
  case hyd18 => (obtain ⟨h0, h1, h2, h3, h4, h5, h6⟩ := hSw; go_simp; first | done | with_reducible rfl)
  try simp only [Act.put, List.setIfInBounds_toArray, List.set_cons_zero, List.set_cons_succ]
  refine take_dst (some 30) (i := 19) (v := ?vd19) rfl rfl (by kernel_rfl) (by kernel_rfl) (by kernel_rfl) (fun _ _ _ h => h) (Or.inl ⟨by rfl, fun wS hSw => ?hyd19⟩) (by assumption) ?restd19
  case hyd19 => (obtain ⟨h0, h1, h2, h3, h4, h5, h6⟩ := hSw; go_simp; first | done | with_reducible rfl)
  try simp only [Act.put, List.setIfInBounds_toArray, List.set_cons_zero, List.set_cons_succ]
  refine take_dst (some 33) (i := 22) (v := ?vd22) rfl rfl (by kernel_rfl) (by kernel_rfl) (by kernel_rfl) (fun _ _ _ h => h) (Or.inl ⟨by rfl, fun wS hSw => ?hyd22⟩) (by assumption) ?restd22
  case hyd22 => (obtain ⟨h0, h1, h2, h3, h4, h5, h6⟩ := hSw; go_simp; first | done | with_reducible rfl)
  try simp only [Act.put, List.setIfInBounds_toArray, List.set_cons_zero, List.set_cons_succ]
  refine take_dst (some 34) (i := 23) (v := ?vd23) rfl rfl (by kernel_rfl) (by kernel_rfl) (by kernel_rfl) (fun _ _ _ h => h) (Or.inl ⟨by rfl, fun wS hSw => ?hyd23⟩) (by assumption) ?restd23
  case hyd23 => (obtain ⟨h0, h1, h2, h3, h4, h5, h6⟩ := hSw; go_simp; first | done | with_reducible rfl)
  try simp only [Act.put, List.setIfInBounds_toArray, List.set_cons_zero, List.set_cons_succ]
  refine wpAnyH_ready (rs := [20]) (by kernel_rfl) (by simp) ?_
  refine AllReadyH.cons rfl (fun K hK => ?_) AllReadyH.nil
  go_simp
  refine (rencode_any 60000 (by decide) x' hfm.out hsx _ _ (hHX.out.ext hbS)).mono ?_
  rw [Henc.out]
  rintro e w8 ⟨v2, rfl, ho2, hb8⟩
  have hcv := conv_B ho2.rd
  replace hbS := below_ext hbS hb8
  refine hK.out _ _ (decJ_ext hbS hR1.out hR2.out hC4.out hBT.out (by have := HS0.out; omega)) (fun hHeld => ?_)
  clear hK K
  try simp only [Act.put, List.setIfInBounds_toArray, List.set_cons_zero, List.set_cons_succ]
  refine wpAnyH_ready (rs := [21]) (by kernel_rfl) (by simp) ?_
  refine AllReadyH.cons rfl (fun K hK => ?_) AllReadyH.nil
  go_simp
  refine hK.out _ _ hHeld (fun hHeld => ?_)
  clear hK K
  try simp only [Act.put, List.setIfInBounds_toArray, List.set_cons_zero, List.set_cons_succ]
  refine take_dst (some 35) (i := 24) (v := ?vd24) rfl rfl (by kernel_rfl) (by kernel_rfl) (by kernel_rfl) (fun _ _ _ h => h) (Or.inl ⟨by rfl, fun wS hSw => ?hyd24⟩) (by assumption) ?restd24
  case hyd24 => (obtain ⟨h0, h1, h2, h3, h4, h5, h6⟩ := hSw; go_simp; first | done | with_reducible rfl)
  try simp only [Act.put, List.setIfInBounds_toArray, List.set_cons_zero, List.set_cons_succ]
  refine take_dst (some 36) (i := 25) (v := ?vd25) rfl rfl (by kernel_rfl) (by kernel_rfl) (by kernel_rfl) (fun _ _ _ h => h) (Or.inl ⟨by rfl, fun wS hSw => ?hyd25⟩) (by assumption) ?restd25
  case hyd25 => (obtain ⟨h0, h1, h2, h3, h4, h5, h6⟩ := hSw; go_simp; first | done | with_reducible rfl)
  try simp only [Act.put, List.setIfInBounds_toArray, List.set_cons_zero, List.set_cons_succ]
  refine wpAnyH_done (by kernel_rfl) ?_ _
  refine NoPanic.normal ?_
  have hbl : w.heap.size < w10.heap.size := World.block_lt_of_cell? w10 _ hBX.out.c0
  have y0 := cell_ext hbS hBX.out.c0
  have y1 := cell_ext hbS hBX.out.c1
  have y2 := cell_ext hbS hBX.out.c2
  have y3 := cell_ext hbS hBX.out.c3
  have yf : ∀ o, w8.frozen? ⟨w.heap.size, o, none⟩ = false := fun o => (hbS.frozen (p := ⟨w.heap.size, o, none⟩) hbl).trans (hBX.out.fr o)
  obtain ⟨c0, c1, c2, c3⟩ := hC4.out.ext hbS
  have HbS := Lib.hid hbS
  have hlt9 : w.heap.size < w9.heap.size := by omega
  clear hb8 ho2 hcv hbS hHeld hS hb7
  go_wp2
  refine bodyPost_ret (v := .tuple #[.agg #[.int .i64 x'.kind, .int .i64 x'.n, .string x'.s, .slice xo x'.l.length xc], .int .i64 0]) (by simp [results, Try.results39, go_sem, y0, y1, y2, y3]) rfl ?_
  refine ⟨xo, xc, rfl, ?_, ?_⟩
  · refine RdVD.rd (D := fun k => w.heap.size < k ∧ k < w9.heap.size) (hV9.out.keep (fun k hk => ⟨by have := hk.1; simp at this; omega, hk.2⟩) fun k hk => ?_) (fun k hk => ?_)
    · have h1 : w.heap.size + 2 ≤ k := by have := hk.1; simp at this; omega
      have h2 : w8.heap[k]? = w9.heap[k]? := (HbS.out.block k (by have := HS0.out; have := hk.2; omega)).trans (hb10.out.block k hk.2)
      refine Eq.trans ?_ h2
      repeat (first | rfl | refine (Below.heap_setCell _ _ _ _ (by show k ≠ w.heap.size; omega)).trans ?_)
    · have := hk.2; have := HS0.out; have := HbS.out.size; simp [World.setCell]; omega
  · have hw8 : Below w.heap.size w w8 := below_ext (below_ext Hbw9.out hb10.out) HbS.out
    exact (((hw8.setCell (p := ⟨w.heap.size, 0, none⟩) (Nat.le_refl _) _).setCell (p := ⟨w.heap.size, 1, none⟩) (Nat.le_refl _) _).setCell (p := ⟨w.heap.size, 2, none⟩) (Nat.le_refl _) _).setCell (p := ⟨w.heap.size, 3, none⟩) (Nat.le_refl _) _
end Go.Proofs.Ytgdbmoggpfpkkaa
/- the reference's Decode, at every input. -/
namespace Go.Proofs.Ytgdbmoggpfpkkaa
open Go.RowKit
theorem rdecode_any (l : List UInt8) (hl : l.length ≤ 4000) (v : Value) (w : World) (hb : BtsAt w.heap.size w l v) : Calls Try.prog 39 #[v] w (DecRd (decF l) w) := by
  obtain ⟨oa, cap, rfl⟩ := hb.shape
  unfold decF
  cases hN : rdV 16 l with
  | none => exact rdecode_none l (by omega) oa cap w hb hN
  | some p =>
    obtain ⟨x, r⟩ := p
    cases r with
    | nil => exact rdecode_some l hl oa cap w hb x hN
    | cons c r => exact rdecode_junk l (by omega) oa cap w hb x (c :: r) hN (by simp)
end Go.Proofs.Ytgdbmoggpfpkkaa
/- reports: limits, within. -/

namespace Go.Proofs.Ytgdbmoggpfpkkaa
open Go.RowKit
/-- a number outside its bounds -/
def badL (x : Int × Int × Int) : Bool := decide (x.1 < x.2.1 ∨ x.2.2 < x.1)
theorem badL_mk {n a b : Int} {t : Bool} (h : badL (n, a, b) = t) : t = (decide (n < a) || decide (b < n)) := by
  rw [← h]; unfold badL; rw [Bool.eq_iff_iff]; simp
set_option maxRecDepth 100000 in
theorem within1_any (n a b : Int) (w : World) : Calls Try.prog 50 #[.agg #[.int .i64 n, .int .i64 a, .int .i64 b]] w fun e w' => e = .returned (.bool (badL (n, a, b))) ∧ Below w.heap.size w w' := by
  obtain ⟨t, ht⟩ : ∃ t, badL (n, a, b) = t := ⟨_, rfl⟩
  have hm := badL_mk ht
  rw [ht]
  clear ht
  obtain ⟨t1, h1⟩ : ∃ t, decide (n < a) = t := ⟨_, rfl⟩
  obtain ⟨t2, h2⟩ : ∃ t, decide (b < n) = t := ⟨_, rfl⟩
  rw [h1, h2] at hm
  have Hm := Lib.hid hm
  clear hm
  cases t1
  all_goals
    go_enter Try.func50, Try.ntmps50
    go_wp2
    go_ret
    exact ⟨by rw [Hm.out]; simp, (Below.refl _ _).alloc (Nat.le_refl _) _⟩
/-- limits in memory, three cells each -/
def LimAt (w : World) (g : Nat) (L : List (Int × Int × Int)) : Prop := ∀ j x, L[j]? = some x → w.cell? ⟨g, j * 3, none⟩ = some (.int .i64 x.1) ∧ w.cell? ⟨g, j * 3 + 1, none⟩ = some (.int .i64 x.2.1) ∧ w.cell? ⟨g, j * 3 + 2, none⟩ = some (.int .i64 x.2.2)
theorem LimAt.ext {w w' : World} {g : Nat} {L : List (Int × Int × Int)} (h : LimAt w g L) (hb : Below w.heap.size w w') : LimAt w' g L := fun j x hx => by
  obtain ⟨a, b, c⟩ := h j x hx
  exact ⟨cell_ext hb a, cell_ext hb b, cell_ext hb c⟩
def IdxRel (w : World) (L : List (Int × Int × Int)) (i : Value) (wr : World) : Prop := ∃ k : Nat, k ≤ L.length ∧ i = .int .i64 k ∧ (L.take k).any badL = false ∧ Below w.heap.size w wr
def IdxPost (t : Bool) (w : World) (e : Ending) (w' : World) : Prop := ∃ r : Int, e = .returned (.int .i64 r) ∧ decide (0 ≤ r) = t ∧ Below w.heap.size w w'
theorem IdxPost.mk {t : Bool} {w w' : World} {r : Int} (h : decide (0 ≤ r) = t) (hb : Below w.heap.size w w') : IdxPost t w (.returned (.int .i64 r)) w' := ⟨r, rfl, h, hb⟩
theorem any_take {L : List (Int × Int × Int)} {k : Nat} {x : Int × Int × Int} (h : L[k]? = some x) (h1 : (L.take k).any badL = false) (h2 : badL x = false) : (L.take (k + 1)).any badL = false := by
  rw [List.take_add_one, h, List.any_append, h1]; simp [h2]
theorem any_hit {L : List (Int × Int × Int)} {k : Nat} {x : Int × Int × Int} (h : L[k]? = some x) (h2 : badL x = true) : L.any badL = true := by
  rw [List.any_eq_true]; exact ⟨x, List.mem_of_getElem? h, h2⟩
set_option maxRecDepth 100000 in
set_option maxHeartbeats 1000000 in
theorem idxf_any (g n cap : Nat) (L : List (Int × Int × Int)) (hn : L.length = n) (hn2 : n ≤ 1000) (w : World) (h : LimAt w g L) :
    Calls Try.prog 66 #[.slice (some ⟨g, 0, none⟩) n cap, .func (.func 50) #[] #[]] w (IdxPost (L.any badL) w) := by
  have H := Lib.hid h; have Hn := Lib.hid hn
  have bn : (n : Int) ≤ 1000 := by omega
  clear h hn
  go_enter Try.func66, Try.ntmps66
  go_wp2_with fail
  go_loopw [8] (fun i wr => IdxRel w L i wr) (fun i _ => n - (intOf i).toNat)
  case atStart => exact ⟨0, by omega, rfl, rfl, Below.refl _ _⟩
  case round =>
    obtain ⟨k, hk, rfl, ha, hb⟩ := hrel
    have HA := Lib.hid ha; have HB := Lib.hid hb
    have hkn : k ≤ n := by have := Hn.out; omega
    clear ha hb hk
    by_cases hlt : k < n
    · have tj : decide ((k : Int) < (n : Int)) = true := by simp; omega
      have tj' : decide (k < n) = true := by simp; omega
      obtain ⟨⟨x, a, b⟩, hx⟩ : ∃ x, L[k]? = some x := ⟨_, List.getElem?_eq_getElem (by rw [Hn.out]; exact hlt)⟩
      obtain ⟨c0, c1, c2⟩ := (H.out.ext HB.out) k _ hx
      have Hx := Lib.hid hx
      clear hx
      obtain ⟨t, ht⟩ : ∃ t, badL (x, a, b) = t := ⟨_, rfl⟩
      have Ht := Lib.hid ht
      clear ht
      go_wp2_with fail
      refine (within1_any x a b _).mono ?_
      rw [Ht.out]
      rintro e w2 ⟨rfl, hb2⟩
      have HB2 := Lib.hid (below_ext HB.out hb2)
      clear hb2 c0 c1 c2
      cases t
      · have hN := Lib.hid (any_take Hx.out HA.out Ht.out)
        go_wp2_with fail
        go_roundw
        case rel => exact ⟨k + 1, by have := Hn.out; omega, by go_num, hN.out, HB2.out⟩
        case measure => simp [intOf]; omega
      · have hN := Lib.hid (any_hit Hx.out Ht.out)
        go_wp2_with fail
        go_ret
        exact IdxPost.mk (by rw [hN.out]; simp) HB2.out
    · have hkn' : k = n := by omega
      have tj : decide ((k : Int) < (n : Int)) = false := by simp; omega
      have tj' : decide (k < n) = false := by simp; omega
      have hN : Hid (L.any badL = false) := by
        have := HA.out; rw [List.take_of_length_le (by rw [Hn.out]; omega)] at this; exact this
      clear hkn'
      go_wp2_with fail
      go_ret
      exact IdxPost.mk (by rw [hN.out]; decide) HB.out
theorem contf_any (g n cap : Nat) (L : List (Int × Int × Int)) (hn : L.length = n) (hn2 : n ≤ 1000) (w : World) (h : LimAt w g L) :
    Calls Try.prog 49 #[.slice (some ⟨g, 0, none⟩) n cap, .func (.func 50) #[] #[]] w fun e w' => e = .returned (.bool (L.any badL)) ∧ Below w.heap.size w w' := by
  have H := Lib.hid h; have Hn := Lib.hid hn; have Hn2 := Lib.hid hn2
  clear h hn hn2
  go_enter Try.func49, Try.ntmps49
  go_wp2_with fail
  refine (idxf_any g n cap L Hn.out Hn2.out _ H.out).mono ?_
  rintro e w1 ⟨r, rfl, hr, hb⟩
  have HB := Lib.hid hb
  clear hb
  go_wp2_with fail
  go_ret
  exact ⟨by simp, HB.out⟩
theorem within_any (g n cap : Nat) (L : List (Int × Int × Int)) (hn : L.length = n) (hn2 : n ≤ 1000) (w : World) (h : LimAt w g L) :
    Calls Try.prog 26 #[.slice (some ⟨g, 0, none⟩) n cap] w fun e w' => e = .returned (.bool (!L.any badL)) ∧ Below w.heap.size w w' := by
  have H := Lib.hid h; have Hn := Lib.hid hn; have Hn2 := Lib.hid hn2
  clear h hn hn2
  go_enter Try.func26, Try.ntmps26
  go_wp2_with fail
  refine (contf_any g n cap L Hn.out Hn2.out _ H.out).mono ?_
  rintro e w1 ⟨rfl, hb⟩
  have HB := Lib.hid hb
  clear hb
  go_wp2_with fail
  go_ret
  exact ⟨by simp, HB.out⟩
theorem in_any (n a b : Int) (w : World) : Calls Try.prog 28 #[.int .i64 n, .int .i64 a, .int .i64 b] w fun e w' => e = .returned (.bool (!badL (n, a, b))) ∧ w = w' := by
  obtain ⟨t, ht⟩ : ∃ t, badL (n, a, b) = t := ⟨_, rfl⟩
  have hm := badL_mk ht
  rw [ht]
  clear ht
  obtain ⟨t1, h1⟩ : ∃ t, decide (n < a) = t := ⟨_, rfl⟩
  obtain ⟨t2, h2⟩ : ∃ t, decide (b < n) = t := ⟨_, rfl⟩
  rw [h1, h2] at hm
  have k1 : decide (a ≤ n) = !t1 := by rw [← h1, Bool.eq_iff_iff]; simp
  have k2 : decide (n ≤ b) = !t2 := by rw [← h2, Bool.eq_iff_iff]; simp
  have Hm := Lib.hid hm
  clear hm h1 h2
  cases t1 <;> cases t2
  all_goals
    simp only [Bool.not_false, Bool.not_true] at k1 k2
    go_enter Try.func28, Try.ntmps28
    go_wp2
    go_ret
    exact ⟨by rw [Hm.out]; simp, rfl⟩
end Go.Proofs.Ytgdbmoggpfpkkaa
/- lex.Name and the reference's. (The first two contracts: laid off the shelf's templates.) -/
namespace Go.Proofs.Ytgdbmoggpfpkkaa
open Go.RowKit
set_option maxHeartbeats 1000000 in
set_option maxRecDepth 100000 in
theorem stringslite_IndexByte (s : ByteArray) (c : Int) (w : World) :
    Calls Try.prog 87 #[.string s, .int .u8 c] w fun e w' => e = .returned (.int .i64 (Lib.indexByte s.data.toList c.toNat.toUInt8)) ∧ w' = w := by
  go_enter Try.func87, Try.ntmps87
  go_wp2
  rw [run_callFunc_extern Try.func89 (by kernel_rfl) (by kernel_rfl) (by kernel_rfl) (e := Extern.BytealgIndexByte.indexByte) (by kernel_rfl), Lib.run_indexByteString]
  simp only [Result.andThen]
  rw [Oper.upon_value]
  go_wp2
  go_ret
  exact ⟨rfl, rfl⟩
set_option maxHeartbeats 1000000 in
theorem strings_IndexByte (s : ByteArray) (c : Int) (w : World) :
    Calls Try.prog 67 #[.string s, .int .u8 c] w fun e w' => e = .returned (.int .i64 (Lib.indexByte s.data.toList c.toNat.toUInt8)) ∧ w = w' := by
  go_enter Try.func67, Try.ntmps67
  go_wp2_with (go_at_call 87; refine (stringslite_IndexByte _ _ _).mono ?_; rintro e w' ⟨rfl, rfl⟩)
  go_ret
  exact ⟨rfl, rfl⟩
def letZ (c : Int) : Bool := decide (97 ≤ c ∧ c ≤ 122 ∨ 65 ≤ c ∧ c ≤ 90)
def figZ (c : Int) : Bool := decide (48 ≤ c ∧ c ≤ 57)
def partZ (c : Int) : Bool := decide (97 ≤ c ∧ c ≤ 122 ∨ 65 ≤ c ∧ c ≤ 90 ∨ 48 ≤ c ∧ c ≤ 57 ∨ c = 95)
def ClsPost (c : Int) (w : World) (e : Ending) (w' : World) : Prop := ∃ k : Int, e = .returned (.int .i64 k) ∧ w = w' ∧ (k == 2) = letZ c ∧ (k == 2 || k == 3 || k == 5) = partZ c
theorem ClsPost.mk {c k : Int} {w : World} (h1 : (k == 2) = letZ c) (h2 : (k == 2 || k == 3 || k == 5) = partZ c) : ClsPost c w (.returned (.int .i64 k)) w := ⟨k, rfl, rfl, h1, h2⟩
set_option maxHeartbeats 2000000 in
theorem class_any (c : Int) (w : World) : Calls Try.prog 51 #[.int .u8 c] w (ClsPost c w) := by
  obtain ⟨q, hq⟩ : ∃ q, Lib.indexByte [123, 125, 40, 41, 59, 44, 61, 35, 47, 60, 33, 45, 46] c.toNat.toUInt8 = q := ⟨_, rfl⟩
  go_enter Try.func51, Try.ntmps51
  go_wp2_with (go_at_call 67; refine (strings_IndexByte _ _ _).mono ?_; rintro e w' ⟨rfl, rfl⟩)
  all_goals go_ret
  all_goals refine ClsPost.mk ?_ ?_
  all_goals (try simp only [beq_iff_eq, beq_eq_false_iff_ne, ne_eq] at *)
  all_goals (simp [letZ, partZ]; try omega)
/-- what a name is -/
def nameB (l : List UInt8) : Bool := decide (1 ≤ l.length ∧ l.length ≤ 32) && letZ ((l.headD 0).toNat : Int) && l.all fun c => partZ (c.toNat : Int)
theorem nameB_len {l : List UInt8} (h : nameB l = true) : 1 ≤ l.length ∧ l.length ≤ 32 := by
  unfold nameB at h; simp only [Bool.and_eq_true, decide_eq_true_eq] at h; exact h.1.1
theorem nameB_long {l : List UInt8} (h : 32 < l.length) : nameB l = false := by
  cases hb : nameB l
  · rfl
  · have := nameB_len hb; omega
theorem head_at (s : ByteArray) (h : 0 < s.size) : s.data.toList.headD 0 = s[0] := by
  obtain ⟨⟨l⟩⟩ := s
  cases l with
  | nil => simp [ByteArray.size] at h
  | cons a r => rfl
theorem get_at (s : ByteArray) (k : Nat) (h : k < s.size) : s.data.toList[k]? = some s[k] := by
  rw [List.getElem?_eq_getElem (by simpa using h)]; rfl
theorem nameB_first (s : ByteArray) (h : 0 < s.size) (hl : letZ (s[0].toNat : Int) = false) : nameB s.data.toList = false := by
  unfold nameB; rw [head_at s h, hl]; simp
theorem nameB_part (s : ByteArray) (k : Nat) (h : k < s.size) (hl : partZ (s[k].toNat : Int) = false) : nameB s.data.toList = false := by
  have hm : s[k] ∈ s.data.toList := List.mem_of_getElem? (get_at s k h)
  have ha : (s.data.toList.all fun c => partZ (c.toNat : Int)) = false := by
    rw [List.all_eq_false]; exact ⟨_, hm, by rw [hl]; decide⟩
  unfold nameB; rw [ha]; simp
theorem all_take (s : ByteArray) (k : Nat) (h : k < s.size) (ha : ((s.data.toList.take k).all fun c => partZ (c.toNat : Int)) = true) (hl : partZ (s[k].toNat : Int) = true) : ((s.data.toList.take (k + 1)).all fun c => partZ (c.toNat : Int)) = true := by
  rw [List.take_add_one, get_at s k h, List.all_append, ha]; simp [hl]
theorem nameB_all (s : ByteArray) (h : 0 < s.size) (h2 : s.size ≤ 32) (hl : letZ (s[0].toNat : Int) = true) (ha : ((s.data.toList.take s.size).all fun c => partZ (c.toNat : Int)) = true) : nameB s.data.toList = true := by
  rw [List.take_of_length_le (by simp)] at ha
  unfold nameB
  rw [head_at s h, hl, ha]; simp; omega
def NamePost (s : ByteArray) (w : World) (e : Ending) (w' : World) : Prop := e = .returned (.bool (nameB s.data.toList)) ∧ w = w'
theorem NamePost.mk {s : ByteArray} {b : Bool} {w : World} (h : nameB s.data.toList = b) : NamePost s w (.returned (.bool b)) w := ⟨by rw [h], rfl⟩
theorem ne_bool {k n : Int} {b : Bool} (h : (k == n) = b) : (k != n) = !b := by rw [← h]; rfl
def NmRel (s : ByteArray) (w : World) (i : Value) (wr : World) : Prop := ∃ k : Nat, k ≤ s.size ∧ i = .int .i64 k ∧ ((s.data.toList.take k).all fun c => partZ (c.toNat : Int)) = true ∧ w = wr
set_option maxHeartbeats 2000000 in
theorem name_any (s : ByteArray) (hs : s.size ≤ 9223372036854775807) (w : World) : Calls Try.prog 27 #[.string s] w (NamePost s w) := by
  by_cases h0 : s.size = 0
  · obtain rfl : s = ⟨#[]⟩ := by
      obtain ⟨⟨l⟩⟩ := s
      cases l with
      | nil => rfl
      | cons a r => simp [ByteArray.size] at h0
    clear h0 hs
    go_enter Try.func27, Try.ntmps27
    go_wp2
    go_ret
    exact NamePost.mk (by decide)
  have f1 : ¬ s.toList = [] := by
    intro h
    rw [ByteArray.toList_eq] at h
    have h2 : s.data.toList.length = 0 := by rw [h]; rfl
    have h3 : s.size = s.data.toList.length := by simp
    omega
  have f2 : s.toList.isEmpty = false := by cases h : s.toList <;> simp_all
  have h1 : 0 < s.size := by omega
  by_cases h2 : 32 < s.size
  · have t2 : decide ((32 : Int) < (s.size : Int)) = true := by simp; omega
    have hN := Lib.hid (nameB_long (l := s.data.toList) (by simpa using h2))
    clear h0 h2
    go_enter Try.func27, Try.ntmps27
    go_wp2
    go_ret
    exact NamePost.mk hN.out
  have t2 : decide ((32 : Int) < (s.size : Int)) = false := by simp; omega
  have H2 : Hid (s.size ≤ 32) := by show _ ≤ _; omega
  clear h0 h2
  go_enter Try.func27, Try.ntmps27
  go_wp2_with fail
  refine (class_any _ _).mono ?_
  rintro e w1 ⟨k, rfl, rfl, hk, hk2⟩
  cases hl : letZ (s[0].toNat : Int)
  · rw [hl] at hk
    have hkn := ne_bool hk
    have hN := Lib.hid (nameB_first s h1 hl)
    clear hk2 hl
    go_wp2_with fail
    go_ret
    exact NamePost.mk hN.out
  · rw [hl] at hk
    have hkn := ne_bool hk
    have HL := Lib.hid hl
    clear hk2 hl
    go_wp2_with fail
    clear hk hkn
    go_loopw [20] (fun i wr => NmRel s w i wr) (fun i _ => s.size - (intOf i).toNat)
    case atStart => exact ⟨0, by omega, rfl, rfl, rfl⟩
    case round =>
      obtain ⟨j, hj, rfl, ha, rfl⟩ := hrel
      have HA := Lib.hid ha; clear ha
      by_cases hlt : j < s.size
      · have tj : decide ((j : Int) < (s.size : Int)) = true := by simp; omega
        have tj' : decide (j < s.size) = true := by simp; omega
        go_wp2_with fail
        refine (class_any _ _).mono ?_
        rintro e w1 ⟨k2, rfl, rfl, _, hp⟩
        cases h2 : (k2 == 2) <;> cases h3 : (k2 == 3) <;> cases h5 : (k2 == 5)
        all_goals
          rw [h2, h3, h5] at hp
          have n2 := ne_bool h2; have n3 := ne_bool h3; have n5 := ne_bool h5
        · have hN := Lib.hid (nameB_part s j hlt hp.symm)
          clear hp
          go_wp2_with fail
          go_ret
          exact NamePost.mk hN.out
        all_goals
          have HN := Lib.hid (all_take s j hlt HA.out hp.symm)
          clear hp
          go_wp2_with fail
          go_roundw
          case rel => exact ⟨j + 1, by omega, by go_num, HN.out, rfl⟩
          case measure => simp [intOf]; omega
      · obtain rfl : j = s.size := by omega
        have tj : decide ((s.size : Int) < (s.size : Int)) = false := by simp
        have hN := Lib.hid (nameB_all s h1 H2.out HL.out HA.out)
        go_wp2_with fail
        go_ret
        exact NamePost.mk hN.out
theorem letter_any (c : Int) (w : World) : Calls Try.prog 52 #[.int .u8 c] w fun e w' => e = .returned (.bool (letZ c)) ∧ w = w' := by
  obtain ⟨b, hb⟩ : ∃ b, letZ c = b := ⟨_, rfl⟩
  have Hb := Lib.hid hb
  rw [hb]
  clear hb
  go_enter Try.func52, Try.ntmps52
  go_wp2
  all_goals go_ret
  all_goals refine ⟨?_, rfl⟩
  all_goals have h := Hb.out
  all_goals unfold letZ at h
  all_goals subst h
  all_goals refine congrArg (fun b => Ending.returned (Value.bool b)) ?_
  all_goals (rw [Bool.eq_iff_iff]; simp; try omega)
theorem figure_any (c : Int) (w : World) : Calls Try.prog 68 #[.int .u8 c] w fun e w' => e = .returned (.bool (figZ c)) ∧ w = w' := by
  obtain ⟨b, hb⟩ : ∃ b, figZ c = b := ⟨_, rfl⟩
  have Hb := Lib.hid hb
  rw [hb]
  clear hb
  go_enter Try.func68, Try.ntmps68
  go_wp2
  all_goals go_ret
  all_goals refine ⟨?_, rfl⟩
  all_goals have h := Hb.out
  all_goals unfold figZ at h
  all_goals subst h
  all_goals refine congrArg (fun b => Ending.returned (Value.bool b)) ?_
  all_goals (rw [Bool.eq_iff_iff]; simp; try omega)
theorem part_any (c : Int) (w : World) : Calls Try.prog 53 #[.int .u8 c] w fun e w' => e = .returned (.bool (partZ c)) ∧ w = w' := by
  have hsum : partZ c = (letZ c || figZ c || (c == 95)) := by
    unfold partZ letZ figZ
    rw [Bool.eq_iff_iff]; simp; omega
  rw [hsum]
  obtain ⟨b1, h1⟩ : ∃ b, letZ c = b := ⟨_, rfl⟩
  obtain ⟨b2, h2⟩ : ∃ b, figZ c = b := ⟨_, rfl⟩
  obtain ⟨b3, h3⟩ : ∃ b, (c == 95) = b := ⟨_, rfl⟩
  have H1 := Lib.hid h1; have H2 := Lib.hid h2
  rw [h1, h2, h3]
  clear h1 h2 hsum
  go_enter Try.func53, Try.ntmps53
  go_wp2_with fail
  refine (letter_any _ _).mono ?_
  rw [H1.out]
  rintro e w1 ⟨rfl, rfl⟩
  cases b1
  · go_wp2_with fail
    refine (figure_any _ _).mono ?_
    rw [H2.out]
    rintro e w1 ⟨rfl, rfl⟩
    cases b2
    all_goals
      go_wp2_with fail
      go_ret
      exact ⟨by simp, rfl⟩
  · go_wp2_with fail
    go_ret
    exact ⟨by simp, rfl⟩
set_option maxHeartbeats 2000000 in
theorem rname_any (s : ByteArray) (hs : s.size ≤ 9223372036854775807) (w : World) : Calls Try.prog 29 #[.string s] w (NamePost s w) := by
  by_cases h0 : s.size = 0
  · obtain rfl : s = ⟨#[]⟩ := by
      obtain ⟨⟨l⟩⟩ := s
      cases l with
      | nil => rfl
      | cons a r => simp [ByteArray.size] at h0
    clear h0 hs
    go_enter Try.func29, Try.ntmps29
    go_wp2
    go_ret
    exact NamePost.mk (by decide)
  have f1 : decide ((s.size : Int) < 1) = false := by simp; omega
  have h1 : 0 < s.size := by omega
  by_cases h2 : 32 < s.size
  · have t2 : decide ((32 : Int) < (s.size : Int)) = true := by simp; omega
    have hN := Lib.hid (nameB_long (l := s.data.toList) (by simpa using h2))
    clear h0 h2
    go_enter Try.func29, Try.ntmps29
    go_wp2
    go_ret
    exact NamePost.mk hN.out
  have t2 : decide ((32 : Int) < (s.size : Int)) = false := by simp; omega
  have H2 : Hid (s.size ≤ 32) := by show _ ≤ _; omega
  clear h0 h2
  go_enter Try.func29, Try.ntmps29
  go_wp2_with fail
  refine (letter_any _ _).mono ?_
  cases hl : letZ (s[0].toNat : Int)
  · rintro e w1 ⟨rfl, rfl⟩
    have hN := Lib.hid (nameB_first s h1 hl)
    clear hl
    go_wp2_with fail
    go_ret
    exact NamePost.mk hN.out
  · rintro e w1 ⟨rfl, rfl⟩
    have HL := Lib.hid hl
    clear hl
    go_wp2_with fail
    go_loopw [3] (fun i wr => NmRel s w i wr) (fun i _ => s.size - (intOf i).toNat)
    case atStart => exact ⟨0, by omega, rfl, rfl, rfl⟩
    case round =>
      obtain ⟨j, hj, rfl, ha, rfl⟩ := hrel
      have HA := Lib.hid ha; clear ha
      by_cases hlt : j < s.size
      · have tj : decide ((j : Int) < (s.size : Int)) = true := by simp; omega
        have tj' : decide (j < s.size) = true := by simp; omega
        go_wp2_with fail
        refine (part_any _ _).mono ?_
        cases hp : partZ (s[j].toNat : Int)
        · rintro e w1 ⟨rfl, rfl⟩
          have hN := Lib.hid (nameB_part s j hlt hp)
          clear hp
          go_wp2_with fail
          go_ret
          exact NamePost.mk hN.out
        · rintro e w1 ⟨rfl, rfl⟩
          have HN := Lib.hid (all_take s j hlt HA.out hp)
          clear hp
          go_wp2_with fail
          go_roundw
          case rel => exact ⟨j + 1, by omega, by go_num, HN.out, rfl⟩
          case measure => simp [intOf]; omega
      · obtain rfl : j = s.size := by omega
        have tj : decide ((s.size : Int) < (s.size : Int)) = false := by simp
        have hN := Lib.hid (nameB_all s h1 H2.out HL.out HA.out)
        go_wp2_with fail
        go_ret
        exact NamePost.mk hN.out
end Go.Proofs.Ytgdbmoggpfpkkaa
/- blocks that are known whole. -/
namespace Go.Proofs.Ytgdbmoggpfpkkaa
open Go.RowKit

/-- a block that is known whole -/
def CB (w : World) (g : Nat) (t : TypeId) (cs : List Value) : Prop := w.heap[g]? = some (.cells cs.toArray t (0, 0))
theorem CB.cell {w : World} {g : Nat} {t : TypeId} {cs : List Value} (h : CB w g t cs) (i : Nat) : w.cell? ⟨g, i, none⟩ = cs[i]? := by
  unfold CB at h; simp [World.cell?, h]
theorem CB.frozen {w : World} {g : Nat} {t : TypeId} {cs : List Value} (h : CB w g t cs) (i : Nat) : w.frozen? ⟨g, i, none⟩ = false := by
  unfold CB at h; simp [World.frozen?, h]
theorem CB.set {w : World} {g : Nat} {t : TypeId} {cs : List Value} (h : CB w g t cs) (i : Nat) (u : Value) : CB (w.setCell ⟨g, i, none⟩ u) g t (cs.set i u) := by
  unfold CB at h ⊢; simp [World.setCell, Array.getElem?_modify, h]
theorem CB.keep {w w' : World} {g : Nat} {t : TypeId} {cs : List Value} (h : CB w g t cs) (hk : w'.heap[g]? = w.heap[g]?) : CB w' g t cs := hk.trans h
theorem CB.far {w : World} {g : Nat} {t : TypeId} {cs : List Value} (h : CB w g t cs) {p : Addr} (hp : g ≠ p.block) (u : Value) : CB (w.setCell p u) g t cs := h.keep (Below.heap_setCell w p u g hp)
theorem CB.lt {w : World} {g : Nat} {t : TypeId} {cs : List Value} (h : CB w g t cs) : g < w.heap.size := by
  rcases Nat.lt_or_ge g w.heap.size with hlt | hge
  · exact hlt
  · unfold CB at h; rw [Array.getElem?_eq_none hge] at h; cases h
theorem CB.new (w : World) (t : TypeId) (cs : List Value) : CB (w.alloc (.cells cs.toArray t)) w.heap.size t cs := heap_alloc_new w _
theorem CB.alloc {w : World} {g : Nat} {t : TypeId} {cs : List Value} (h : CB w g t cs) (o : Obj) : CB (w.alloc o) g t cs := h.keep (Below.heap_alloc w o g h.lt)

theorem CB.ext {w w' : World} {g : Nat} {t : TypeId} {cs : List Value} (h : CB w g t cs) (hb : Below w.heap.size w w') : CB w' g t cs := h.keep (hb.block _ h.lt)
theorem boxN (W : World) (ns : List Int) (t : TypeId) : ∀ j y, ns[j]? = some y → (W.alloc (.cells (ns.map (Value.int .i64)).toArray t)).cell? ⟨W.heap.size, j, none⟩ = some (.int .i64 y) := by
  intro j y h
  rw [(CB.new W t (ns.map (Value.int .i64))).cell j]; simp [h]
theorem box1 (W : World) (x : Int) (t : TypeId) : ∀ j y, [x][j]? = some y → (W.alloc (.cells #[.int .i64 x] t)).cell? ⟨W.heap.size, j, none⟩ = some (.int .i64 y) := boxN W [x] t
theorem box2 (W : World) (x z : Int) (t : TypeId) : ∀ j y, [x, z][j]? = some y → (W.alloc (.cells #[.int .i64 x, .int .i64 z] t)).cell? ⟨W.heap.size, j, none⟩ = some (.int .i64 y) := boxN W [x, z] t
end Go.Proofs.Ytgdbmoggpfpkkaa
/- reports: Check, the program's and the reference's. -/
namespace Go.Proofs.Ytgdbmoggpfpkkaa
open Go.RowKit
/-- a report -/
structure Rp where
  st : Int
  no : Int
  mi : Int
  ar : Int
  cl : ByteArray
  vo : Int
def Rp.cells (r : Rp) : List Value := [.int .i64 r.st, .int .i64 r.no, .int .i64 r.mi, .int .i64 r.ar, .string r.cl, .int .i64 r.vo]
def Rp.v (r : Rp) : Value := .agg r.cells.toArray
def limsR (m m1 : Int) (r : Rp) : List (Int × Int × Int) := [(m, 0, 4), (r.st, 0, m1), (r.no, 1, 1048576), (r.mi, 0, 1439), (r.ar, 0, 1439), (r.vo, 0, 63)]
/-- is a report valid, for a number of stations (and the number less one)? -/
def repB (m m1 : Int) (r : Rp) : Bool := !(limsR m m1 r).any badL && nameB r.cl.data.toList
theorem lim_cells (L : List (Int × Int × Int)) (w : World) (g : Nat) (t : TypeId) (h : CB w g t (L.flatMap fun x => [.int .i64 x.1, .int .i64 x.2.1, .int .i64 x.2.2])) : LimAt w g L := by
  have key : ∀ (L : List (Int × Int × Int)) (j : Nat) (x : Int × Int × Int), L[j]? = some x → ((L.flatMap fun x => [Value.int .i64 x.1, .int .i64 x.2.1, .int .i64 x.2.2])[j * 3]? = some (.int .i64 x.1)) ∧ ((L.flatMap fun x => [Value.int .i64 x.1, .int .i64 x.2.1, .int .i64 x.2.2])[j * 3 + 1]? = some (.int .i64 x.2.1)) ∧ ((L.flatMap fun x => [Value.int .i64 x.1, .int .i64 x.2.1, .int .i64 x.2.2])[j * 3 + 2]? = some (.int .i64 x.2.2)) := by
    intro L
    induction L with
    | nil => intro j x h; simp at h
    | cons a r ih =>
      intro j x h
      cases j with
      | zero => simp at h; subst h; simp
      | succ j =>
        have := ih j x (by simpa using h)
        simp only [List.flatMap_cons, Nat.succ_mul]
        rw [show j * 3 + 3 + 1 = (j * 3 + 1) + 3 by omega, show j * 3 + 3 + 2 = (j * 3 + 2) + 3 by omega]
        simpa using this
  intro j x hx
  obtain ⟨a, b, c⟩ := key L j x hx
  rw [h.cell, h.cell, h.cell]
  exact ⟨a, b, c⟩
def ChkR (t : Bool) (w : World) (e : Ending) (w' : World) : Prop := e = .returned (.int .i64 (if t then 0 else 220)) ∧ Below w.heap.size w w'
set_option maxRecDepth 100000 in
set_option maxHeartbeats 2000000 in
theorem check22_any (m m1 : Int) (r : Rp) (w : World) (hm : IntKind.i64.wrap (m - 1) = m1) (hs : r.cl.size ≤ 9223372036854775807) :
    Calls Try.prog 13 #[.int .i64 m, r.v] w (ChkR (repB m m1 r) w) := by
  obtain ⟨st, no, mi, ar, cl, vo⟩ := r
  have e1 : wrap64 (m - 1) = m1 := by rw [← hm]; exact (IntWalk.i64_left _).symm
  obtain ⟨L, hL⟩ : ∃ L, limsR m m1 ⟨st, no, mi, ar, cl, vo⟩ = L := ⟨_, rfl⟩
  have HL := Lib.hid hL
  have Hs : Hid (cl.size ≤ 9223372036854775807) := hs
  have hfin : Hid (repB m m1 ⟨st, no, mi, ar, cl, vo⟩ = (!L.any badL && nameB cl.data.toList)) := by show _ = _; unfold repB; rw [hL]
  clear hL hs
  have hlim : Hid (∀ w : World, LimAt (w.alloc (.cells #[.int .i64 m, .int .i64 0, .int .i64 4, .int .i64 st, .int .i64 0, .int .i64 m1, .int .i64 no, .int .i64 1, .int .i64 1048576, .int .i64 mi, .int .i64 0, .int .i64 1439, .int .i64 ar, .int .i64 0, .int .i64 1439, .int .i64 vo, .int .i64 0, .int .i64 63] 52)) w.heap.size L) := by
    show ∀ w, _
    intro w
    rw [← HL.out]
    exact lim_cells _ _ _ 52 (CB.new w _ _)
  have hll : Hid (L.length = 6) := by show _ = _; rw [← HL.out]; rfl
  have hcb0 : Hid (CB (w.alloc (.cells #[.int .i64 st, .int .i64 no, .int .i64 mi, .int .i64 ar, .string cl, .int .i64 vo] 23)) w.heap.size 23 [.int .i64 st, .int .i64 no, .int .i64 mi, .int .i64 ar, .string cl, .int .i64 vo]) := CB.new w _ _
  have hb0 := Lib.hid ((Below.refl w.heap.size w).alloc (Nat.le_refl _) (.cells #[.int .i64 st, .int .i64 no, .int .i64 mi, .int .i64 ar, .string cl, .int .i64 vo] 23))
  change Calls Try.prog 13 #[.int .i64 m, .agg #[.int .i64 st, .int .i64 no, .int .i64 mi, .int .i64 ar, .string cl, .int .i64 vo]] w _
  go_enter Try.func13, Try.ntmps13
  go_upto_region 1 with fail
  generalize w.alloc (.cells #[.int .i64 st, .int .i64 no, .int .i64 mi, .int .i64 ar, .string cl, .int .i64 vo] 23) = w0 at *
  have c0 : w0.cell? ⟨w.heap.size, 0, none⟩ = some (.int .i64 st) := hcb0.out.cell 0
  have c1 : w0.cell? ⟨w.heap.size, 1, none⟩ = some (.int .i64 no) := hcb0.out.cell 1
  have c2 : w0.cell? ⟨w.heap.size, 2, none⟩ = some (.int .i64 mi) := hcb0.out.cell 2
  have c3 : w0.cell? ⟨w.heap.size, 3, none⟩ = some (.int .i64 ar) := hcb0.out.cell 3
  have c5 : w0.cell? ⟨w.heap.size, 5, none⟩ = some (.int .i64 vo) := hcb0.out.cell 5
  go_wp2_with fail
  refine (within_any _ 6 _ L hll.out (by decide) _ (hlim.out _)).mono ?_
  rintro e w1 ⟨rfl, hb⟩
  have hb1 := Lib.hid (below_ext (hb0.out.alloc hb0.out.size _) hb)
  have hcb1 := Lib.hid (CB.ext (hcb0.out.alloc _) hb)
  clear hb c0 c1 c2 c3 c5
  have c4 : w1.cell? ⟨w.heap.size, 4, none⟩ = some (.string cl) := hcb1.out.cell 4
  obtain ⟨t, ht⟩ : ∃ t, L.any badL = t := ⟨_, rfl⟩
  have Ht := Lib.hid ht
  rw [ht]
  clear ht
  cases t
  · go_wp2_with fail
    refine (name_any cl Hs.out _).mono ?_
    obtain ⟨u, hu⟩ : ∃ u, nameB cl.data.toList = u := ⟨_, rfl⟩
    have Hu := Lib.hid hu
    unfold NamePost
    rw [hu]
    clear hu
    rintro e w2 ⟨rfl, rfl⟩
    have hf := hfin.out
    rw [Ht.out, Hu.out] at hf
    have Hf := Lib.hid hf
    clear hf
    cases u
    all_goals
      go_wp2_with fail
      go_ret
      exact ⟨by rw [Hf.out]; rfl, hb1.out⟩
  · have hf := hfin.out
    rw [Ht.out] at hf
    have Hf := Lib.hid hf
    clear hf
    go_wp2_with fail
    go_ret
    exact ⟨by rw [Hf.out]; rfl, hb1.out⟩
end Go.Proofs.Ytgdbmoggpfpkkaa
/- reports: Station, the program's and the reference's. -/
namespace Go.Proofs.Ytgdbmoggpfpkkaa
open Go.RowKit
/-- ints that are read -/
def IntsAt (B : Nat) (w : World) (l : List Int) (v : Value) : Prop :=
  (l = [] ∧ ∃ oa cap, v = .slice oa 0 cap) ∨ (∃ b off cap, v = .slice (some ⟨b, off, none⟩) l.length cap ∧ l.length ≤ cap ∧ cap ≤ maxLen ∧ b < B ∧ ∀ j x, l[j]? = some x → w.cell? ⟨b, off + j, none⟩ = some (.int .i64 x))
theorem IntsAt.keep {B B' : Nat} {w w' : World} {l : List Int} {v : Value} (h : IntsAt B w l v) (hB : B ≤ B') (hs : ∀ k, k < B → w'.heap[k]? = w.heap[k]?) : IntsAt B' w' l v := by
  rcases h with h | ⟨b, off, cap, h1, h2, h3, h4, h5⟩
  · exact .inl h
  · exact .inr ⟨b, off, cap, h1, h2, h3, Nat.lt_of_lt_of_le h4 hB, fun j c hj => by rw [World.cell?_of_block (w := w) (hs _ h4)]; exact h5 j c hj⟩
theorem IntsAt.ext {w w' : World} {l : List Int} {v : Value} (h : IntsAt w.heap.size w l v) (hb : Below w.heap.size w w') : IntsAt w'.heap.size w' l v := h.keep hb.size hb.block
theorem IntsAt.shape {B : Nat} {w : World} {l : List Int} {v : Value} (h : IntsAt B w l v) : ∃ oa cap, v = .slice oa l.length cap ∧ l.length ≤ 9223372036854775807 := by
  rcases h with ⟨rfl, oa, cap, rfl⟩ | ⟨b, off, cap, rfl, h2, h3, _⟩
  · exact ⟨oa, cap, rfl, by simp⟩
  · exact ⟨_, cap, rfl, by unfold maxLen at h3; omega⟩
def incF : Int → Int → List Int → Bool
  | _, _, [] => true
  | last, vol, v :: r => !(decide (v ≤ last) || decide (vol ≤ v)) && incF v vol r
def limsS (vol sh fa : Int) : List (Int × Int × Int) := [(vol, 1, 64), (sh, 0, 3), (fa, 0, 3)]
/-- is a station valid? -/
def staB (vol : Int) (l : List Int) (sh fa : Int) : Bool := (!(limsS vol sh fa).any badL && !l.isEmpty) && incF (-1) vol l
def StRel (vol : Int) (l : List Int) (w : World) (a i : Value) (wr : World) : Prop := ∃ (k : Nat) (x : Int), k ≤ l.length ∧ a = .int .i64 x ∧ i = .int .i64 k ∧ incF (-1) vol l = incF x vol (l.drop k) ∧ w = wr
theorem idrop_at {l : List Int} {k : Nat} {x : Int} (h : l[k]? = some x) : l.drop k = x :: l.drop (k + 1) := by
  obtain ⟨h1, h2⟩ := List.getElem?_eq_some_iff.1 h
  rw [List.drop_eq_getElem_cons h1, h2]
set_option maxRecDepth 100000 in
set_option maxHeartbeats 2000000 in
theorem station_any (vol sh fa : Int) (l : List Int) (v : Value) (w : World) (hl : IntsAt w.heap.size w l v) :
    Calls Try.prog 15 #[.int .i64 vol, .agg #[v, .int .i64 sh, .int .i64 fa]] w (ChkR (staB vol l sh fa) w) := by
  obtain ⟨oa, cap, rfl, hlm⟩ := hl.shape
  have HI := Lib.hid hl
  have bl : (l.length : Int) ≤ 9223372036854775807 := by omega
  clear hl hlm
  obtain ⟨L, hL⟩ : ∃ L, limsS vol sh fa = L := ⟨_, rfl⟩
  have HL := Lib.hid hL
  have hfin : Hid (staB vol l sh fa = ((!L.any badL && !l.isEmpty) && incF (-1) vol l)) := by show _ = _; unfold staB; rw [hL]
  have hlim : Hid (∀ w : World, LimAt (w.alloc (.cells #[.int .i64 vol, .int .i64 1, .int .i64 64, .int .i64 sh, .int .i64 0, .int .i64 3, .int .i64 fa, .int .i64 0, .int .i64 3] 52)) w.heap.size L) := by
    show ∀ w, _
    intro w
    rw [← hL]
    exact lim_cells _ _ _ 52 (CB.new w _ _)
  have hll : Hid (L.length = 3) := by show _ = _; rw [← hL]; rfl
  clear hL
  have hcb0 : Hid (CB (w.alloc (.cells #[.slice oa l.length cap, .int .i64 sh, .int .i64 fa] 26)) w.heap.size 26 [.slice oa l.length cap, .int .i64 sh, .int .i64 fa]) := CB.new w _ _
  have hb0 := Lib.hid ((Below.refl w.heap.size w).alloc (Nat.le_refl _) (.cells #[.slice oa l.length cap, .int .i64 sh, .int .i64 fa] 26))
  go_enter Try.func15, Try.ntmps15
  go_upto_region 1 with fail
  generalize w.alloc (.cells #[.slice oa l.length cap, .int .i64 sh, .int .i64 fa] 26) = w0 at *
  have c1 : w0.cell? ⟨w.heap.size, 1, none⟩ = some (.int .i64 sh) := hcb0.out.cell 1
  have c2 : w0.cell? ⟨w.heap.size, 2, none⟩ = some (.int .i64 fa) := hcb0.out.cell 2
  go_wp2_with fail
  refine (within_any _ 3 _ L hll.out (by decide) _ (hlim.out _)).mono ?_
  rintro e w1 ⟨rfl, hb⟩
  have hb1 := Lib.hid (below_ext (hb0.out.alloc hb0.out.size _) hb)
  have hcb1 := Lib.hid (CB.ext (hcb0.out.alloc _) hb)
  clear hb c1 c2
  have c0 : w1.cell? ⟨w.heap.size, 0, none⟩ = some (.slice oa l.length cap) := hcb1.out.cell 0
  obtain ⟨t, ht⟩ : ∃ t, L.any badL = t := ⟨_, rfl⟩
  have Ht := Lib.hid ht
  rw [ht]
  clear ht
  cases t
  case true =>
    have hf := hfin.out
    rw [Ht.out] at hf
    have Hf := Lib.hid hf
    clear hf
    go_wp2_with fail
    go_ret
    exact ⟨by rw [Hf.out]; rfl, hb1.out⟩
  case false =>
    by_cases h0 : l.length = 0
    · have hf := hfin.out
      rw [List.eq_nil_of_length_eq_zero h0] at hf
      have Hf := Lib.hid (show staB vol l sh fa = false by rw [List.eq_nil_of_length_eq_zero h0]; simpa using hf)
      have k0 : ((l.length : Int) == 0) = true := by rw [h0]; rfl
      clear hf h0
      go_wp2_with fail
      go_ret
      exact ⟨by rw [Hf.out]; rfl, hb1.out⟩
    · have k0 : ((l.length : Int) == 0) = false := by rw [beq_eq_false_iff_ne]; omega
      have hemp : l.isEmpty = false := by cases l <;> simp_all
      have hf := hfin.out
      rw [Ht.out, hemp] at hf
      have Hf := Lib.hid hf
      clear hf hemp h0
      go_wp2_with fail
      go_loopw [5, 28] (fun a i wr => StRel vol l w1 a i wr) (fun _ i _ => l.length - (intOf i).toNat)
      case atStart => exact ⟨0, -1, by omega, rfl, rfl, rfl, rfl⟩
      case round =>
        obtain ⟨k, x, hk, rfl, rfl, hi, rfl⟩ := hrel
        have HIn := Lib.hid hi
        clear hi
        by_cases hlt : k < l.length
        · have tj : decide ((k : Int) < (l.length : Int)) = true := by simp; omega
          have tj' : decide (k < l.length) = true := by simp; omega
          obtain ⟨y, hy⟩ : ∃ y, l[k]? = some y := ⟨_, List.getElem?_eq_getElem hlt⟩
          have hnn : ¬ l = [] := by rintro rfl; simp at hlt
          obtain ⟨b, off, rfl, hcell⟩ : ∃ b off, oa = some ⟨b, off, none⟩ ∧ w1.cell? ⟨b, off + k, none⟩ = some (.int .i64 y) := by
            rcases HI.out.ext hb1.out with ⟨h, _⟩ | ⟨b, off, cp, h1, _, _, _, h5⟩
            · exact absurd h hnn
            · injection h1 with h1 _ _
              exact ⟨b, off, h1, h5 k y hy⟩
          have hdr := Lib.hid (idrop_at hy)
          clear hy hnn
          obtain ⟨t1, h1⟩ : ∃ t, decide (y ≤ x) = t := ⟨_, rfl⟩
          obtain ⟨t2, h2⟩ : ∃ t, decide (vol ≤ y) = t := ⟨_, rfl⟩
          have hst : Hid (incF (-1) vol l = (!(t1 || t2) && incF y vol (l.drop (k + 1)))) := by
            show _ = _
            rw [HIn.out, hdr.out, incF, h1, h2]
          cases t1 <;> cases t2
          case false.false =>
            go_wp2_with fail
            go_roundw
            case rel => exact ⟨k + 1, y, by omega, rfl, by go_num, by rw [hst.out]; rfl, rfl⟩
            case measure => simp [intOf]; omega
          all_goals
            go_wp2_with fail
            go_ret
            exact ⟨by rw [Hf.out, hst.out]; rfl, hb1.out⟩
        · obtain rfl : k = l.length := by omega
          have tj : decide ((l.length : Int) < (l.length : Int)) = false := by simp
          have hend : Hid (incF (-1) vol l = true) := by show _ = _; rw [HIn.out, List.drop_of_length_le (Nat.le_refl _)]; rfl
          go_wp2_with fail
          go_ret
          exact ⟨by rw [Hf.out, hend.out]; rfl, hb1.out⟩
end Go.Proofs.Ytgdbmoggpfpkkaa
/- reports: places and their order; reports in memory. -/
namespace Go.Proofs.Ytgdbmoggpfpkkaa
open Go.RowKit
/-- order of two ints -/
def cmpZ (a b : Int) : Int := if a < b then -1 else if b < a then 1 else 0
theorem cmpZ_lt {a b : Int} (h : a < b) : cmpZ a b = -1 := by unfold cmpZ; rw [if_pos h]
theorem cmpZ_gt {a b : Int} (h : b < a) : cmpZ a b = 1 := by unfold cmpZ; rw [if_neg (by omega), if_pos h]
theorem cmpZ_eq (a : Int) : cmpZ a a = 0 := by unfold cmpZ; rw [if_neg (by omega), if_neg (by omega)]
def orZ (x y : Int) : Int := if x ≠ 0 then x else y
theorem orZ_zero (y : Int) : orZ 0 y = y := by unfold orZ; rw [if_neg (by simp)]
theorem orZ_ne {x : Int} (y : Int) (h : x ≠ 0) : orZ x y = x := by unfold orZ; rw [if_pos h]
/-- order of places -/
def cmpP (s n t m : Int) : Int := orZ (cmpZ s t) (cmpZ n m)
theorem cell_alloc' {w : World} {o : Obj} {p : Addr} {v : Value} (h : w.cell? p = some v) : (w.alloc o).drew.cell? p = some v := cell_ext ((Below.refl w.heap.size w).alloc (Nat.le_refl _) o) h
theorem isnan_any (a : Int) (w : World) : Calls Try.prog 85 #[.int .i64 a] w fun e w' => e = .returned (.bool false) ∧ w = w' := by
  go_enter Try.func85, Try.ntmps85
  go_wp2
  go_ret
  exact ⟨by simp, rfl⟩
theorem compare_any (a b : Int) (w : World) : Calls Try.prog 63 #[.int .i64 a, .int .i64 b] w fun e w' => e = .returned (.int .i64 (cmpZ a b)) ∧ w = w' := by
  rcases (by omega : a < b ∨ b < a ∨ a = b) with h | h | h
  · have Hc := Lib.hid (cmpZ_lt h)
    have t1 : decide (a < b) = true := decide_eq_true h
    clear h
    go_enter Try.func63, Try.ntmps63
    go_wp2_with (go_at_call 85; refine (isnan_any _ _).mono ?_; rintro e w' ⟨rfl, rfl⟩)
    go_ret
    exact ⟨by rw [Hc.out]; rfl, rfl⟩
  · have Hc := Lib.hid (cmpZ_gt h)
    have t1 : decide (a < b) = false := decide_eq_false (by omega)
    have t2 : decide (b < a) = true := decide_eq_true h
    clear h
    go_enter Try.func63, Try.ntmps63
    go_wp2_with (go_at_call 85; refine (isnan_any _ _).mono ?_; rintro e w' ⟨rfl, rfl⟩)
    go_ret
    exact ⟨by rw [Hc.out]; rfl, rfl⟩
  · subst h
    have Hc := Lib.hid (cmpZ_eq a)
    have t1 : decide (a < a) = false := decide_eq_false (by omega)
    go_enter Try.func63, Try.ntmps63
    go_wp2_with (go_at_call 85; refine (isnan_any _ _).mono ?_; rintro e w' ⟨rfl, rfl⟩)
    go_ret
    exact ⟨by rw [Hc.out]; rfl, rfl⟩
theorem or_any (x y : Int) (g cap : Nat) (w : World) (c0 : w.cell? ⟨g, 0, none⟩ = some (.int .i64 x)) (c1 : w.cell? ⟨g, 1, none⟩ = some (.int .i64 y)) :
    Calls Try.prog 62 #[.slice (some ⟨g, 0, none⟩) 2 cap] w fun e w' => e = .returned (.int .i64 (orZ x y)) ∧ w = w' := by
  by_cases hx : x = 0
  · subst hx
    rw [orZ_zero]
    by_cases hy : y = 0
    · subst hy
      go_enter Try.func62, Try.ntmps62
      go_wp2
      refine wp_loop_rounds 3 ?_
      rw [rounds_succ]; go_wp2
      rw [rounds_succ]; go_wp2
      rw [rounds_succ]; go_wp2
      go_ret
      exact ⟨rfl, rfl⟩
    · have t1 : (y != 0) = true := by rw [bne_iff_ne]; exact hy
      have t2 : ¬ y = 0 := hy
      clear hy
      go_enter Try.func62, Try.ntmps62
      go_wp2
      refine wp_loop_rounds 3 ?_
      rw [rounds_succ]; go_wp2
      rw [rounds_succ]; go_wp2
      go_ret
      exact ⟨rfl, rfl⟩
  · have t1 : (x != 0) = true := by rw [bne_iff_ne]; exact hx
    rw [orZ_ne y hx]
    go_enter Try.func62, Try.ntmps62
    go_wp2
    refine wp_loop_rounds 3 ?_
    rw [rounds_succ]; go_wp2
    go_ret
    exact ⟨rfl, rfl⟩
/-- a place as a value -/
def plV (s n : Int) : Value := .agg #[.int .i64 s, .int .i64 n]
set_option maxRecDepth 100000 in
theorem placeOf_any (r : Rp) (w : World) : Calls Try.prog 42 #[r.v] w fun e w' => e = .returned (plV r.st r.no) ∧ Below w.heap.size w w' := by
  obtain ⟨st, no, mi, ar, cl, vo⟩ := r
  change Calls Try.prog 42 #[.agg #[.int .i64 st, .int .i64 no, .int .i64 mi, .int .i64 ar, .string cl, .int .i64 vo]] w _
  go_enter Try.func42, Try.ntmps42
  go_wp2_with fail
  refine bodyPost_ret (v := plV st no) (by simp [results, Try.results42, go_sem, plV]) rfl ⟨rfl, ?_⟩
  repeat (first | exact Below.refl _ _ | exact (Below.refl _ _).alloc (Nat.le_refl _) _ | refine Below.setCell ?_ (by simp) _ | refine Below.alloc ?_ (by simp) _)
set_option maxRecDepth 100000 in
set_option maxHeartbeats 2000000 in
theorem cmpp_any (s n t m : Int) (w : World) : Calls Try.prog 44 #[plV s n, plV t m] w fun e w' => e = .returned (.int .i64 (cmpP s n t m)) ∧ Below w.heap.size w w' := by
  obtain ⟨x, hx⟩ : ∃ x, cmpZ s t = x := ⟨_, rfl⟩
  obtain ⟨y, hy⟩ : ∃ y, cmpZ n m = y := ⟨_, rfl⟩
  have hfin : Hid (cmpP s n t m = orZ x y) := by show _ = _; unfold cmpP; rw [hx, hy]
  have Hx := Lib.hid hx; have Hy := Lib.hid hy
  clear hx hy
  have hcb1 : Hid (CB ((w.alloc (.cells #[.int .i64 s, .int .i64 n] 69)).alloc (.cells #[.int .i64 t, .int .i64 m] 69)) w.heap.size 69 [.int .i64 s, .int .i64 n]) := (CB.new w _ _).alloc _
  have hcb2 : Hid (CB ((w.alloc (.cells #[.int .i64 s, .int .i64 n] 69)).alloc (.cells #[.int .i64 t, .int .i64 m] 69)) (w.heap.size + 1) 69 [.int .i64 t, .int .i64 m]) := by
    have h := CB.new (w.alloc (.cells #[.int .i64 s, .int .i64 n] 69)) 69 [.int .i64 t, .int .i64 m]
    rw [World.size_alloc] at h
    exact h
  have hb0 := Lib.hid (((Below.refl w.heap.size w).alloc (Nat.le_refl _) (.cells #[.int .i64 s, .int .i64 n] 69)).alloc (by simp) (.cells #[.int .i64 t, .int .i64 m] 69))
  change Calls Try.prog 44 #[.agg #[.int .i64 s, .int .i64 n], .agg #[.int .i64 t, .int .i64 m]] w _
  go_enter Try.func44, Try.ntmps44
  go_upto_region 1 with fail
  generalize (w.alloc (.cells #[.int .i64 s, .int .i64 n] 69)).alloc (.cells #[.int .i64 t, .int .i64 m] 69) = w0 at *
  have c0 : w0.cell? ⟨w.heap.size, 0, none⟩ = some (.int .i64 s) := hcb1.out.cell 0
  have c1 : w0.cell? ⟨w.heap.size, 1, none⟩ = some (.int .i64 n) := hcb1.out.cell 1
  have d0 : w0.cell? ⟨w.heap.size + 1, 0, none⟩ = some (.int .i64 t) := hcb2.out.cell 0
  have d1 : w0.cell? ⟨w.heap.size + 1, 1, none⟩ = some (.int .i64 m) := hcb2.out.cell 1
  go_region_held3 (fun w' => w'.cell? ⟨w.heap.size, 0, none⟩ = some (.int .i64 s) ∧ w'.cell? ⟨w.heap.size, 1, none⟩ = some (.int .i64 n) ∧ w'.cell? ⟨w.heap.size + 1, 0, none⟩ = some (.int .i64 t) ∧ w'.cell? ⟨w.heap.size + 1, 1, none⟩ = some (.int .i64 m))
    (first | assumption | exact ⟨c0, c1, d0, d1⟩ | exact ⟨cell_alloc' c0, cell_alloc' c1, cell_alloc' d0, cell_alloc' d1⟩ | go_keep)
    (first
     | (go_at_call 63; refine (compare_any _ _ _).mono ?_; rintro e w7 ⟨rfl, rfl⟩)
     | (go_at_call 62; refine (or_any (cmpZ s t) (cmpZ n m) w0.heap.size _ _ (by exact (CB.new w0 3 [.int .i64 (cmpZ s t), .int .i64 (cmpZ n m)]).cell 0) (by exact (CB.new w0 3 [.int .i64 (cmpZ s t), .int .i64 (cmpZ n m)]).cell 1)).mono ?_; rintro e w7 ⟨rfl, rfl⟩))
  all_goals
    go_wp2
    go_ret
    exact ⟨by rw [hfin.out, ← Hx.out, ← Hy.out]; rfl, (hb0.out.drew).alloc (hb0.out.size) _⟩
end Go.Proofs.Ytgdbmoggpfpkkaa
/- the reference: Check of a report. -/
namespace Go.Proofs.Ytgdbmoggpfpkkaa
open Go.RowKit
set_option maxRecDepth 100000 in
set_option maxHeartbeats 4000000 in
theorem rcheck22_any (m m1 : Int) (r : Rp) (w : World) (hm : IntKind.i64.wrap (m - 1) = m1) (hs : r.cl.size ≤ 9223372036854775807) :
    Calls Try.prog 14 #[.int .i64 m, r.v] w (ChkR (repB m m1 r) w) := by
  obtain ⟨st, no, mi, ar, cl, vo⟩ := r
  have e1 : wrap64 (m - 1) = m1 := by rw [← hm]; exact (IntWalk.i64_left _).symm
  have Hs : Hid (cl.size ≤ 9223372036854775807) := hs
  clear hs
  obtain ⟨t0, h0⟩ : ∃ t, badL (m, 0, 4) = t := ⟨_, rfl⟩
  obtain ⟨t1, h1⟩ : ∃ t, badL (st, 0, m1) = t := ⟨_, rfl⟩
  obtain ⟨t2, h2⟩ : ∃ t, badL (no, 1, 1048576) = t := ⟨_, rfl⟩
  obtain ⟨t3, h3⟩ : ∃ t, badL (mi, 0, 1439) = t := ⟨_, rfl⟩
  obtain ⟨t4, h4⟩ : ∃ t, badL (ar, 0, 1439) = t := ⟨_, rfl⟩
  obtain ⟨t5, h5⟩ : ∃ t, badL (vo, 0, 63) = t := ⟨_, rfl⟩
  obtain ⟨u, hu⟩ : ∃ t, nameB cl.data.toList = t := ⟨_, rfl⟩
  have hfin : Hid (repB m m1 ⟨st, no, mi, ar, cl, vo⟩ = (!(t0 || t1 || t2 || t3 || t4 || t5) && u)) := by
    show _ = _
    unfold repB limsR
    simp only [List.any_cons, List.any_nil, h0, h1, h2, h3, h4, h5, hu]
    cases t0 <;> cases t1 <;> cases t2 <;> cases t3 <;> cases t4 <;> cases t5 <;> rfl
  have H0 := Lib.hid h0
  have H1 := Lib.hid h1
  have H2 := Lib.hid h2
  have H3 := Lib.hid h3
  have H4 := Lib.hid h4
  have H5 := Lib.hid h5
  have Hu := Lib.hid hu
  clear h0 h1 h2 h3 h4 h5 hu
  have hcb0 : Hid (CB (w.alloc (.cells #[.int .i64 st, .int .i64 no, .int .i64 mi, .int .i64 ar, .string cl, .int .i64 vo] 23)) w.heap.size 23 [.int .i64 st, .int .i64 no, .int .i64 mi, .int .i64 ar, .string cl, .int .i64 vo]) := CB.new w _ _
  have hb0 := Lib.hid ((Below.refl w.heap.size w).alloc (Nat.le_refl _) (.cells #[.int .i64 st, .int .i64 no, .int .i64 mi, .int .i64 ar, .string cl, .int .i64 vo] 23))
  change Calls Try.prog 14 #[.int .i64 m, .agg #[.int .i64 st, .int .i64 no, .int .i64 mi, .int .i64 ar, .string cl, .int .i64 vo]] w _
  go_enter Try.func14, Try.ntmps14
  go_upto_region 1 with fail
  generalize w.alloc (.cells #[.int .i64 st, .int .i64 no, .int .i64 mi, .int .i64 ar, .string cl, .int .i64 vo] 23) = w0 at *
  have c0 : w0.cell? ⟨w.heap.size, 0, none⟩ = some (.int .i64 st) := hcb0.out.cell 0
  have c1 : w0.cell? ⟨w.heap.size, 1, none⟩ = some (.int .i64 no) := hcb0.out.cell 1
  have c2 : w0.cell? ⟨w.heap.size, 2, none⟩ = some (.int .i64 mi) := hcb0.out.cell 2
  have c3 : w0.cell? ⟨w.heap.size, 3, none⟩ = some (.int .i64 ar) := hcb0.out.cell 3
  have c4 : w0.cell? ⟨w.heap.size, 4, none⟩ = some (.string cl) := hcb0.out.cell 4
  have c5 : w0.cell? ⟨w.heap.size, 5, none⟩ = some (.int .i64 vo) := hcb0.out.cell 5
  go_wp2_with fail
  refine (in_any m 0 4 _).mono ?_
  rw [H0.out]
  rintro e w2 ⟨rfl, rfl⟩
  cases t0
  case true =>
    go_wp2_with fail
    go_ret
    exact ⟨by rw [hfin.out]; simp, hb0.out⟩
  case false =>
  skip
  go_wp2_with fail
  refine (in_any st 0 m1 _).mono ?_
  rw [H1.out]
  rintro e w2 ⟨rfl, rfl⟩
  cases t1
  case true =>
    go_wp2_with fail
    go_ret
    exact ⟨by rw [hfin.out]; simp, hb0.out⟩
  case false =>
  skip
  go_wp2_with fail
  refine (in_any no 1 1048576 _).mono ?_
  rw [H2.out]
  rintro e w2 ⟨rfl, rfl⟩
  cases t2
  case true =>
    go_wp2_with fail
    go_ret
    exact ⟨by rw [hfin.out]; simp, hb0.out⟩
  case false =>
  skip
  go_wp2_with fail
  refine (in_any mi 0 1439 _).mono ?_
  rw [H3.out]
  rintro e w2 ⟨rfl, rfl⟩
  cases t3
  case true =>
    go_wp2_with fail
    go_ret
    exact ⟨by rw [hfin.out]; simp, hb0.out⟩
  case false =>
  skip
  go_wp2_with fail
  refine (in_any ar 0 1439 _).mono ?_
  rw [H4.out]
  rintro e w2 ⟨rfl, rfl⟩
  cases t4
  case true =>
    go_wp2_with fail
    go_ret
    exact ⟨by rw [hfin.out]; simp, hb0.out⟩
  case false =>
  skip
  go_wp2_with fail
  refine (rname_any cl Hs.out _).mono ?_
  unfold NamePost
  rw [Hu.out]
  rintro e w2 ⟨rfl, rfl⟩
  cases u
  case false =>
    go_wp2_with fail
    go_ret
    exact ⟨by rw [hfin.out]; simp, hb0.out⟩
  case true =>
  skip
  go_wp2_with fail
  refine (in_any vo 0 63 _).mono ?_
  rw [H5.out]
  rintro e w2 ⟨rfl, rfl⟩
  cases t5
  case true =>
    go_wp2_with fail
    go_ret
    exact ⟨by rw [hfin.out]; simp, hb0.out⟩
  case false =>
  skip
  go_wp2_with fail
  go_ret
  exact ⟨by rw [hfin.out]; simp, hb0.out⟩
end Go.Proofs.Ytgdbmoggpfpkkaa
