/- the reference's Decode: what is read whole. -/
import Derived.Test.YtebedfcdbhgfdaaRri
import Derived.Test.YtebedfcdbhgfdaaRsb
namespace Go.Proofs.Ytebedfcdbhgfdaa
open Go.RowKit

theorem take_dst {P : Program} {md : Region.Mode} {ops : Array Oper} {Q : Exit → Act → World → Prop} {S : World → Prop} (d : Option Tmp) {i : Nat} {oi : Oper} {v : Value} {fuel : Nat} {listed : Array Bool} {a : Act} {w : World} (hi : ops[i]? = some oi) (hd : oi.dst = d)
    (hs : Region.noSelect ops = true) (hf : Region.free md ops listed i = true) (hr : (Region.ready md ops listed).contains i = true)
    (hQ : ∀ c a w, Q (.panic c) (a.put d v) w → Q (.panic c) a w) (hy : YieldsIf P ops S oi v a) (hS : S w)
    (h : wpAnyH P md ops Q S fuel (listed.setIfInBounds i true) (a.put d v) w) : wpAnyH P md ops Q S (fuel + 1) listed a w := by
  subst hd
  exact wpAnyH_take hi hs hf hr hQ hy hS h
theorem decJ_ext {w w' : World} (hb : Below w.heap.size w w') {R T : Nat} {a b c d x y : Value} {v : Value} {l : List UInt8} {B : Nat} (hR1 : w.cell? ⟨R, 1, none⟩ = some x) (hR2 : w.cell? ⟨R, 2, none⟩ = some y) (hc : C4 w T a b c d) (hv : BtsAt B w l v) (hB : B ≤ w.heap.size) :
    w'.cell? ⟨R, 1, none⟩ = some x ∧ w'.cell? ⟨R, 2, none⟩ = some y ∧ w'.cell? ⟨T, 0, none⟩ = some a ∧ w'.cell? ⟨T, 1, none⟩ = some b ∧ w'.cell? ⟨T, 2, none⟩ = some c ∧ w'.cell? ⟨T, 3, none⟩ = some d ∧ (convert 27 9 v).run Try.prog w' = .ok (.string ⟨l.toArray⟩) w' :=
  ⟨cell_ext hb hR1, cell_ext hb hR2, cell_ext hb hc.c0, cell_ext hb hc.c1, cell_ext hb hc.c2, cell_ext hb hc.c3, conv_bts ((hv.keep hB fun _ _ => rfl).ext hb)⟩

set_option maxRecDepth 100000 in
set_option maxHeartbeats 4000000 in
theorem rdecode_some (l : List UInt8) (hl : l.length ≤ 4000) (oa : Option Addr) (cap : Nat) (w : World) (hb : BtsAt w.heap.size w l (.slice oa l.length cap)) (x : V) (hN : rdV 16 l = some (x, [])) :
    Calls Try.prog 19 #[.slice oa l.length cap] w (DecRd (some x) w) := by
  have hdF : decF l = some x := by unfold decF; rw [hN]
  obtain ⟨henc, hck, hok, hsz⟩ := decF_sound hdF (by unfold maxLen; omega)
  have hfm := Lib.hid (ck_ok hck).1
  have hsx : sz x ≤ 60000 := by omega
  have Henc := Lib.hid henc; have Hck := Lib.hid hck
  clear hok hsz henc hck hdF
  have HB := Lib.hid hb; clear hb
  have HN := Lib.hid hN; clear hN
  go_enter Try.func19, Try.ntmps19
  go_wp2_with fail
  refine (rvalue_any 16 (by omega) w.heap.size (w.heap.size + 1) 0 l 0 (by simp) (by omega) _ (refAt_made HB.out) (by simp)).mono ?_
  rw [List.drop_zero, HN.out]
  rintro e w9 ⟨x', v9, q, bad, rfl, hv9, hrd9, hg9, hbad⟩
  obtain ⟨rfl, rfl, hq⟩ := hbad
  obtain rfl : q = l.length := by
    have h1 := hrd9.hp
    have h2 : (l.drop q).length = 0 := by rw [hq]; rfl
    rw [List.length_drop] at h2; omega
  have hs9 := hg9.size
  simp only [World.size_alloc] at hs9
  have hrv : RdV w9.heap.size w9 x' v9 := hv9.rd fun k hk => hk.2
  obtain ⟨xo, xc, rfl, _⟩ := hrv.form
  have hbx := ((BoxAt.made w 24 (.int .i64 0) (.int .i64 0) (.string ⟨#[]⟩) (.slice none 0 0)).grown (R := w.heap.size + 1) (grown_alloc (grown_refl _ _) (.cells #[.slice oa l.length cap, .int .i64 0, .bool false] 62)) (by omega)).grown hg9 (by omega)
  have hgw : w.grownBy w9 (some (w.heap.size + 1)) := grown_trans (grown_alloc (grown_alloc (grown_refl w _) _) _) hg9 (.inl rfl)
  have hV9 := Lib.hid hv9
  have hbw9 : Below w.heap.size w w9 := below_of_grown hgw (by omega)
  have hHX := Lib.hid (hrv.alloc (.cells #[.int .i64 x'.kind, .int .i64 x'.n, .string x'.s, .slice xo x'.l.length xc] 24))
  have hBX := Lib.hid (hbx.grown (R := w.heap.size + 1) (grown_alloc (grown_refl w9 _) (.cells #[.int .i64 x'.kind, .int .i64 x'.n, .string x'.s, .slice xo x'.l.length xc] 24)) (by omega))
  have hC4 : Hid (C4 (w9.alloc (.cells #[.int .i64 x'.kind, .int .i64 x'.n, .string x'.s, .slice xo x'.l.length xc] 24)) w9.heap.size (.int .i64 x'.kind) (.int .i64 x'.n) (.string x'.s) (.slice xo x'.l.length xc)) := C4.of_box (w := w9) (Below.refl _ _)
  have hR1 := Lib.hid (((hrd9.alloc (by omega) (.cells #[.int .i64 x'.kind, .int .i64 x'.n, .string x'.s, .slice xo x'.l.length xc] 24))).c1)
  have hR2 := Lib.hid (((hrd9.alloc (by omega) (.cells #[.int .i64 x'.kind, .int .i64 x'.n, .string x'.s, .slice xo x'.l.length xc] 24))).c2)
  have hBT := Lib.hid ((HB.out.ext hbw9).keep (Nat.le_refl _) (w' := w9.alloc (.cells #[.int .i64 x'.kind, .int .i64 x'.n, .string x'.s, .slice xo x'.l.length xc] 24)) fun k hk => Below.heap_alloc w9 _ k hk)
  have hb10 : Hid (Below w9.heap.size w9 (w9.alloc (.cells #[.int .i64 x'.kind, .int .i64 x'.n, .string x'.s, .slice xo x'.l.length xc] 24))) := (Below.refl _ _).alloc (Nat.le_refl _) _
  have hsz10 : w9.heap.size < (w9.alloc (.cells #[.int .i64 x'.kind, .int .i64 x'.n, .string x'.s, .slice xo x'.l.length xc] 24)).heap.size := by simp
  have Hbw9 := Lib.hid hbw9
  clear hrv hbx hgw hv9 hrd9 hg9 hq hbw9
  go_wp2
  generalize w9.alloc (.cells #[.int .i64 x'.kind, .int .i64 x'.n, .string x'.s, .slice xo x'.l.length xc] 24) = w10 at *
  have hS := decJ_ext ((Below.refl _ w10).drew) hR1.out hR2.out hC4.out hBT.out (by omega)
  have HS0 := Lib.hid hsz10
  clear hsz10
  refine wp_region_noPanic ?_
  refine wp_region_held_drew (S := (fun w' => w'.cell? ⟨w.heap.size + 1, 1, none⟩ = some (.int .i64 l.length) ∧ w'.cell? ⟨w.heap.size + 1, 2, none⟩ = some (.bool false) ∧ w'.cell? ⟨w9.heap.size, 0, none⟩ = some (.int .i64 x'.kind) ∧ w'.cell? ⟨w9.heap.size, 1, none⟩ = some (.int .i64 x'.n) ∧ w'.cell? ⟨w9.heap.size, 2, none⟩ = some (.string x'.s) ∧ w'.cell? ⟨w9.heap.size, 3, none⟩ = some (.slice xo x'.l.length xc) ∧ (convert 27 9 (.slice oa l.length cap)).run Try.prog w' = .ok (.string ⟨l.toArray⟩) w')) (by kernel_rfl) hS (fun hHeld => ?_)
  refine take_dst (some 11) (i := 0) (v := ?vd0) rfl rfl (by kernel_rfl) (by kernel_rfl) (by kernel_rfl) (fun _ _ _ h => h) (Or.inl ⟨by rfl, fun wS hSw => ?hyd0⟩) (by assumption) ?restd0
  case hyd0 => (obtain ⟨h0, h1, h2, h3, h4, h5, h6⟩ := hSw; go_simp; first | done | with_reducible rfl)
  try simp only [Act.put, List.setIfInBounds_toArray, List.set_cons_zero, List.set_cons_succ]
  refine take_dst (some 12) (i := 1) (v := ?vd1) rfl rfl (by kernel_rfl) (by kernel_rfl) (by kernel_rfl) (fun _ _ _ h => h) (Or.inl ⟨by rfl, fun wS hSw => ?hyd1⟩) (by assumption) ?restd1
  case hyd1 => (obtain ⟨h0, h1, h2, h3, h4, h5, h6⟩ := hSw; go_simp; first | done | with_reducible rfl)
  try simp only [Act.put, List.setIfInBounds_toArray, List.set_cons_zero, List.set_cons_succ]
  refine take_dst (some 13) (i := 2) (v := ?vd2) rfl rfl (by kernel_rfl) (by kernel_rfl) (by kernel_rfl) (fun _ _ _ h => h) (Or.inl ⟨by rfl, fun wS hSw => ?hyd2⟩) (by assumption) ?restd2
  case hyd2 => (obtain ⟨h0, h1, h2, h3, h4, h5, h6⟩ := hSw; go_simp; first | done | with_reducible rfl)
  try simp only [Act.put, List.setIfInBounds_toArray, List.set_cons_zero, List.set_cons_succ]
  refine take_dst (some 14) (i := 3) (v := ?vd3) rfl rfl (by kernel_rfl) (by kernel_rfl) (by kernel_rfl) (fun _ _ _ h => h) (Or.inl ⟨by rfl, fun wS hSw => ?hyd3⟩) (by assumption) ?restd3
  case hyd3 => (obtain ⟨h0, h1, h2, h3, h4, h5, h6⟩ := hSw; go_simp; first | done | with_reducible rfl)
  try simp only [Act.put, List.setIfInBounds_toArray, List.set_cons_zero, List.set_cons_succ]
  refine take_dst (some 15) (i := 4) (v := ?vd4) rfl rfl (by kernel_rfl) (by kernel_rfl) (by kernel_rfl) (fun _ _ _ h => h) (Or.inl ⟨by rfl, fun wS hSw => ?hyd4⟩) (by assumption) ?restd4
  case hyd4 => (obtain ⟨h0, h1, h2, h3, h4, h5, h6⟩ := hSw; go_simp; first | done | with_reducible rfl)
  try simp only [Act.put, List.setIfInBounds_toArray, List.set_cons_zero, List.set_cons_succ]
  refine take_dst (some 16) (i := 5) (v := ?vd5) rfl rfl (by kernel_rfl) (by kernel_rfl) (by kernel_rfl) (fun _ _ _ h => h) (Or.inl ⟨by rfl, fun wS hSw => ?hyd5⟩) (by assumption) ?restd5
  case hyd5 => (obtain ⟨h0, h1, h2, h3, h4, h5, h6⟩ := hSw; go_simp; first | done | with_reducible rfl)
  try simp only [Act.put, List.setIfInBounds_toArray, List.set_cons_zero, List.set_cons_succ]
  refine take_dst (some 17) (i := 6) (v := ?vd6) rfl rfl (by kernel_rfl) (by kernel_rfl) (by kernel_rfl) (fun _ _ _ h => h) (Or.inl ⟨by rfl, fun wS hSw => ?hyd6⟩) (by assumption) ?restd6
  case hyd6 => (obtain ⟨h0, h1, h2, h3, h4, h5, h6⟩ := hSw; go_simp; first | done | with_reducible rfl)
  try simp only [Act.put, List.setIfInBounds_toArray, List.set_cons_zero, List.set_cons_succ]
  refine take_dst (some 18) (i := 7) (v := ?vd7) rfl rfl (by kernel_rfl) (by kernel_rfl) (by kernel_rfl) (fun _ _ _ h => h) (Or.inl ⟨by rfl, fun wS hSw => ?hyd7⟩) (by assumption) ?restd7
  case hyd7 => (obtain ⟨h0, h1, h2, h3, h4, h5, h6⟩ := hSw; go_simp; first | done | with_reducible rfl)
  try simp only [Act.put, List.setIfInBounds_toArray, List.set_cons_zero, List.set_cons_succ]
  refine take_dst (some 19) (i := 8) (v := ?vd8) rfl rfl (by kernel_rfl) (by kernel_rfl) (by kernel_rfl) (fun _ _ _ h => h) (Or.inl ⟨by rfl, fun wS hSw => ?hyd8⟩) (by assumption) ?restd8
  case hyd8 => (obtain ⟨h0, h1, h2, h3, h4, h5, h6⟩ := hSw; go_simp; first | done | with_reducible rfl)
  try simp only [Act.put, List.setIfInBounds_toArray, List.set_cons_zero, List.set_cons_succ]
  refine take_dst (some 20) (i := 9) (v := ?vd9) rfl rfl (by kernel_rfl) (by kernel_rfl) (by kernel_rfl) (fun _ _ _ h => h) (Or.inl ⟨by rfl, fun wS hSw => ?hyd9⟩) (by assumption) ?restd9
  case hyd9 => (obtain ⟨h0, h1, h2, h3, h4, h5, h6⟩ := hSw; go_simp; first | done | with_reducible rfl)
  try simp only [Act.put, List.setIfInBounds_toArray, List.set_cons_zero, List.set_cons_succ]
  refine take_dst (some 21) (i := 10) (v := ?vd10) rfl rfl (by kernel_rfl) (by kernel_rfl) (by kernel_rfl) (fun _ _ _ h => h) (Or.inl ⟨by rfl, fun wS hSw => ?hyd10⟩) (by assumption) ?restd10
  case hyd10 => (obtain ⟨h0, h1, h2, h3, h4, h5, h6⟩ := hSw; go_simp; first | done | with_reducible rfl)
  try simp only [Act.put, List.setIfInBounds_toArray, List.set_cons_zero, List.set_cons_succ]
  refine take_dst (some 22) (i := 11) (v := ?vd11) rfl rfl (by kernel_rfl) (by kernel_rfl) (by kernel_rfl) (fun _ _ _ h => h) (Or.inl ⟨by rfl, fun wS hSw => ?hyd11⟩) (by assumption) ?restd11
  case hyd11 => (obtain ⟨h0, h1, h2, h3, h4, h5, h6⟩ := hSw; go_simp; first | done | with_reducible rfl)
  try simp only [Act.put, List.setIfInBounds_toArray, List.set_cons_zero, List.set_cons_succ]
  refine take_dst (some 23) (i := 12) (v := ?vd12) rfl rfl (by kernel_rfl) (by kernel_rfl) (by kernel_rfl) (fun _ _ _ h => h) (Or.inl ⟨by rfl, fun wS hSw => ?hyd12⟩) (by assumption) ?restd12
  case hyd12 => (obtain ⟨h0, h1, h2, h3, h4, h5, h6⟩ := hSw; go_simp; first | done | with_reducible rfl)
  try simp only [Act.put, List.setIfInBounds_toArray, List.set_cons_zero, List.set_cons_succ]
  refine take_dst (some 24) (i := 13) (v := ?vd13) rfl rfl (by kernel_rfl) (by kernel_rfl) (by kernel_rfl) (fun _ _ _ h => h) (Or.inl ⟨by rfl, fun wS hSw => ?hyd13⟩) (by assumption) ?restd13
  case hyd13 => (obtain ⟨h0, h1, h2, h3, h4, h5, h6⟩ := hSw; go_simp; first | done | with_reducible rfl)
  try simp only [Act.put, List.setIfInBounds_toArray, List.set_cons_zero, List.set_cons_succ]
  refine take_dst (some 25) (i := 14) (v := ?vd14) rfl rfl (by kernel_rfl) (by kernel_rfl) (by kernel_rfl) (fun _ _ _ h => h) (Or.inl ⟨by rfl, fun wS hSw => ?hyd14⟩) (by assumption) ?restd14
  case hyd14 => (obtain ⟨h0, h1, h2, h3, h4, h5, h6⟩ := hSw; go_simp; first | done | with_reducible rfl)
  try simp only [Act.put, List.setIfInBounds_toArray, List.set_cons_zero, List.set_cons_succ]
  refine wpAnyH_ready (rs := [15]) (by kernel_rfl) (by simp) ?_
  refine AllReadyH.cons rfl (fun K hK => ?_) AllReadyH.nil
  go_simp
  refine (rcheck_any x' hsx _ _ hHX.out.drew).mono ?_
  rw [Hck.out]
  rintro e w7 ⟨rfl, hb7⟩
  have hbS : Below w10.heap.size w10 w7 := below_undrew hb7
  refine hK.out _ _ (decJ_ext hbS hR1.out hR2.out hC4.out hBT.out (by have := HS0.out; omega)) (fun hHeld => ?_)
  clear hK K
  try simp only [Act.put, List.setIfInBounds_toArray, List.set_cons_zero, List.set_cons_succ]
  refine take_dst (some 27) (i := 16) (v := ?vd16) rfl rfl (by kernel_rfl) (by kernel_rfl) (by kernel_rfl) (fun _ _ _ h => h) (Or.inl ⟨by rfl, fun wS hSw => ?hyd16⟩) (by assumption) ?restd16
  case hyd16 => (obtain ⟨h0, h1, h2, h3, h4, h5, h6⟩ := hSw; go_simp; first | done | with_reducible rfl)
  try simp only [Act.put, List.setIfInBounds_toArray, List.set_cons_zero, List.set_cons_succ]
  refine take_dst (some 28) (i := 17) (v := ?vd17) rfl rfl (by kernel_rfl) (by kernel_rfl) (by kernel_rfl) (fun _ _ _ h => h) (Or.inl ⟨by rfl, fun wS hSw => ?hyd17⟩) (by assumption) ?restd17
  case hyd17 => (obtain ⟨h0, h1, h2, h3, h4, h5, h6⟩ := hSw; go_simp; first | done | with_reducible rfl)
  try simp only [Act.put, List.setIfInBounds_toArray, List.set_cons_zero, List.set_cons_succ]
  refine take_dst (some 29) (i := 18) (v := ?vd18) rfl rfl (by kernel_rfl) (by kernel_rfl) (by kernel_rfl) (fun _ _ _ h => h) (Or.inl ⟨by rfl, fun wS hSw => ?hyd18⟩) (by assumption) ?restd18
  case hyd18 => (obtain ⟨h0, h1, h2, h3, h4, h5, h6⟩ := hSw; go_simp; first | done | with_reducible rfl)
  try simp only [Act.put, List.setIfInBounds_toArray, List.set_cons_zero, List.set_cons_succ]
  refine take_dst (some 30) (i := 19) (v := ?vd19) rfl rfl (by kernel_rfl) (by kernel_rfl) (by kernel_rfl) (fun _ _ _ h => h) (Or.inl ⟨by rfl, fun wS hSw => ?hyd19⟩) (by assumption) ?restd19
  case hyd19 => (obtain ⟨h0, h1, h2, h3, h4, h5, h6⟩ := hSw; go_simp; first | done | with_reducible rfl)
  try simp only [Act.put, List.setIfInBounds_toArray, List.set_cons_zero, List.set_cons_succ]
  refine take_dst (some 33) (i := 22) (v := ?vd22) rfl rfl (by kernel_rfl) (by kernel_rfl) (by kernel_rfl) (fun _ _ _ h => h) (Or.inl ⟨by rfl, fun wS hSw => ?hyd22⟩) (by assumption) ?restd22
  case hyd22 => (obtain ⟨h0, h1, h2, h3, h4, h5, h6⟩ := hSw; go_simp; first | done | with_reducible rfl)
  try simp only [Act.put, List.setIfInBounds_toArray, List.set_cons_zero, List.set_cons_succ]
  refine take_dst (some 34) (i := 23) (v := ?vd23) rfl rfl (by kernel_rfl) (by kernel_rfl) (by kernel_rfl) (fun _ _ _ h => h) (Or.inl ⟨by rfl, fun wS hSw => ?hyd23⟩) (by assumption) ?restd23
  case hyd23 => (obtain ⟨h0, h1, h2, h3, h4, h5, h6⟩ := hSw; go_simp; first | done | with_reducible rfl)
  try simp only [Act.put, List.setIfInBounds_toArray, List.set_cons_zero, List.set_cons_succ]
  refine wpAnyH_ready (rs := [20]) (by kernel_rfl) (by simp) ?_
  refine AllReadyH.cons rfl (fun K hK => ?_) AllReadyH.nil
  go_simp
  refine (rencode_any 60000 (by decide) x' hfm.out hsx _ _ (hHX.out.ext hbS)).mono ?_
  rw [Henc.out]
  rintro e w8 ⟨v2, rfl, ho2, hb8⟩
  have hcv := conv_B ho2.rd
  replace hbS := below_ext hbS hb8
  refine hK.out _ _ (decJ_ext hbS hR1.out hR2.out hC4.out hBT.out (by have := HS0.out; omega)) (fun hHeld => ?_)
  clear hK K
  try simp only [Act.put, List.setIfInBounds_toArray, List.set_cons_zero, List.set_cons_succ]
  refine wpAnyH_ready (rs := [21]) (by kernel_rfl) (by simp) ?_
  refine AllReadyH.cons rfl (fun K hK => ?_) AllReadyH.nil
  go_simp
  refine hK.out _ _ hHeld (fun hHeld => ?_)
  clear hK K
  try simp only [Act.put, List.setIfInBounds_toArray, List.set_cons_zero, List.set_cons_succ]
  refine take_dst (some 35) (i := 24) (v := ?vd24) rfl rfl (by kernel_rfl) (by kernel_rfl) (by kernel_rfl) (fun _ _ _ h => h) (Or.inl ⟨by rfl, fun wS hSw => ?hyd24⟩) (by assumption) ?restd24
  case hyd24 => (obtain ⟨h0, h1, h2, h3, h4, h5, h6⟩ := hSw; go_simp; first | done | with_reducible rfl)
  try simp only [Act.put, List.setIfInBounds_toArray, List.set_cons_zero, List.set_cons_succ]
  refine take_dst (some 36) (i := 25) (v := ?vd25) rfl rfl (by kernel_rfl) (by kernel_rfl) (by kernel_rfl) (fun _ _ _ h => h) (Or.inl ⟨by rfl, fun wS hSw => ?hyd25⟩) (by assumption) ?restd25
  case hyd25 => (obtain ⟨h0, h1, h2, h3, h4, h5, h6⟩ := hSw; go_simp; first | done | with_reducible rfl)
  try simp only [Act.put, List.setIfInBounds_toArray, List.set_cons_zero, List.set_cons_succ]
  refine wpAnyH_done (by kernel_rfl) ?_ _
  refine NoPanic.normal ?_
  have hbl : w.heap.size < w10.heap.size := World.block_lt_of_cell? w10 _ hBX.out.c0
  have y0 := cell_ext hbS hBX.out.c0
  have y1 := cell_ext hbS hBX.out.c1
  have y2 := cell_ext hbS hBX.out.c2
  have y3 := cell_ext hbS hBX.out.c3
  have yf : ∀ o, w8.frozen? ⟨w.heap.size, o, none⟩ = false := fun o => (hbS.frozen (p := ⟨w.heap.size, o, none⟩) hbl).trans (hBX.out.fr o)
  obtain ⟨c0, c1, c2, c3⟩ := hC4.out.ext hbS
  have HbS := Lib.hid hbS
  have hlt9 : w.heap.size < w9.heap.size := by omega
  clear hb8 ho2 hcv hbS hHeld hS hb7
  go_wp2
  refine bodyPost_ret (v := .tuple #[.agg #[.int .i64 x'.kind, .int .i64 x'.n, .string x'.s, .slice xo x'.l.length xc], .int .i64 0]) (by simp [results, Try.results19, go_sem, y0, y1, y2, y3]) rfl ?_
  refine ⟨xo, xc, rfl, ?_, ?_⟩
  · refine RdVD.rd (D := fun k => w.heap.size < k ∧ k < w9.heap.size) (hV9.out.keep (fun k hk => ⟨by have := hk.1; simp at this; omega, hk.2⟩) fun k hk => ?_) (fun k hk => ?_)
    · have h1 : w.heap.size + 2 ≤ k := by have := hk.1; simp at this; omega
      have h2 : w8.heap[k]? = w9.heap[k]? := (HbS.out.block k (by have := HS0.out; have := hk.2; omega)).trans (hb10.out.block k hk.2)
      refine Eq.trans ?_ h2
      repeat (first | rfl | refine (Below.heap_setCell _ _ _ _ (by show k ≠ w.heap.size; omega)).trans ?_)
    · have := hk.2; have := HS0.out; have := HbS.out.size; simp [World.setCell]; omega
  · have hw8 : Below w.heap.size w w8 := below_ext (below_ext Hbw9.out hb10.out) HbS.out
    exact (((hw8.setCell (p := ⟨w.heap.size, 0, none⟩) (Nat.le_refl _) _).setCell (p := ⟨w.heap.size, 1, none⟩) (Nat.le_refl _) _).setCell (p := ⟨w.heap.size, 2, none⟩) (Nat.le_refl _) _).setCell (p := ⟨w.heap.size, 3, none⟩) (Nat.le_refl _) _
end Go.Proofs.Ytebedfcdbhgfdaa
