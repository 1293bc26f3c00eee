/- ReportsConflict: the walk. -/
import Derived.Test.YtgdbmoggpfpkkaaZRlb
import Derived.BigRegion
namespace Go.Proofs.Ytgdbmoggpfpkkaa
open Go.RowKit
theorem col_get : ∀ (l : List Rp) (p : Option (Int × Int)) (i : Nat) (x : Rp), colF p l = true → l[i]? = some x → repB 4 3 x = true ∧ ∀ k y, k < i → l[k]? = some y → cmpP y.st y.no x.st x.no < 0
  | [], _, _, _, _, h => by simp at h
  | r :: t, p, 0, x, hc, h => by
    simp at h; subst h
    simp only [colF, Bool.and_eq_true] at hc
    exact ⟨hc.1.1, fun k y hk => by omega⟩
  | r :: t, p, i + 1, x, hc, h => by
    have hx : t[i]? = some x := by simpa using h
    simp only [colF, Bool.and_eq_true] at hc
    obtain ⟨h1, h2⟩ := col_get t _ i x hc.2 hx
    refine ⟨h1, fun k y hk hy => ?_⟩
    cases k with
    | zero => simp at hy; subst hy; exact col_all t _ _ hc.2 x (List.mem_of_getElem? hx)
    | succ k => exact h2 k y (by omega) (by simpa using hy)
theorem colB_F {l : List Rp} (h : colB l = true) : colF none l = true := by unfold colB at h; simp only [Bool.and_eq_true] at h; exact h.1
theorem low_own {l : List Rp} {i : Nat} {x : Rp} (hc : colB l = true) (hx : l[i]? = some x) : repB 4 3 x = true ∧ lowN l x.st x.no = i := by
  obtain ⟨h1, h2⟩ := col_get l none i x (colB_F hc) hx
  have hl := low_of_col x.st x.no l none (colB_F hc)
  refine ⟨h1, ?_⟩
  have ha := hl.2 i x hx
  have hn : ¬ i < lowN l x.st x.no := by
    intro h
    rw [decide_eq_true h, decide_eq_true_eq, cmpP_lt] at ha
    omega
  by_cases hlt : lowN l x.st x.no < i
  · exfalso
    have hil := (List.getElem?_eq_some_iff.1 hx).1
    obtain ⟨y, hy⟩ : ∃ y, l[lowN l x.st x.no]? = some y := ⟨_, List.getElem?_eq_getElem (by omega)⟩
    have hb := h2 _ y hlt hy
    have := hl.2 _ y hy
    rw [decide_eq_true hb] at this
    simp at this
  · omega
theorem hit_own {l : List Rp} {i : Nat} {x : Rp} (hc : colB l = true) (hx : l[i]? = some x) : hitB l x.st x.no (lowN l x.st x.no) = true := by
  rw [(low_own hc hx).2, hit_some hx, beq_iff_eq, cmpP_zero]; exact ⟨rfl, rfl⟩
/-- a report of the list added again -/
theorem add_own {l : List Rp} {i : Nat} {x : Rp} (hc : colB l = true) (hx : l[i]? = some x) : addX l x = (l, 0) :=
  addX_3 hc (low_own hc hx).1 (hit_own hc hx) (by rw [(low_own hc hx).2, eqAt_some x hx]; exact (rpEq_iff x x).2 rfl)
/-- one with the same place -/
theorem add_like {l : List Rp} {i : Nat} {x r : Rp} (hc : colB l = true) (hx : l[i]? = some x) (h1 : r.st = x.st) (h2 : r.no = x.no) : addX l r = if rpEq r x then (l, 0) else ([], 220) := by
  by_cases he : r = x
  · rw [if_pos ((rpEq_iff r x).2 he), he]; exact add_own hc hx
  · rw [if_neg (fun h => he ((rpEq_iff r x).1 h))]
    cases hb : repB 4 3 r with
    | false => exact addX_2 hb
    | true =>
      refine addX_4 hc hb (by rw [h1, h2]; exact hit_own hc hx) ?_
      rw [h1, h2, (low_own hc hx).2, eqAt_some r hx]
      cases hq : rpEq x r with
      | false => rfl
      | true => exact absurd ((rpEq_iff x r).1 hq).symm he
set_option maxRecDepth 100000 in
set_option maxHeartbeats 4000000 in
theorem conflict22_walk (l : List Rp) (v : Value) (r : Rp) (a : Int) (w : World) (hl : RpsAt w.heap.size w l v) (hz : ∀ x ∈ l, x.cl.size ≤ maxLen) (hs : r.cl.size ≤ maxLen) (ha : 0 ≤ a ∧ a ≤ 255) : Calls Try.prog 8 #[v, r.v, .int .u8 a] w (BoolPost true w) := by
  have HL := Lib.hid hl
  obtain ⟨oa, cap, rfl, hlm⟩ := hl.shape
  have bl : (l.length : Int) ≤ 9223372036854775807 := by omega
  have Hs : Hid (r.cl.size ≤ 9223372036854775807) := by show _ ≤ _; unfold maxLen at hs; omega
  have Hz : Hid (∀ x ∈ l, x.cl.size ≤ 9223372036854775807) := fun x hx => by have := hz x hx; unfold maxLen at this; omega
  clear hl hlm hs hz
  have hcb0 : Hid (CB (w.alloc (.cells #[.int .i64 r.st, .int .i64 r.no, .int .i64 r.mi, .int .i64 r.ar, .string r.cl, .int .i64 r.vo] 23)) w.heap.size 23 r.cells) := CB.new w _ _
  have hb0 := Lib.hid ((Below.refl w.heap.size w).alloc (Nat.le_refl _) (.cells #[.int .i64 r.st, .int .i64 r.no, .int .i64 r.mi, .int .i64 r.ar, .string r.cl, .int .i64 r.vo] 23))
  change Calls Try.prog 8 #[.slice oa l.length cap, .agg #[.int .i64 r.st, .int .i64 r.no, .int .i64 r.mi, .int .i64 r.ar, .string r.cl, .int .i64 r.vo], .int .u8 a] w _
  obtain ⟨sh, hsh⟩ : ∃ t, decide (r.cl.size ≤ 200) = t := ⟨_, rfl⟩
  have Hsh := Lib.hid hsh; clear hsh
  obtain ⟨sl, hsl⟩ : ∃ t, shortB l = t := ⟨_, rfl⟩
  have Hsl := Lib.hid hsl; clear hsl
  have Ha := Lib.hid ha; clear ha
  go_enter Try.func8, Try.ntmps8
  go_upto_region 1 with fail
  generalize w.alloc (.cells #[.int .i64 r.st, .int .i64 r.no, .int .i64 r.mi, .int .i64 r.ar, .string r.cl, .int .i64 r.vo] 23) = w0 at *
  go_wp2_with fail
  refine (sane22_any _).mono ?_
  rintro e w1 ⟨rfl, hb⟩
  have H1 := Lib.hid (below_ext hb0.out hb)
  have HA1 := Lib.hid (hcb0.out.ext hb)
  clear hb hb0 hcb0
  go_wp2_with fail
  refine (short_any l _ _ (HL.out.ext H1.out)).mono ?_
  rw [Hsl.out]
  rintro e w2 ⟨rfl, hb⟩
  have H2 := Lib.hid (below_ext H1.out hb)
  have HA2 := Lib.hid (HA1.out.ext hb)
  clear hb H1 HA1
  cases sl
  case false =>
    go_wp2_with fail
    go_ret
    exact ⟨rfl, H2.out⟩
  case true =>
  obtain ⟨c0, c1, c2, c3, c4, c5⟩ := RpAt.of_cb HA2.out
  go_wp2_with fail
  refine (short1 r sh Hsh.out _).mono ?_
  rintro e w3 ⟨rfl, hb⟩
  have H3 := Lib.hid (below_ext H2.out hb)
  have HA3 := Lib.hid (HA2.out.ext hb)
  clear hb c0 c1 c2 c3 c4 c5 H2 HA2
  cases sh
  case false =>
    go_wp2_with fail
    go_ret
    exact ⟨rfl, H3.out⟩
  case true =>
  by_cases h0 : l.length = 0
  · have t0 : ((l.length : Int) == 0) = true := by rw [beq_iff_eq]; omega
    clear h0
    go_wp2_with fail
    go_ret
    exact ⟨rfl, H3.out⟩
  have t0 : ((l.length : Int) == 0) = false := by rw [beq_eq_false_iff_ne]; omega
  obtain ⟨i, hi⟩ : ∃ i : Nat, a.tmod (l.length : Int) = (i : Int) ∧ i < l.length := by
    have h1 : 0 ≤ a := Ha.out.1
    refine ⟨(a.tmod (l.length : Int)).toNat, ?_, ?_⟩
    · rw [Int.toNat_of_nonneg (Int.tmod_nonneg _ h1)]
    · have := Int.tmod_lt_of_pos a (show (0 : Int) < (l.length : Int) by omega)
      have h3 := Int.tmod_nonneg (l.length : Int) h1
      omega
  obtain ⟨hi1, hi2⟩ := hi
  obtain ⟨x, hx⟩ : ∃ x, l[i]? = some x := ⟨_, List.getElem?_eq_getElem hi2⟩
  have Hx := Lib.hid hx
  obtain ⟨b, off, rfl, hat⟩ := (HL.out.ext H3.out).at hi2
  obtain ⟨c0, c1, c2, c3, c4, c5⟩ := hat i x hx
  have bi : (i : Int) < (l.length : Int) := by omega
  have hne : ¬ ((l.length : Int) = 0) := by omega
  clear hx hat h0
  have ba1 : 0 ≤ a := Ha.out.1
  have ba2 : a ≤ 255 := Ha.out.2
  have ea : IntKind.i64.wrap a = a := IntWalk.i64_in _ (by omega)
  have ei : IntKind.i64.wrap (i : Int) = (i : Int) := IntWalk.i64_in _ (by omega)
  go_upto_region 6 with fail
  have H4 := Lib.hid (H3.out.alloc H3.out.size (.cells #[.int .i64 x.st, .int .i64 x.no, .int .i64 x.mi, .int .i64 x.ar, .string x.cl, .int .i64 x.vo] 23))
  have HA4 : Hid (CB (w3.alloc (.cells #[.int .i64 x.st, .int .i64 x.no, .int .i64 x.mi, .int .i64 x.ar, .string x.cl, .int .i64 x.vo] 23)) w.heap.size 23 r.cells) := HA3.out.alloc _
  have HX4 : Hid (CB (w3.alloc (.cells #[.int .i64 x.st, .int .i64 x.no, .int .i64 x.mi, .int .i64 x.ar, .string x.cl, .int .i64 x.vo] 23)) w3.heap.size 23 x.cells) := CB.new w3 _ _
  have hne2 : ¬ (w.heap.size = w3.heap.size) := by have := HA3.out.lt; omega
  have hne3 : ¬ (w3.heap.size = w.heap.size) := by omega
  have HL4 : Hid (RpsAt (w3.alloc (.cells #[.int .i64 x.st, .int .i64 x.no, .int .i64 x.mi, .int .i64 x.ar, .string x.cl, .int .i64 x.vo] 23)).heap.size (w3.alloc (.cells #[.int .i64 x.st, .int .i64 x.no, .int .i64 x.mi, .int .i64 x.ar, .string x.cl, .int .i64 x.vo] 23)) l (.slice (some ⟨b, off, none⟩) l.length cap)) := HL.out.ext H4.out
  clear H3 HA3 c0 c1 c2 c3 c4 c5
  generalize hg4 : w3.alloc (.cells #[.int .i64 x.st, .int .i64 x.no, .int .i64 x.mi, .int .i64 x.ar, .string x.cl, .int .i64 x.vo] 23) = w4 at *
  clear hg4
  have mixed : Try.prog.follows Departure.mixedOrders = true := by kernel_rfl
  have c0 : w4.cell? ⟨w.heap.size, 0, none⟩ = some (.int .i64 r.st) := HA4.out.cell 0
  have c1 : w4.cell? ⟨w.heap.size, 1, none⟩ = some (.int .i64 r.no) := HA4.out.cell 1
  have d0 : w4.cell? ⟨w3.heap.size, 0, none⟩ = some (.int .i64 x.st) := HX4.out.cell 0
  have d1 : w4.cell? ⟨w3.heap.size, 1, none⟩ = some (.int .i64 x.no) := HX4.out.cell 1
  have yf : ∀ o, w4.frozen? ⟨w.heap.size, o, none⟩ = false := HA4.out.frozen
  go_region
  obtain ⟨r2, hr2⟩ : ∃ r2 : Rp, (⟨x.st, x.no, r.mi, r.ar, r.cl, r.vo⟩ : Rp) = r2 := ⟨_, rfl⟩
  have H5 : Hid (Below w.heap.size w ((w4.setCell ⟨w.heap.size, 0, none⟩ (.int .i64 x.st)).setCell ⟨w.heap.size, 1, none⟩ (.int .i64 x.no)).drew) := Below.drew ((H4.out.setCell (p := ⟨w.heap.size, 0, none⟩) (Nat.le_refl _) _).setCell (p := ⟨w.heap.size, 1, none⟩) (Nat.le_refl _) _)
  have HA5 : Hid (CB ((w4.setCell ⟨w.heap.size, 0, none⟩ (.int .i64 x.st)).setCell ⟨w.heap.size, 1, none⟩ (.int .i64 x.no)).drew w.heap.size 23 r2.cells) := by
    show CB _ _ _ _
    rw [← hr2]
    exact (((HA4.out.set 0 (.int .i64 x.st)).set 1 (.int .i64 x.no)).keep rfl)
  have HX5 : Hid (CB ((w4.setCell ⟨w.heap.size, 0, none⟩ (.int .i64 x.st)).setCell ⟨w.heap.size, 1, none⟩ (.int .i64 x.no)).drew w3.heap.size 23 x.cells) := ((HX4.out.far (p := ⟨w.heap.size, 0, none⟩) hne3 _).far (p := ⟨w.heap.size, 1, none⟩) hne3 _).keep rfl
  have hr2s : r2.st = x.st := by rw [← hr2]
  have hr2n : r2.no = x.no := by rw [← hr2]
  have Hs2 : Hid (r2.cl.size ≤ 9223372036854775807) := by show _ ≤ _; rw [← hr2]; exact Hs.out
  have Hr2 := Lib.hid (And.intro hr2s hr2n)
  clear hr2 hr2s hr2n c0 c1 d0 d1 yf mixed H4 HA4 HX4 HL4
  change Exit.then _ _ _ _ ((w4.setCell ⟨w.heap.size, 0, none⟩ (.int .i64 x.st)).setCell ⟨w.heap.size, 1, none⟩ (.int .i64 x.no)).drew
  generalize ((w4.setCell ⟨w.heap.size, 0, none⟩ (.int .i64 x.st)).setCell ⟨w.heap.size, 1, none⟩ (.int .i64 x.no)).drew = w5 at *
  obtain ⟨c, hc⟩ : ∃ c, colB l = c := ⟨_, rfl⟩
  have Hc := Lib.hid hc; clear hc
  obtain ⟨d0, d1, d2, d3, d4, d5⟩ := RpAt.of_cb HX5.out
  go_wp2_with fail
  refine (add_any l _ x _ (HL.out.ext H5.out) Hz.out (Hz.out x (List.mem_of_getElem? Hx.out))).mono ?_
  intro e w6 hp
  cases c
  case false =>
    obtain ⟨oa6, cap6, rfl, hv6, hb⟩ := hp.as (addX_1 x Hc.out)
    have H6 := Lib.hid (below_ext H5.out hb)
    clear hb hp hv6
    go_wp2_with fail
    go_ret
    exact ⟨rfl, H6.out⟩
  case true =>
    obtain ⟨oa6, cap6, rfl, hv6, hb⟩ := hp.as (add_own Hc.out Hx.out)
    have H6 := Lib.hid (below_ext H5.out hb)
    have HA6 := Lib.hid (HA5.out.ext hb)
    have HX6 := Lib.hid (HX5.out.ext hb)
    clear hb hp hv6 d0 d1 d2 d3 d4 d5
    obtain ⟨c0, c1, c2, c3, c4, c5⟩ := RpAt.of_cb HA6.out
    obtain ⟨q, hq⟩ : ∃ q, rpEq r2 x = q := ⟨_, rfl⟩
    have hal := add_like (r := r2) Hc.out Hx.out Hr2.out.1 Hr2.out.2
    rw [hq] at hal
    have Hal := Lib.hid hal
    have heq : ∀ w : World, (Op.equalIn 10000 23 (.agg #[.int .i64 r2.st, .int .i64 r2.no, .int .i64 r2.mi, .int .i64 r2.ar, .string r2.cl, .int .i64 r2.vo]) (.agg #[.int .i64 x.st, .int .i64 x.no, .int .i64 x.mi, .int .i64 x.ar, .string x.cl, .int .i64 x.vo])).run Try.prog w = .ok q w := fun w => by rw [← hq]; exact eq_rp r2 x w
    clear hq hal
    go_wp2_with fail
    refine (add_any l _ r2 _ (HL.out.ext H6.out) Hz.out Hs2.out).mono ?_
    intro e w7 hp
    cases q
    case false =>
      obtain ⟨oa7, cap7, rfl, hv7, hb⟩ := hp.as Hal.out
      have H7 := Lib.hid (below_ext H6.out hb)
      have HA7 := Lib.hid (HA6.out.ext hb)
      have HX7 := Lib.hid (HX6.out.ext hb)
      clear hb hp hv7 c0 c1 c2 c3 c4 c5
      obtain ⟨c0, c1, c2, c3, c4, c5⟩ := RpAt.of_cb HA7.out
      obtain ⟨d0, d1, d2, d3, d4, d5⟩ := RpAt.of_cb HX7.out
      go_wp2_with fail
      go_ret
      exact ⟨rfl, H7.out⟩
    case true =>
      obtain ⟨oa7, cap7, rfl, hv7, hb⟩ := hp.as Hal.out
      have H7 := Lib.hid (below_ext H6.out hb)
      have HA7 := Lib.hid (HA6.out.ext hb)
      have HX7 := Lib.hid (HX6.out.ext hb)
      clear hb hp hv7 c0 c1 c2 c3 c4 c5
      obtain ⟨c0, c1, c2, c3, c4, c5⟩ := RpAt.of_cb HA7.out
      obtain ⟨d0, d1, d2, d3, d4, d5⟩ := RpAt.of_cb HX7.out
      go_wp2_with fail
      go_ret
      exact ⟨rfl, H7.out⟩
end Go.Proofs.Ytgdbmoggpfpkkaa
