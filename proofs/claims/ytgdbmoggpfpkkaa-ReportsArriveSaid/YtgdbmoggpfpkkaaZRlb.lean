/- ReportsAddSpec: the walk. -/
import Derived.Test.YtgdbmoggpfpkkaaZRla
import Derived.Test.YtgdbmoggpfpkkaaK10
namespace Go.Proofs.Ytgdbmoggpfpkkaa
open Go.RowKit
theorem AddPost.any {l L : List Rp} {r : Rp} {E : Int} {w w' : World} {e : Ending} (p : AddPost l r w e w') (h : (addX l r).1 = L) (h2 : (addX l r).2 = E) : ∃ oa cap, e = .returned (.tuple #[.slice oa L.length cap, .int .i64 E]) ∧ RpsAt w'.heap.size w' L (.slice oa L.length cap) ∧ Below w.heap.size w w' := by
  unfold AddPost at p; rw [h, h2] at p; exact p
set_option maxRecDepth 100000 in
set_option maxHeartbeats 4000000 in
theorem addSpec22_walk (l : List Rp) (v : Value) (r : Rp) (w : World) (hl : RpsAt w.heap.size w l v) (hz : ∀ x ∈ l, x.cl.size ≤ maxLen) (hs : r.cl.size ≤ maxLen) : Calls Try.prog 5 #[v, r.v] w (BoolPost true w) := by
  have HL := Lib.hid hl
  obtain ⟨oa, cap, rfl, hlm⟩ := hl.shape
  have Hs : Hid (r.cl.size ≤ 9223372036854775807) := by show _ ≤ _; unfold maxLen at hs; omega
  have Hz : Hid (∀ x ∈ l, x.cl.size ≤ 9223372036854775807) := fun x hx => by have := hz x hx; unfold maxLen at this; omega
  clear hl hlm hs hz
  have hcb0 : Hid (CB (w.alloc (.cells #[.int .i64 r.st, .int .i64 r.no, .int .i64 r.mi, .int .i64 r.ar, .string r.cl, .int .i64 r.vo] 23)) w.heap.size 23 r.cells) := CB.new w _ _
  have hb0 := Lib.hid ((Below.refl w.heap.size w).alloc (Nat.le_refl _) (.cells #[.int .i64 r.st, .int .i64 r.no, .int .i64 r.mi, .int .i64 r.ar, .string r.cl, .int .i64 r.vo] 23))
  change Calls Try.prog 5 #[.slice oa l.length cap, .agg #[.int .i64 r.st, .int .i64 r.no, .int .i64 r.mi, .int .i64 r.ar, .string r.cl, .int .i64 r.vo]] w _
  obtain ⟨sh, hsh⟩ : ∃ t, decide (r.cl.size ≤ 200) = t := ⟨_, rfl⟩
  have Hsh := Lib.hid hsh; clear hsh
  obtain ⟨sl, hsl⟩ : ∃ t, shortB l = t := ⟨_, rfl⟩
  have Hsl := Lib.hid hsl; clear hsl
  go_enter Try.func5, Try.ntmps5
  go_upto_region 1 with fail
  generalize w.alloc (.cells #[.int .i64 r.st, .int .i64 r.no, .int .i64 r.mi, .int .i64 r.ar, .string r.cl, .int .i64 r.vo] 23) = w0 at *
  go_wp2_with fail
  refine (sane22_any _).mono ?_
  rintro e w1 ⟨rfl, hb⟩
  have H1 := Lib.hid (below_ext hb0.out hb)
  have HA1 := Lib.hid (hcb0.out.ext hb)
  clear hb hb0 hcb0
  go_wp2_with fail
  refine (short_any l _ _ (HL.out.ext H1.out)).mono ?_
  rw [Hsl.out]
  rintro e w2 ⟨rfl, hb⟩
  have H2 := Lib.hid (below_ext H1.out hb)
  have HA2 := Lib.hid (HA1.out.ext hb)
  clear hb H1 HA1
  cases sl
  case false =>
    go_wp2_with fail
    go_ret
    exact ⟨rfl, H2.out⟩
  case true =>
  obtain ⟨c0, c1, c2, c3, c4, c5⟩ := RpAt.of_cb HA2.out
  go_wp2_with fail
  refine (short1 r sh Hsh.out _).mono ?_
  rintro e w3 ⟨rfl, hb⟩
  have H3 := Lib.hid (below_ext H2.out hb)
  have HA3 := Lib.hid (HA2.out.ext hb)
  clear hb c0 c1 c2 c3 c4 c5
  cases sh
  case false =>
    go_wp2_with fail
    go_ret
    exact ⟨rfl, H3.out⟩
  case true =>
  obtain ⟨L, hL⟩ : ∃ L, (addX l r).1 = L := ⟨_, rfl⟩
  obtain ⟨E, hE⟩ : ∃ E, (addX l r).2 = E := ⟨_, rfl⟩
  have HLL := Lib.hid hL; have HE := Lib.hid hE
  clear hL hE
  obtain ⟨c0, c1, c2, c3, c4, c5⟩ := RpAt.of_cb HA3.out
  go_wp2_with fail
  refine (add_any l _ r _ (HL.out.ext H3.out) Hz.out Hs.out).mono ?_
  intro e w4 hp
  obtain ⟨oa4, cap4, rfl, hv4, hb⟩ := hp.any HLL.out HE.out
  have H4 := Lib.hid (below_ext H3.out hb)
  have HA4 := Lib.hid (HA3.out.ext hb)
  have HX4 := Lib.hid hv4
  clear hb hp hv4 c0 c1 c2 c3 c4 c5
  obtain ⟨c0, c1, c2, c3, c4, c5⟩ := RpAt.of_cb HA4.out
  go_wp2_with fail
  refine (radd_any l _ r _ (HL.out.ext H4.out) Hz.out Hs.out).mono ?_
  intro e w5 hp
  obtain ⟨oa5, cap5, rfl, hv5, hb⟩ := hp.any HLL.out HE.out
  have H5 := Lib.hid (below_ext H4.out hb)
  have HX5 := Lib.hid (HX4.out.ext hb)
  have HY5 := Lib.hid hv5
  clear hb hp hv5 c0 c1 c2 c3 c4 c5
  have Hsm := Lib.hid ((sameB_iff L L).2 rfl)
  go_wp2_with fail
  refine (rsame22_any L L _ _ _ HX5.out HY5.out).mono ?_
  rw [Hsm.out]
  rintro e w6 ⟨rfl, hb⟩
  have H6 := Lib.hid (below_ext H5.out hb)
  clear hb
  go_wp2_with fail
  go_ret
  exact ⟨rfl, H6.out⟩
end Go.Proofs.Ytgdbmoggpfpkkaa
