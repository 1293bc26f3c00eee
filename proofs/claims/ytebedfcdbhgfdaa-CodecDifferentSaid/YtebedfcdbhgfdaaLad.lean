/- CodecDifferent: the walk. -/
import Derived.Test.YtebedfcdbhgfdaaPla
import Derived.Test.YtebedfcdbhgfdaaLae
import Derived.Test.YtebedfcdbhgfdaaLas
namespace Go.Proofs.Ytebedfcdbhgfdaa
open Go.RowKit

theorem RdB.take {w : World} {oa : Option Addr} {n cap : Nat} {l : List UInt8} (h : RdB w (.slice oa l.length cap) l) (hn : n ≤ l.length) : RdB w (.slice oa n cap) (l.take n) := by
  rcases h with ⟨he, rfl⟩ | ⟨a, cap', he, h1, h2, h3, h4⟩
  · simp at hn; subst hn; exact .inl ⟨by simpa using he, rfl⟩
  · simp only [Value.slice.injEq] at he
    obtain ⟨rfl, _, rfl⟩ := he
    refine .inr ⟨a, cap, by simp [Nat.min_eq_left hn], ?_, by simp; omega, h3, fun j u hu => h4 j u ?_⟩
    · rcases h1 with rfl | h1
      · exact .inl (by simp)
      · exact .inr h1
    · rw [bcells, List.map_take, List.getElem?_take] at hu
      split at hu
      · exact hu
      · cases hu
theorem diff_take {x y : V} (hx : ck x = 0) (hy : ck y = 0) (ox : okV x) (oy : okV y) (hs : sm x y = false) (n : Nat) (hn : n = min (enc x).length (enc y).length) : (enc x).take n ≠ (enc y).take n := by
  intro he
  subst hn
  have hxy : x = y := by
    rcases Nat.le_total (enc x).length (enc y).length with h | h
    · rw [Nat.min_eq_left h, List.take_length] at he
      refine (enc_prefix hx hy ox oy ((enc y).drop (enc x).length) [] ?_).1
      rw [List.append_nil]
      calc enc x ++ (enc y).drop (enc x).length = (enc y).take (enc x).length ++ (enc y).drop (enc x).length := by rw [← he]
        _ = enc y := List.take_append_drop _ _
    · rw [Nat.min_eq_right h, List.take_length] at he
      refine (enc_prefix hx hy ox oy [] ((enc x).drop (enc y).length) ?_).1
      rw [List.append_nil]
      calc enc x = (enc x).take (enc y).length ++ (enc x).drop (enc y).length := (List.take_append_drop _ _).symm
        _ = enc y ++ (enc x).drop (enc y).length := by rw [he]
  rw [hxy, sm_refl] at hs; cases hs
theorem lst_ne {a b : List UInt8} (h : a ≠ b) : (a == b) = false := by rw [beq_eq_false_iff_ne]; exact h
theorem diffS_ext {w w' : World} (hb : Below w.heap.size w w') {v v' : Value} {l l' : List UInt8} (hv : RdB w v l) (hv' : RdB w v' l') :
    (convert 27 9 v).run Try.prog w' = .ok (.string ⟨l.toArray⟩) w' ∧ (convert 27 9 v').run Try.prog w' = .ok (.string ⟨l'.toArray⟩) w' := ⟨conv_B (hv.ext hb), conv_B (hv'.ext hb)⟩
set_option maxRecDepth 100000 in
set_option maxHeartbeats 4000000 in
theorem different_walk (x : V) (u : Value) (y : V) (v : Value) (w : World) (hr : RdV w.heap.size w x u) (hr2 : RdV w.heap.size w y v) : Calls Try.prog 7 #[u, v] w (BoolPost true w) := by
  have HR := Lib.hid hr
  have HR2 := Lib.hid hr2
  have OX := Lib.hid hr.ok
  have OY := Lib.hid hr2.ok
  obtain ⟨oa, cap, rfl, _⟩ := hr.form
  obtain ⟨ob, cap2, rfl, _⟩ := hr2.form
  clear hr hr2
  have hall : [x, y].all fewB = (fewB x && fewB y) := by simp
  have Hall := Lib.hid hall; clear hall
  cases hfx : (fewB x && fewB y) with
  | false =>
    go_enter Try.func7, Try.ntmps7
    go_wp2_with fail
    refine (sane_any _).mono ?_
    rintro e w1 ⟨rfl, hb1⟩
    obtain ⟨hc1, hd1, hB1⟩ := C4.of_two hb1
    obtain ⟨c0, c1, c2, c3⟩ := hc1
    obtain ⟨d0, d1, d2, d3⟩ := hd1
    go_wp2_with fail
    refine (fewl_any [x, y] _ _ _ (sl_two (HR.out.ext hB1) (HR2.out.ext hB1))).mono ?_
    rw [Hall.out, hfx]
    rintro e w2 ⟨rfl, hb2⟩
    go_wp2_with fail
    go_ret
    exact ⟨rfl, below_ext hB1 (below_after hb2)⟩
  | true =>
    have hf := Bool.and_eq_true_iff.1 hfx
    have hsx := few_sz hf.1
    have hsy := few_sz hf.2
    clear hf
    have key : ∀ (P : Prop), (ck x ≠ 0 → P) → (ck x = 0 → ck y ≠ 0 → P) → (ck x = 0 → ck y = 0 → P) → P := fun P h1 h2 h3 => by
      by_cases hx : ck x = 0
      · by_cases hy : ck y = 0
        · exact h3 hx hy
        · exact h2 hx hy
      · exact h1 hx
    apply key
    all_goals clear key
    · intro hcx
      have hne : (ck x != 0) = true := by rw [bne_iff_ne]; exact hcx
      have Hcx := Lib.hid hcx
      clear hcx
      go_enter Try.func7, Try.ntmps7
      go_wp2_with fail
      refine (sane_any _).mono ?_
      rintro e w1 ⟨rfl, hb1⟩
      obtain ⟨hc1, hd1, hB1⟩ := C4.of_two hb1
      have HC1 := Lib.hid hc1; have HD1 := Lib.hid hd1
      obtain ⟨c0, c1, c2, c3⟩ := hc1
      obtain ⟨d0, d1, d2, d3⟩ := hd1
      clear hb1
      go_wp2_with fail
      refine (fewl_any [x, y] _ _ _ (sl_two (HR.out.ext hB1) (HR2.out.ext hB1))).mono ?_
      rw [Hall.out, hfx]
      rintro e w2 ⟨rfl, hb2⟩
      have hB2 := below_ext hB1 (below_after hb2)
      have HC2 := Lib.hid (HC1.out.ext (below_after hb2))
      have HD2 := Lib.hid (HD1.out.ext (below_after hb2))
      clear hB1 hb2 HC1 HD1 c0 c1 c2 c3 d0 d1 d2 d3
      obtain ⟨c0, c1, c2, c3⟩ := HC2.out
      go_wp2_with fail
      refine (encode_any x hsx _ _ (HR.out.ext hB2)).mono ?_
      rintro e w3 ⟨v3, rfl, hv3, hb3⟩
      rw [if_neg Hcx.out] at hv3
      obtain ⟨oa3, cap3, rfl⟩ := hv3.form
      have hB3 := below_ext hB2 hb3
      have HD3 := Lib.hid (HD2.out.ext hb3)
      clear hB2 hb3 hv3 HC2 HD2 c0 c1 c2 c3
      obtain ⟨d0, d1, d2, d3⟩ := HD3.out
      go_wp2_with fail
      refine (encode_any y hsy _ _ (HR2.out.ext hB3)).mono ?_
      rintro e w4 ⟨v4, rfl, hv4, hb4⟩
      generalize (if ck y = 0 then enc y else []) = ey at hv4
      obtain ⟨oa4, cap4, rfl⟩ := hv4.form
      have hB4 := below_ext hB3 hb4
      clear hB3 hb4 hv4 HD3 d0 d1 d2 d3
      go_wp2_with fail
      go_ret
      exact ⟨rfl, hB4⟩
    · intro hcx hcy
      have hne : (ck y != 0) = true := by rw [bne_iff_ne]; exact hcy
      have Hcx := Lib.hid hcx
      have Hcy := Lib.hid hcy
      clear hcy hcx
      go_enter Try.func7, Try.ntmps7
      go_wp2_with fail
      refine (sane_any _).mono ?_
      rintro e w1 ⟨rfl, hb1⟩
      obtain ⟨hc1, hd1, hB1⟩ := C4.of_two hb1
      have HC1 := Lib.hid hc1; have HD1 := Lib.hid hd1
      obtain ⟨c0, c1, c2, c3⟩ := hc1
      obtain ⟨d0, d1, d2, d3⟩ := hd1
      clear hb1
      go_wp2_with fail
      refine (fewl_any [x, y] _ _ _ (sl_two (HR.out.ext hB1) (HR2.out.ext hB1))).mono ?_
      rw [Hall.out, hfx]
      rintro e w2 ⟨rfl, hb2⟩
      have hB2 := below_ext hB1 (below_after hb2)
      have HC2 := Lib.hid (HC1.out.ext (below_after hb2))
      have HD2 := Lib.hid (HD1.out.ext (below_after hb2))
      clear hB1 hb2 HC1 HD1 c0 c1 c2 c3 d0 d1 d2 d3
      obtain ⟨c0, c1, c2, c3⟩ := HC2.out
      go_wp2_with fail
      refine (encode_any x hsx _ _ (HR.out.ext hB2)).mono ?_
      rintro e w3 ⟨v3, rfl, hv3, hb3⟩
      rw [Hcx.out] at hv3 ⊢
      rw [if_pos rfl] at hv3
      obtain ⟨oa3, cap3, rfl⟩ := hv3.form
      have hB3 := below_ext hB2 hb3
      have HD3 := Lib.hid (HD2.out.ext hb3)
      clear hB2 hb3 hv3 HC2 HD2 c0 c1 c2 c3
      obtain ⟨d0, d1, d2, d3⟩ := HD3.out
      go_wp2_with fail
      refine (encode_any y hsy _ _ (HR2.out.ext hB3)).mono ?_
      rintro e w4 ⟨v4, rfl, hv4, hb4⟩
      rw [if_neg Hcy.out] at hv4
      obtain ⟨oa4, cap4, rfl⟩ := hv4.form
      have hB4 := below_ext hB3 hb4
      clear hB3 hb4 hv4 HD3 d0 d1 d2 d3
      go_wp2_with fail
      go_ret
      exact ⟨rfl, hB4⟩
    · intro hcx hcy
      have Hcx := Lib.hid hcx
      have Hcy := Lib.hid hcy
      clear hcy hcx
      obtain ⟨s, hs⟩ : ∃ s, sm x y = s := ⟨_, rfl⟩
      have Hs := Lib.hid hs; clear hs
      have hlx : (enc x).length ≤ 60000 := by have := enc_sz x; omega
      have hly : (enc y).length ≤ 60000 := by have := enc_sz y; omega
      go_enter Try.func7, Try.ntmps7
      go_wp2_with fail
      refine (sane_any _).mono ?_
      rintro e w1 ⟨rfl, hb1⟩
      obtain ⟨hc1, hd1, hB1⟩ := C4.of_two hb1
      have HC1 := Lib.hid hc1; have HD1 := Lib.hid hd1
      obtain ⟨c0, c1, c2, c3⟩ := hc1
      obtain ⟨d0, d1, d2, d3⟩ := hd1
      clear hb1
      go_wp2_with fail
      refine (fewl_any [x, y] _ _ _ (sl_two (HR.out.ext hB1) (HR2.out.ext hB1))).mono ?_
      rw [Hall.out, hfx]
      rintro e w2 ⟨rfl, hb2⟩
      have hB2 := below_ext hB1 (below_after hb2)
      have HC2 := Lib.hid (HC1.out.ext (below_after hb2))
      have HD2 := Lib.hid (HD1.out.ext (below_after hb2))
      clear hB1 hb2 HC1 HD1 c0 c1 c2 c3 d0 d1 d2 d3
      obtain ⟨c0, c1, c2, c3⟩ := HC2.out
      go_wp2_with fail
      refine (encode_any x hsx _ _ (HR.out.ext hB2)).mono ?_
      rintro e w3 ⟨v3, rfl, hv3, hb3⟩
      rw [Hcx.out] at hv3 ⊢
      rw [if_pos rfl] at hv3
      obtain ⟨oa3, cap3, rfl⟩ := hv3.form
      have hB3 := below_ext hB2 hb3
      have HC3 := Lib.hid (HC2.out.ext hb3)
      have HD3 := Lib.hid (HD2.out.ext hb3)
      have Hv3 := Lib.hid hv3
      clear hB2 hb3 hv3 HC2 HD2 c0 c1 c2 c3
      obtain ⟨d0, d1, d2, d3⟩ := HD3.out
      go_wp2_with fail
      refine (encode_any y hsy _ _ (HR2.out.ext hB3)).mono ?_
      rintro e w4 ⟨v4, rfl, hv4, hb4⟩
      rw [Hcy.out] at hv4 ⊢
      rw [if_pos rfl] at hv4
      obtain ⟨oa4, cap4, rfl⟩ := hv4.form
      have hB4 := below_ext hB3 hb4
      have HC4 := Lib.hid (HC3.out.ext hb4)
      have HD4 := Lib.hid (HD3.out.ext hb4)
      have Hv4 := Lib.hid hv4
      have Hv34 := Lib.hid (Hv3.out.ext hb4)
      clear hB3 hb4 hv4 HC3 HD3 Hv3 d0 d1 d2 d3
      obtain ⟨c0, c1, c2, c3⟩ := HC4.out
      obtain ⟨d0, d1, d2, d3⟩ := HD4.out
      go_wp2_with fail
      refine (same_any 60000 (by decide) x y hsx _ _ _ (HR.out.ext hB4) (HR2.out.ext hB4)).mono ?_
      rw [Hs.out]
      rintro e w5 ⟨rfl, hb5⟩
      have hB5 := below_ext hB4 hb5
      have Hv5 := Lib.hid (Hv4.out.ext hb5)
      have Hv35 := Lib.hid (Hv34.out.ext hb5)
      clear hB4 hb5 HC4 HD4 Hv4 Hv34 c0 c1 c2 c3 d0 d1 d2 d3
      cases s with
      | true =>
        have hxy : x = y := sm_eq x y Hs.out
        have k1 := conv_B Hv35.out
        have k2 := conv_B Hv5.out
        rw [hxy] at k1
        rw [hxy]
        clear hxy
        go_wp2_with fail
        go_ret
        exact ⟨rfl, hB5⟩
      | false =>
        have hcap3 : (enc x).length ≤ cap3 ∧ cap3 ≤ 9223372036854775807 := by
          obtain ⟨_, _, he, h1, h2⟩ := Hv35.out.bts.form
          simp only [Value.slice.injEq] at he
          obtain ⟨_, _, rfl⟩ := he
          unfold maxLen at h2; omega
        have hcap4 : (enc y).length ≤ cap4 ∧ cap4 ≤ 9223372036854775807 := by
          obtain ⟨_, _, he, h1, h2⟩ := Hv5.out.bts.form
          simp only [Value.slice.injEq] at he
          obtain ⟨_, _, rfl⟩ := he
          unfold maxLen at h2; omega
        obtain ⟨q1, q2⟩ := hcap3
        obtain ⟨q3, q4⟩ := hcap4
        rcases Nat.lt_or_ge (enc y).length (enc x).length with hlt | hle
        rotate_left
        · have hne := lst_ne (diff_take Hcx.out Hcy.out OX.out OY.out Hs.out (enc x).length (Nat.min_eq_left hle).symm)
          have Ht := Lib.hid (Hv35.out.take (Nat.le_refl (enc x).length))
          have Ht2 := Lib.hid (Hv5.out.take hle)
          generalize (enc x).length = lx at *
          generalize (enc y).length = ly at *
          generalize (enc x).take lx = ex at *
          generalize (enc y).take lx = ey at *
          have hS := diffS_ext ((Below.refl _ w5).drew) Ht.out Ht2.out
          clear Hcx Hcy Hs
          have q5 : (lx : Int) ≤ (cap4 : Int) := by omega
          have q6 : (lx : Int) ≤ (cap3 : Int) := by omega
          have q7 : (0 : Int) ≤ (lx : Int) := by omega
          go_wp2_with fail
          go_region_held3 (fun w' => (convert 27 9 (.slice oa3 lx cap3)).run Try.prog w' = .ok (.string ⟨ex.toArray⟩) w' ∧ (convert 27 9 (.slice oa4 lx cap4)).run Try.prog w' = .ok (.string ⟨ey.toArray⟩) w')
            (go_keep) (fail)
          all_goals
            go_wp2
            go_ret
            exact ⟨rfl, hB5.drew⟩
        · have hle := Nat.le_of_lt hlt
          have hne := lst_ne (diff_take Hcx.out Hcy.out OX.out OY.out Hs.out (enc y).length (Nat.min_eq_right hle).symm)
          have Ht := Lib.hid (Hv35.out.take hle)
          have Ht2 := Lib.hid (Hv5.out.take (Nat.le_refl (enc y).length))
          generalize (enc x).length = lx at *
          generalize (enc y).length = ly at *
          generalize (enc x).take ly = ex at *
          generalize (enc y).take ly = ey at *
          have hS := diffS_ext ((Below.refl _ w5).drew) Ht.out Ht2.out
          clear Hcx Hcy Hs
          have q5 : (ly : Int) ≤ (cap4 : Int) := by omega
          have q6 : (ly : Int) ≤ (cap3 : Int) := by omega
          have q7 : (0 : Int) ≤ (ly : Int) := by omega
          go_wp2_with fail
          go_region_held3 (fun w' => (convert 27 9 (.slice oa3 ly cap3)).run Try.prog w' = .ok (.string ⟨ex.toArray⟩) w' ∧ (convert 27 9 (.slice oa4 ly cap4)).run Try.prog w' = .ok (.string ⟨ey.toArray⟩) w')
            (go_keep) (fail)
          all_goals
            go_wp2
            go_ret
            exact ⟨rfl, hB5.drew⟩
end Go.Proofs.Ytebedfcdbhgfdaa
