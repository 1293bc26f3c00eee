/- chapter 04: challenges; the reference's Sign and Verify; Private -/
import Derived.Test.YtmhmenmkgbebcaaDoorSsi
namespace Go.Proofs.YtmhmenmkgbebcaaDoor
section
open Go.RowKit Go.Shelf
theorem ownB_below {e : TypeId} {w w' : World} {base : Nat} {v : Value} {l : List UInt8} (h : OwnB e w base v l) (hb : Below w.heap.size w w') : OwnB e w' base v l := by
  refine h.kept (row := none) ⟨hb.os, hb.tape, hb.output, hb.size, fun k hk _ => hb.block k hk⟩ ?_
  cases v.ownBlock <;> simp
set_option maxRecDepth 100000 in
set_option maxHeartbeats 2000000 in
theorem rchal_any (p r : Int) (v : Value) (l : List UInt8) (c : Nat) (w : World) (hl : l.length ≤ 50000) (hb : BtsAt w.heap.size w l v) (hc : Hid (chalK r p l = c)) :
    Calls Tryd.prog 40 #[.int .i64 p, .int .i64 r, v] w fun e w' => e = .returned (.int .i64 c) ∧ Below w.heap.size w w' := by
  have HB := Lib.hid hb; have Hl := Lib.hid hl
  obtain ⟨oa, cap, rfl⟩ := hb.shape
  clear hb hl
  go_enter Tryd.func40, Tryd.ntmps40
  go_wp2_with fail
  refine (rbytes_any r _).mono ?_
  rintro e w1 ⟨v1, rfl, ho1, hb1⟩
  go_wp2_with fail
  refine (rbytes_any p _).mono ?_
  rintro e w2 ⟨v2, rfl, ho2, hb2⟩
  have HO1 := Lib.hid (ownB_below ho1 hb2)
  have S2 := Lib.hid (SrcB.ofRd (P := Tryd.prog) Tryd.underlying22 ho2.rd)
  have HB2 := Lib.hid (below_ext hb1 hb2)
  clear ho1 ho2 hb1 hb2
  obtain ⟨m1, h1⟩ : ∃ m, b8 r = m := ⟨_, rfl⟩
  obtain ⟨m2, h2⟩ : ∃ m, b8 p = m := ⟨_, rfl⟩
  have k1 := b8_len r; have k2 := b8_len p
  rw [h1] at HO1 k1; rw [h2] at S2 k2
  have hfin : Hid (chalK r p l = scalF sSign.data.toList ((m1 ++ m2) ++ l)) := by
    show _ = _; unfold chalK; rw [← h1, ← h2]; simp
  have K1 := Lib.hid k1; have K2 := Lib.hid k2
  obtain ⟨m3, h3⟩ : ∃ m, m1 ++ m2 = m := ⟨_, rfl⟩
  obtain ⟨m4, h4⟩ : ∃ m, m3 ++ l = m := ⟨_, rfl⟩
  have k3 : m3.length = 16 := by rw [← h3, List.length_append, k1, k2]
  have K3 := Lib.hid k3; have H3 := Lib.hid h3; have H4 := Lib.hid h4
  have hl4 : Hid (m4.length ≤ 100000) := by show _ ≤ _; rw [← h4, List.length_append, k3]; have := Hl.out; omega
  rw [h3, h4] at hfin
  clear h1 h2 h3 h4 k1 k2 k3
  go_wp2_with (first
    | (at_builtin; refine wpList_append_B (e := 5) Tryd.underlying22 (by kernel_rfl) rfl (.tmp 8) (.tmp 10) rfl w.heap.size v1 m1 rfl HO1.out _ m2 rfl S2.out (by rw [K1.out, K2.out]; decide) HB2.out.size ?_; intro v3 w3 ho3 hg3 hn3; rw [H3.out] at ho3
       have hb3 := Lib.hid (HB2.out.grown hg3 HB2.out.size (fun g hg => (World.ownsRow.lt HO1.out g hg).1))
       have HO3 := Lib.hid ho3
       obtain ⟨oa3, cp3, rfl⟩ := OwnB.form ho3
       clear ho3 hg3 hn3
       have S3 := Lib.hid (SrcB.ofBts (P := Tryd.prog) Tryd.underlying22 (HB.out.ext hb3.out)))
    | (at_builtin; refine wpList_append_B (e := 5) Tryd.underlying22 (by kernel_rfl) rfl (.tmp 11) (.tmp 12) rfl w.heap.size _ m3 rfl HO3.out _ l rfl S3.out (by rw [K3.out]; have := Hl.out; omega) hb3.out.size ?_; intro v4 w4 ho4 hg4 hn4; rw [H4.out] at ho4
       have hb4 := Lib.hid (hb3.out.grown hg4 hb3.out.size (fun g hg => (World.ownsRow.lt HO3.out g hg).1))
       have HO4 := Lib.hid ho4
       obtain ⟨oa4, cp4, rfl⟩ := OwnB.form ho4
       clear ho4 hg4 hn4))
  have HO4' := Lib.hid (own_bts HO4.out)
  go_wp2_with fail
  refine (rscalar_any sSign _ m4 _ (by decide) hl4.out HO4'.out ).mono ?_
  rw [← hfin.out, hc.out]
  rintro e w6 ⟨rfl, hb6⟩
  have HB6 := Lib.hid (below_ext hb4.out hb6)
  clear hb6
  go_wp2
  go_ret
  exact ⟨rfl, HB6.out⟩
set_option maxRecDepth 100000 in
set_option maxHeartbeats 2000000 in
theorem lchal_any (p r : Int) (v : Value) (l : List UInt8) (c : Nat) (w : World) (hl : l.length ≤ 50000) (hb : BtsAt w.heap.size w l v) (hL : Laid w) (hc : Hid (chalK r p l = c)) :
    Calls Tryd.prog 24 #[.int .i64 p, .int .i64 r, v] w fun e w' => e = .returned (.int .i64 c) ∧ Below w.heap.size w w' := by
  have HB := Lib.hid hb; have Hl := Lib.hid hl
  have HL := Lib.hid hL; clear hL
  obtain ⟨oa, cap, rfl⟩ := hb.shape
  clear hb hl
  go_enter Tryd.func24, Tryd.ntmps24
  go_wp2_with fail
  refine (number_any r _).mono ?_
  rintro e w1 ⟨v1, rfl, ho1, hb1⟩
  go_wp2_with fail
  refine (number_any p _).mono ?_
  rintro e w2 ⟨v2, rfl, ho2, hb2⟩
  have HO1 := Lib.hid (ownB_below ho1 hb2)
  have S2 := Lib.hid (SrcB.ofRd (P := Tryd.prog) Tryd.underlying22 ho2.rd)
  have HB2 := Lib.hid (below_ext hb1 hb2)
  clear ho1 ho2 hb1 hb2
  obtain ⟨m1, h1⟩ : ∃ m, b8 r = m := ⟨_, rfl⟩
  obtain ⟨m2, h2⟩ : ∃ m, b8 p = m := ⟨_, rfl⟩
  have k1 := b8_len r; have k2 := b8_len p
  rw [h1] at HO1 k1; rw [h2] at S2 k2
  have hfin : Hid (chalK r p l = scalF sSign.data.toList ((m1 ++ m2) ++ l)) := by
    show _ = _; unfold chalK; rw [← h1, ← h2]; simp
  have K1 := Lib.hid k1; have K2 := Lib.hid k2
  obtain ⟨m3, h3⟩ : ∃ m, m1 ++ m2 = m := ⟨_, rfl⟩
  obtain ⟨m4, h4⟩ : ∃ m, m3 ++ l = m := ⟨_, rfl⟩
  have k3 : m3.length = 16 := by rw [← h3, List.length_append, k1, k2]
  have K3 := Lib.hid k3; have H3 := Lib.hid h3; have H4 := Lib.hid h4
  have hl4 : Hid (m4.length ≤ 100000) := by show _ ≤ _; rw [← h4, List.length_append, k3]; have := Hl.out; omega
  rw [h3, h4] at hfin
  clear h1 h2 h3 h4 k1 k2 k3
  go_wp2_with (first
    | (at_builtin; refine wpList_append_B (e := 5) Tryd.underlying22 (by kernel_rfl) rfl (.tmp 8) (.tmp 10) rfl w.heap.size v1 m1 rfl HO1.out _ m2 rfl S2.out (by rw [K1.out, K2.out]; decide) HB2.out.size ?_; intro v3 w3 ho3 hg3 hn3; rw [H3.out] at ho3
       have hb3 := Lib.hid (HB2.out.grown hg3 HB2.out.size (fun g hg => (World.ownsRow.lt HO1.out g hg).1))
       have HO3 := Lib.hid ho3
       obtain ⟨oa3, cp3, rfl⟩ := OwnB.form ho3
       clear ho3 hg3 hn3
       have S3 := Lib.hid (SrcB.ofBts (P := Tryd.prog) Tryd.underlying22 (HB.out.ext hb3.out)))
    | (at_builtin; refine wpList_append_B (e := 5) Tryd.underlying22 (by kernel_rfl) rfl (.tmp 11) (.tmp 12) rfl w.heap.size _ m3 rfl HO3.out _ l rfl S3.out (by rw [K3.out]; have := Hl.out; omega) hb3.out.size ?_; intro v4 w4 ho4 hg4 hn4; rw [H4.out] at ho4
       have hb4 := Lib.hid (hb3.out.grown hg4 hb3.out.size (fun g hg => (World.ownsRow.lt HO3.out g hg).1))
       have HO4 := Lib.hid ho4
       obtain ⟨oa4, cp4, rfl⟩ := OwnB.form ho4
       clear ho4 hg4 hn4))
  have HO4' := Lib.hid (own_bts HO4.out)
  go_wp2_with fail
  refine (scalar_any sSign _ m4 _ (by decide) hl4.out HO4'.out (HL.out.ext hb4.out)).mono ?_
  rw [← hfin.out, hc.out]
  rintro e w6 ⟨rfl, hb6⟩
  have HB6 := Lib.hid (below_ext hb4.out hb6)
  clear hb6
  go_wp2
  go_ret
  exact ⟨rfl, HB6.out⟩
end
section
open Go.RowKit Go.Shelf
theorem ScPost.ok {x y r : Nat} {f : Nat → Nat → Nat} {w w' : World} {e : Ending} (hx : x < cQ) (hy : y < cQ) (hr : f x y = r) (h : ScPost (x : Int) (y : Int) f w e w') : e = .returned (.tuple #[.int .i64 r, .int .i64 0]) ∧ Below w.heap.size w w' := by
  obtain ⟨⟨a, b, rfl, hc⟩, hb⟩ := h
  rcases hc with ⟨_, _, rfl, rfl⟩ | ⟨h1, _, _⟩
  · exact ⟨by rw [← hr]; rfl, hb⟩
  · exact absurd ⟨⟨by omega, Int.ofNat_lt.2 hx⟩, ⟨by omega, Int.ofNat_lt.2 hy⟩⟩ h1
theorem rprod_ok (x y r : Nat) (hx : Hid (x < cQ)) (hy : Hid (y < cQ)) (hr : Hid (x * y % cQ = r)) (w : World) : Calls Tryd.prog 39 #[.int .i64 x, .int .i64 y] w fun e w' => e = .returned (.tuple #[.int .i64 r, .int .i64 0]) ∧ Below w.heap.size w w' :=
  (rProd_any x y w).mono fun _ _ h => h.ok hx.out hy.out hr.out
theorem rsum_ok (x y r : Nat) (hx : Hid (x < cQ)) (hy : Hid (y < cQ)) (hr : Hid ((x + y) % cQ = r)) (w : World) : Calls Tryd.prog 41 #[.int .i64 x, .int .i64 y] w fun e w' => e = .returned (.tuple #[.int .i64 r, .int .i64 0]) ∧ Below w.heap.size w w' :=
  (rSum_any x y w).mono fun _ _ h => h.ok hx.out hy.out hr.out
set_option maxRecDepth 100000 in
set_option maxHeartbeats 2000000 in
theorem rsign_ok (n : Nat) (v : Value) (l : List UInt8) (w : World) (k R c p m S : Nat) (hn : Hid (ZPr (n : Int))) (hl : l.length ≤ 50000) (hb : BtsAt w.heap.size w l v)
    (hk : Hid (nonceK n l = k)) (hR : Hid (pw 4 k = R)) (hp : Hid (pw 4 n = p)) (hc : Hid (chalK R p l = c)) (hm : Hid (c * n % cQ = m)) (hS : Hid ((k + m) % cQ = S)) :
    Calls Tryd.prog 16 #[.int .i64 n, v] w fun e w' => e = .returned (.tuple #[.agg #[.int .i64 R, .int .i64 S], .int .i64 0]) ∧ Below w.heap.size w w' := by
  have HB := Lib.hid hb; have Hl := Lib.hid hl
  obtain ⟨oa, cap, rfl⟩ := hb.shape
  have hnl : Hid (n < cQ) := Int.ofNat_lt.1 hn.out.2
  have hkl : Hid (k < cQ) := by show _ < _; rw [← hk.out]; exact (scalF_lt _ _).2
  have hcl : Hid (c < cQ) := by show _ < _; rw [← hc.out]; exact (scalF_lt _ _).2
  have hml : Hid (m < cQ) := by show _ < _; rw [← hm.out]; exact Nat.mod_lt _ (by decide)
  obtain ⟨m1, h1⟩ : ∃ m, b8 n = m := ⟨_, rfl⟩
  have k1 := b8_len n
  rw [h1] at k1
  obtain ⟨m4, h4⟩ : ∃ m, m1 ++ l = m := ⟨_, rfl⟩
  have hfin : Hid (scalF sNonce.data.toList m4 = k) := by
    show _ = _; rw [← hk.out]; unfold nonceK; rw [← h4, ← h1]; simp
  have hl4 : Hid (m4.length ≤ 100000) := by show _ ≤ _; rw [← h4, List.length_append, k1]; omega
  have K1 := Lib.hid k1; have H1 := Lib.hid h1; have H4 := Lib.hid h4
  clear h1 h4 k1
  clear hb hl
  have hcb0 : Hid (CB (w.alloc (.cells #[.int .i64 0, .int .i64 0] 30)) w.heap.size 30 [.int .i64 0, .int .i64 0]) := heap_alloc_new w _
  have hb0 := Lib.hid ((Below.refl w.heap.size w).alloc (Nat.le_refl _) (.cells #[.int .i64 0, .int .i64 0] 30))
  go_enter Tryd.func16, Tryd.ntmps16
  go_wp2_with fail
  refine (rpublic_ok n p hn hp _).mono ?_
  rintro e w1 ⟨rfl, rfl⟩
  generalize w.alloc (.cells #[.int .i64 0, .int .i64 0] 30) = w0 at *
  go_wp2_with fail
  refine (rbytes_any n _).mono ?_
  rw [H1.out]
  rintro e w1 ⟨v1, rfl, ho1, hb1⟩
  have HO1 := Lib.hid ho1
  have HB01 := Lib.hid hb1
  have S3 := Lib.hid (SrcB.ofBts (P := Tryd.prog) Tryd.underlying22 (HB.out.ext (below_ext hb0.out hb1)))
  clear ho1 hb1
  go_wp2_with (at_builtin; refine wpList_append_B (e := 5) Tryd.underlying22 (by kernel_rfl) rfl (.tmp 25) (.tmp 26) rfl w0.heap.size v1 m1 rfl HO1.out _ l rfl S3.out (by rw [K1.out]; have := Hl.out; omega) HB01.out.size ?_; intro v3 w3 ho3 hg3 hn3; rw [H4.out] at ho3)
  have hb3 := HB01.out.grown hg3 HB01.out.size (fun g hg => (World.ownsRow.lt HO1.out g hg).1)
  have hcb3 := Lib.hid (hcb0.out.ext hb3)
  have hb3' := Lib.hid (below_ext hb0.out hb3)
  have HO3 := Lib.hid (own_bts ho3)
  obtain ⟨oa3, cp3, rfl⟩ := OwnB.form ho3
  clear ho3 hg3 hn3 hb3 S3 HO1 HB01 hb0 hcb0
  go_wp2_with fail
  refine (rscalar_any sNonce _ m4 _ (by decide) hl4.out HO3.out).mono ?_
  rw [hfin.out]
  rintro e w4 ⟨rfl, hb⟩
  have hcb4 := Lib.hid (CB.ext hcb3.out hb)
  have hb4 := Lib.hid (below_ext hb3'.out hb)
  clear hb hcb3 hb3' HO3
  go_wp2_with fail
  refine (rbase_ok k R hkl hR _).mono ?_
  rintro e w5 ⟨rfl, rfl⟩
  go_wp2_with fail
  refine (rchal_any p R _ l c _ Hl.out (HB.out.ext hb4.out) hc).mono ?_
  rintro e w5 ⟨rfl, hb⟩
  have hcb5 := Lib.hid (CB.ext hcb4.out hb)
  have hb5 := Lib.hid (below_ext hb4.out hb)
  clear hb hcb4 hb4
  go_wp2_with fail
  refine (rprod_ok c n m hcl hnl hm _).mono ?_
  rintro e w6 ⟨rfl, hb⟩
  have hcb6 := Lib.hid (CB.ext hcb5.out hb)
  have hb6 := Lib.hid (below_ext hb5.out hb)
  clear hb hcb5 hb5
  go_wp2_with fail
  refine (rsum_ok k m S hkl hml hS _).mono ?_
  rintro e w7 ⟨rfl, hb⟩
  have hcb7 := Lib.hid (CB.ext hcb6.out hb)
  have hb7 := Lib.hid (below_ext hb6.out hb)
  clear hb hcb6 hb6
  have c0 : w7.cell? ⟨w.heap.size, 0, none⟩ = some (.int .i64 0) := hcb7.out.cell 0
  have f0 := hcb7.out.frozen 0
  have c1 : w7.cell? ⟨w.heap.size, 1, none⟩ = some (.int .i64 0) := hcb7.out.cell 1
  have f1 := hcb7.out.frozen 1
  go_wp2_with fail
  refine bodyPost_ret (v := .tuple #[.agg #[.int .i64 R, .int .i64 S], .int .i64 0]) (by simp [results, Tryd.results16, go_sem, c0, c1]) rfl ⟨rfl, ?_⟩
  exact (hb7.out.setCell (p := ⟨w.heap.size, 0, none⟩) (Nat.le_refl _) _).setCell (p := ⟨w.heap.size, 1, none⟩) (Nat.le_refl _) _
set_option maxRecDepth 100000 in
set_option maxHeartbeats 2000000 in
theorem rsign_bad (x : Int) (oa : Option Addr) (len cap : Nat) (w : World) (hx : Hid (¬ ZPr x)) :
    Calls Tryd.prog 16 #[.int .i64 x, .slice oa len cap] w fun e w' => e = .returned (.tuple #[.agg #[.int .i64 0, .int .i64 0], .int .i64 40]) ∧ Below w.heap.size w w' := by
  go_enter Tryd.func16, Tryd.ntmps16
  go_wp2_with fail
  refine (rpublic_bad x hx _).mono ?_
  rintro e w1 ⟨rfl, rfl⟩
  go_wp2_with fail
  refine bodyPost_ret (v := .tuple #[.agg #[.int .i64 0, .int .i64 0], .int .i64 40]) (by simp [results, Tryd.results16, go_sem]) rfl ⟨rfl, ?_⟩
  exact (Below.refl w.heap.size w).alloc (Nat.le_refl _) _
end
section
open Go.RowKit Go.Shelf
set_option maxRecDepth 100000 in
set_option maxHeartbeats 2000000 in
theorem rverify_ok (p R s : Nat) (v : Value) (l : List UInt8) (a b c d : Nat) (t : Bool) (w : World) (hp : Hid (isEl p)) (hR : Hid (isEl R)) (hs : Hid (s < cQ)) (hl : l.length ≤ 50000) (hb : BtsAt w.heap.size w l v)
    (hc : Hid (chalK R p l = c)) (ha : Hid (pw 4 s = a)) (hB : Hid (pw p c = b)) (hd : Hid (R * b % cP = d)) (ht : ((a : Int) == (d : Int)) = t) :
    Calls Tryd.prog 20 #[.int .i64 p, v, .agg #[.int .i64 R, .int .i64 s]] w fun e w' => e = .returned (.bool t) ∧ Below w.heap.size w w' := by
  have HB := Lib.hid hb; have Hl := Lib.hid hl
  obtain ⟨oa, cap, rfl⟩ := hb.shape
  have hcl : Hid (c < cQ) := by show _ < _; rw [← hc.out]; exact (scalF_lt _ _).2
  have hbe : Hid (isEl b) := by show isEl b; rw [← hB.out]; exact pw_el hp.out c
  have t1 : decide ((s : Int) < 0) = false := by simp
  have t2 : decide ((2305843009213688669 : Int) ≤ (s : Int)) = false := decide_eq_false (Int.not_le.2 (Int.ofNat_lt.2 hs.out))
  clear hb hl
  have hcb0 : Hid (CB (w.alloc (.cells #[.int .i64 R, .int .i64 s] 30)) w.heap.size 30 [.int .i64 R, .int .i64 s]) := heap_alloc_new w _
  have hb0 := Lib.hid ((Below.refl w.heap.size w).alloc (Nat.le_refl _) (.cells #[.int .i64 R, .int .i64 s] 30))
  go_enter Tryd.func20, Tryd.ntmps20
  go_upto_region 1 with fail
  generalize w.alloc (.cells #[.int .i64 R, .int .i64 s] 30) = w0 at *
  have c0 : w0.cell? ⟨w.heap.size, 0, none⟩ = some (.int .i64 R) := hcb0.out.cell 0
  have c1 : w0.cell? ⟨w.heap.size, 1, none⟩ = some (.int .i64 s) := hcb0.out.cell 1
  go_wp2_with fail
  refine (rcheck_ok p hp _).mono ?_
  rintro e w1 ⟨rfl, rfl⟩
  go_wp2_with fail
  refine (rcheck_ok R hR _).mono ?_
  rintro e w1 ⟨rfl, rfl⟩
  go_wp2_with fail
  refine (rbase_ok s a hs ha _).mono ?_
  rintro e w1 ⟨rfl, rfl⟩
  go_wp2_with fail
  refine (rchal_any p R _ l c _ Hl.out (HB.out.ext hb0.out) hc).mono ?_
  rintro e w1 ⟨rfl, hb⟩
  have hb1 := Lib.hid (below_ext hb0.out hb)
  have d0 : w1.cell? ⟨w.heap.size, 0, none⟩ = some (.int .i64 R) := cell_ext hb c0
  have d1 : w1.cell? ⟨w.heap.size, 1, none⟩ = some (.int .i64 s) := cell_ext hb c1
  clear hb
  go_wp2_with fail
  refine (rexp_ok p c b hp hcl hB _).mono ?_
  rintro e w2 ⟨rfl, rfl⟩
  go_wp2_with fail
  refine (rmul_ok R b d hR hbe hd _).mono ?_
  rintro e w2 ⟨rfl, rfl⟩
  go_wp2_with fail
  go_ret
  exact ⟨rfl, hb1.out⟩
set_option maxRecDepth 100000 in
set_option maxHeartbeats 2000000 in
theorem rverify_bad (P R S : Int) (oa : Option Addr) (len cap : Nat) (w : World) (h : ¬ (ZEl P ∧ ZEl R ∧ ZSc S)) :
    Calls Tryd.prog 20 #[.int .i64 P, .slice oa len cap, .agg #[.int .i64 R, .int .i64 S]] w fun e w' => e = .returned (.bool false) ∧ Below w.heap.size w w' := by
  have hcb0 : Hid (CB (w.alloc (.cells #[.int .i64 R, .int .i64 S] 30)) w.heap.size 30 [.int .i64 R, .int .i64 S]) := heap_alloc_new w _
  have hb0 := Lib.hid ((Below.refl w.heap.size w).alloc (Nat.le_refl _) (.cells #[.int .i64 R, .int .i64 S] 30))
  by_cases h1 : ZEl P
  case neg =>
    have H1 := Lib.hid h1
    clear h h1
    go_enter Tryd.func20, Tryd.ntmps20
    go_wp2_with fail
    refine (rcheck_bad P H1 _).mono ?_
    rintro e w1 ⟨rfl, rfl⟩
    go_wp2_with fail
    go_ret
    exact ⟨rfl, hb0.out⟩
  case pos =>
    obtain ⟨p, rfl, hp⟩ : ∃ n : Nat, P = (n : Int) ∧ isEl n := ⟨P.toNat, by have := h1.1; omega, h1.2⟩
    have Hp := Lib.hid hp
    by_cases h2 : ZEl R
    case neg =>
      have H2 := Lib.hid h2
      clear h h1 h2 hp
      go_enter Tryd.func20, Tryd.ntmps20
      go_upto_region 1 with fail
      generalize w.alloc (.cells #[.int .i64 R, .int .i64 S] 30) = w0 at *
      have c0 : w0.cell? ⟨w.heap.size, 0, none⟩ = some (.int .i64 R) := hcb0.out.cell 0
      go_wp2_with fail
      refine (rcheck_ok p Hp _).mono ?_
      rintro e w1 ⟨rfl, rfl⟩
      go_wp2_with fail
      refine (rcheck_bad R H2 _).mono ?_
      rintro e w1 ⟨rfl, rfl⟩
      go_wp2_with fail
      go_ret
      exact ⟨rfl, hb0.out⟩
    case pos =>
      obtain ⟨r, rfl, hr⟩ : ∃ n : Nat, R = (n : Int) ∧ isEl n := ⟨R.toNat, by have := h2.1; omega, h2.2⟩
      have Hr := Lib.hid hr
      have h3 : ¬ ZSc S := fun h3 => h ⟨h1, h2, h3⟩
      rcases zsc_not h3 with hx | hx
      · have t1 := tneg hx
        clear h h1 h2 hp hr h3 hx
        go_enter Tryd.func20, Tryd.ntmps20
        go_upto_region 1 with fail
        generalize w.alloc (.cells #[.int .i64 r, .int .i64 S] 30) = w0 at *
        have c0 : w0.cell? ⟨w.heap.size, 0, none⟩ = some (.int .i64 r) := hcb0.out.cell 0
        have c1 : w0.cell? ⟨w.heap.size, 1, none⟩ = some (.int .i64 S) := hcb0.out.cell 1
        go_wp2_with fail
        refine (rcheck_ok p Hp _).mono ?_
        rintro e w1 ⟨rfl, rfl⟩
        go_wp2_with fail
        refine (rcheck_ok r Hr _).mono ?_
        rintro e w1 ⟨rfl, rfl⟩
        go_wp2_with fail
        go_ret
        exact ⟨rfl, hb0.out⟩
      · obtain ⟨t1, t2⟩ := tbig hx
        clear h h1 h2 hp hr h3 hx
        go_enter Tryd.func20, Tryd.ntmps20
        go_upto_region 1 with fail
        generalize w.alloc (.cells #[.int .i64 r, .int .i64 S] 30) = w0 at *
        have c0 : w0.cell? ⟨w.heap.size, 0, none⟩ = some (.int .i64 r) := hcb0.out.cell 0
        have c1 : w0.cell? ⟨w.heap.size, 1, none⟩ = some (.int .i64 S) := hcb0.out.cell 1
        go_wp2_with fail
        refine (rcheck_ok p Hp _).mono ?_
        rintro e w1 ⟨rfl, rfl⟩
        go_wp2_with fail
        refine (rcheck_ok r Hr _).mono ?_
        rintro e w1 ⟨rfl, rfl⟩
        go_wp2_with fail
        go_ret
        exact ⟨rfl, hb0.out⟩
end
section
open Go.RowKit Go.Shelf
def sPriv : ByteArray := ⟨#[112, 114, 105, 118, 97, 116, 101]⟩
def privK (d t : List UInt8) (n : Int) : Nat := scalF sPriv.data.toList ((d ++ b8 n) ++ t)
theorem ownB_mono {e : TypeId} {w : World} {base base' : Nat} {v : Value} {l : List UInt8} (h : OwnB e w base v l) (hb : base' ≤ base) : OwnB e w base' v l := by
  refine ⟨h.1, ?_⟩
  rcases h.2 with h | ⟨g, cap, cur, h1, h2, h3⟩
  · exact .inl h
  · exact .inr ⟨g, cap, cur, h1, Nat.le_trans hb h2, h3⟩
theorem made_own2 (w : World) (o : Obj) : OwnB 5 ((w.alloc o).alloc (.cells #[] 5)) w.heap.size (.slice (some ⟨w.heap.size + 1, 0, none⟩) 0 0) [] := by
  have h := made_own (w.alloc o)
  rw [World.size_alloc] at h
  exact ownB_mono h (by omega)
set_option maxRecDepth 100000 in
set_option maxHeartbeats 2000000 in
theorem private_any (d : List UInt8) (s : ByteArray) (n : Int) (r : Nat) (w : World) (hd : d.length = 32) (hs : s.size ≤ 50000) (hL : Laid w) (hr : Hid (privK d s.data.toList n = r)) :
    Calls Tryd.prog 17 #[dv d, .string s, .int .i64 n] w fun e w' => e = .returned (.int .i64 r) ∧ Below w.heap.size w w' := by
  have HL := Lib.hid hL; have Hs := Lib.hid hs; have Hd := Lib.hid hd
  clear hL hs hd
  obtain ⟨u, hu⟩ : ∃ u, u64 n = u := ⟨_, rfl⟩
  have e0 : IntKind.u64.wrap n = (u : Int) := by rw [u64_wrap, hu]
  have Hu := Lib.hid hu
  clear hu
  obtain ⟨m, hm⟩ : ∃ m, d ++ be 8 u = m := ⟨_, rfl⟩
  have hml : m.length = 40 := by rw [← hm, List.length_append, be_len, Hd.out]
  have Hm := Lib.hid hm; have Hml := Lib.hid hml
  obtain ⟨m4, hm4⟩ : ∃ x, m ++ s.data.toList = x := ⟨_, rfl⟩
  have hl4 : Hid (m4.length ≤ 100000) := by show _ ≤ _; rw [← hm4, List.length_append, hml]; have := Hs.out; simp; omega
  have Hm4 := Lib.hid hm4
  have hfin : Hid (scalF sPriv.data.toList m4 = r) := by
    show _ = _; rw [← hr.out]; unfold privK b8; rw [Hu.out, hm, hm4]
  clear hm hml hm4
  have hcb0 : Hid (CB ((w.alloc (.cells (bcells d).toArray 35)).alloc (.cells #[] 5)) w.heap.size 35 (bcells d)) := (CB.new w _ _).alloc _
  have hO := Lib.hid (made_own2 w (.cells (bcells d).toArray 35))
  have hb0 := Lib.hid (((Below.refl w.heap.size w).alloc (Nat.le_refl _) (.cells (bcells d).toArray 35)).alloc (by simp) (.cells #[] 5))
  have hS := Lib.hid (SrcB.ofBts (P := Tryd.prog) Tryd.underlying22 (dig_bts hcb0.out Hd.out))
  change Calls Tryd.prog 17 #[.agg (bcells d).toArray, .string s, .int .i64 n] w _
  go_enter Tryd.func17, Tryd.ntmps17
  go_wp2_with (at_builtin; refine wpList_append_B (e := 5) Tryd.underlying22 (by kernel_rfl) rfl (.tmp 9) (.tmp 10) rfl w.heap.size _ [] rfl hO.out (.slice (some ⟨w.heap.size, 0, none⟩) 32 32) d rfl hS.out (by rw [Hd.out]; decide) hb0.out.size ?_; intro v3 w3 ho3 hg3 hn3; rw [List.nil_append] at ho3)
  have hb3 := Lib.hid (hb0.out.grown hg3 hb0.out.size (fun g hg => (World.ownsRow.lt hO.out g hg).1))
  have HO3 := Lib.hid ho3
  obtain ⟨oa3, cp3, rfl⟩ := OwnB.form ho3
  rw [Hd.out] at HO3 ⊢
  clear ho3 hg3 hn3 hS hO hb0 hcb0
  go_wp2_with fail
  go_loopw [7, 8] (fun v i wr => P3Rel w d (be 8 u) v i wr) (fun _ i _ => (intOf i + 8).toNat)
  case atStart => exact ⟨0, Nat.zero_le _, rfl, by rw [List.take_zero, List.append_nil]; have h := HO3.out; exact h, hb3.out⟩
  case round =>
    obtain ⟨j, hj, rfl, ho, hb⟩ := hrel
    obtain ⟨oa4, cp4, rfl⟩ := OwnB.form ho
    have hbl : (be 8 u).length = 8 := be_len _ _
    have HO4 := Lib.hid ho; have HB4 := Lib.hid hb
    have hlt4 := Lib.hid (fun g hg => (World.ownsRow.lt ho g hg).1)
    obtain ⟨q, hq⟩ : ∃ q, d ++ (be 8 u).take j = q := ⟨_, rfl⟩
    have hql : q.length = 32 + j := by rw [← hq, List.length_append, Hd.out, List.length_take, hbl]; omega
    rw [hq] at HO4 hlt4 ⊢
    rw [hql] at HO4 hlt4 ⊢
    have Hq := Lib.hid hq; have Hql := Lib.hid hql
    clear ho hb hq hql
    by_cases h8 : j < 8
    · have tj : decide ((0 : Int) ≤ 56 - 8 * (j : Int)) = true := by simp; omega
      have tj2 : (0 : Int) ≤ 56 - 8 * (j : Int) := by omega
      have tj3 : (56 : Int) - 8 * (j : Int) ≤ 56 := by omega
      have e5 : ((56 : Int) - 8 * (j : Int)).toNat = 8 * (7 - j) := by omega
      have e6 : wrap64 (56 - 8 * (j : Int) - 8) = 56 - 8 * ((j + 1 : Nat) : Int) := by unfold wrap64; omega
      obtain ⟨c, hc⟩ : ∃ c, (be 8 u)[j]? = some c := ⟨_, List.getElem?_eq_getElem (by omega)⟩
      have hxi := Lib.hid (b8_at u j h8 c hc)
      have htk := Lib.hid (take_at _ j c hc)
      have hw1 := Lib.hid (HO4.out.alloc (.cells #[.int .u8 ((u : Int) / 2 ^ (8 * (7 - j)) % 256)] 5)); have hw2 := Lib.hid (HB4.out.alloc HB4.out.size (.cells #[.int .u8 ((u : Int) / 2 ^ (8 * (7 - j)) % 256)] 5))
      clear hc hbl
      go_wp2_with (at_builtin; refine wpList_append_1 (e := 5) Tryd.underlying22 (by kernel_rfl) rfl _ _ rfl w.heap.size (.slice oa4 (32 + j) cp4) q rfl hw1.out wr.heap.size ((u : Int) / 2 ^ (8 * (7 - j)) % 256) c rfl (by simp) hxi.out (by have := Hql.out; omega) hw2.out.size ?_; intro v5 w5 ho5 hg5 hn5)
      have hb5 : Below w.heap.size w w5 := hw2.out.grown hg5 hw2.out.size hlt4.out
      go_roundw
      case rel => exact ⟨j + 1, by omega, by rw [show (56 : Int) - 8 * (j : Int) - 8 = 56 - 8 * ((j + 1 : Nat) : Int) by omega], by rw [htk.out, ← List.append_assoc, Hq.out]; exact ho5, hb5⟩
      case measure => simp [intOf]; omega
    · have h8' : j = 8 := by omega
      have tj : decide ((0 : Int) ≤ 56 - 8 * (j : Int)) = false := by simp; omega
      have hqm : q = m := by
        rw [← Hq.out, h8', List.take_of_length_le (by rw [hbl]; exact Nat.le_refl _), Hm.out]
      rw [hqm] at HO4
      have S2 := Lib.hid (SrcB.ofString (P := Tryd.prog) (tx := 9) Tryd.underlying9 s wr)
      have hqj : Hid (32 + j = 40) := by show _ = _; omega
      clear hbl h8' hqm Hq Hql hlt4
      go_wp2_with (at_builtin; refine wpList_append_B (e := 5) Tryd.underlying22 (by kernel_rfl) rfl _ _ rfl w.heap.size (.slice oa4 (32 + j) cp4) m rfl HO4.out (.string s) s.data.toList rfl S2.out (by rw [Hml.out]; have := Hs.out; simp; omega) HB4.out.size ?_; intro v5 w5 ho5 hg5 hn5; rw [Hm4.out] at ho5)
      have hb5 := Lib.hid (HB4.out.grown hg5 HB4.out.size (fun g hg => (World.ownsRow.lt HO4.out g hg).1))
      have HO5 := Lib.hid (own_bts ho5)
      obtain ⟨oa5, cp5, rfl⟩ := OwnB.form ho5
      clear ho5 hg5 hn5
      go_wp2_with fail
      refine (scalar_any sPriv _ m4 _ (by decide) hl4.out HO5.out (HL.out.ext hb5.out)).mono ?_
      rw [hfin.out]
      rintro e w6 ⟨rfl, hb6⟩
      have HB6 := Lib.hid (below_ext hb5.out hb6)
      clear hb6
      go_wp2
      go_ret
      exact ⟨rfl, HB6.out⟩
set_option maxRecDepth 100000 in
set_option maxHeartbeats 2000000 in
theorem rprivate_any (d : List UInt8) (s : ByteArray) (n : Int) (r : Nat) (w : World) (hd : d.length = 32) (hs : s.size ≤ 50000) (hr : Hid (privK d s.data.toList n = r)) :
    Calls Tryd.prog 18 #[dv d, .string s, .int .i64 n] w fun e w' => e = .returned (.int .i64 r) ∧ Below w.heap.size w w' := by
  have Hs := Lib.hid hs; have Hd := Lib.hid hd
  clear hs hd
  obtain ⟨m1, hm1⟩ : ∃ x, b8 n = x := ⟨_, rfl⟩
  have k1 := b8_len n
  rw [hm1] at k1
  obtain ⟨m, hm⟩ : ∃ m, d ++ m1 = m := ⟨_, rfl⟩
  have hml : m.length = 40 := by rw [← hm, List.length_append, k1, Hd.out]
  have Hm := Lib.hid hm; have Hml := Lib.hid hml; have Hm1 := Lib.hid hm1; have K1 := Lib.hid k1
  obtain ⟨m4, hm4⟩ : ∃ x, m ++ s.data.toList = x := ⟨_, rfl⟩
  have hl4 : Hid (m4.length ≤ 100000) := by show _ ≤ _; rw [← hm4, List.length_append, hml]; have := Hs.out; simp; omega
  have Hm4 := Lib.hid hm4
  have hfin : Hid (scalF sPriv.data.toList m4 = r) := by
    show _ = _; rw [← hr.out]; unfold privK; rw [hm1, hm, hm4]
  clear hm hml hm4 hm1 k1
  have hcb0 : Hid (CB ((w.alloc (.cells (bcells d).toArray 35)).alloc (.cells #[] 5)) w.heap.size 35 (bcells d)) := (CB.new w _ _).alloc _
  have hO := Lib.hid (made_own2 w (.cells (bcells d).toArray 35))
  have hb0 := Lib.hid (((Below.refl w.heap.size w).alloc (Nat.le_refl _) (.cells (bcells d).toArray 35)).alloc (by simp) (.cells #[] 5))
  have hS := Lib.hid (SrcB.ofBts (P := Tryd.prog) Tryd.underlying22 (dig_bts hcb0.out Hd.out))
  change Calls Tryd.prog 18 #[.agg (bcells d).toArray, .string s, .int .i64 n] w _
  go_enter Tryd.func18, Tryd.ntmps18
  go_wp2_with (at_builtin; refine wpList_append_B (e := 5) Tryd.underlying22 (by kernel_rfl) rfl (.tmp 8) (.tmp 9) rfl w.heap.size _ [] rfl hO.out (.slice (some ⟨w.heap.size, 0, none⟩) 32 32) d rfl hS.out (by rw [Hd.out]; decide) hb0.out.size ?_; intro v3 w3 ho3 hg3 hn3; rw [List.nil_append] at ho3)
  have hb3 := Lib.hid (hb0.out.grown hg3 hb0.out.size (fun g hg => (World.ownsRow.lt hO.out g hg).1))
  have HO3 := Lib.hid ho3
  obtain ⟨oa3, cp3, rfl⟩ := OwnB.form ho3
  clear ho3 hg3 hn3 hS hO hb0 hcb0
  go_wp2_with fail
  refine (rbytes_any n _).mono ?_
  rw [Hm1.out]
  rintro e w4 ⟨v4, rfl, ho4, hb4⟩
  have HO3' := Lib.hid (ownB_below HO3.out hb4)
  have HB4 := Lib.hid (below_ext hb3.out hb4)
  have S4 := Lib.hid (SrcB.ofRd (P := Tryd.prog) Tryd.underlying22 ho4.rd)
  clear ho4 hb4 HO3
  go_wp2_with (first
    | (at_builtin; refine wpList_append_B (e := 5) Tryd.underlying22 (by kernel_rfl) rfl (.tmp 11) (.tmp 13) rfl w.heap.size _ d rfl HO3'.out v4 m1 rfl S4.out (by rw [Hd.out, K1.out]; decide) HB4.out.size ?_; intro v5 w5 ho5 hg5 hn5; rw [Hm.out] at ho5
       obtain ⟨k1, w6, hcv, hb6, hbt6⟩ := run_bytes_of s (by have := Hs.out; omega) w5
       have hb5 := HB4.out.grown hg5 HB4.out.size (fun g hg => (World.ownsRow.lt HO3'.out g hg).1)
       have HO5 := Lib.hid (ownB_below ho5 hb6)
       obtain ⟨oa5, cp5, rfl⟩ := OwnB.form ho5
       have HB6 := Lib.hid (below_ext hb5 hb6)
       have S6 := Lib.hid (SrcB.ofBts (P := Tryd.prog) Tryd.underlying22 hbt6)
       clear ho5 hg5 hn5 hb6 hbt6 hb5 HO3' HB4 S4)
    | (at_builtin; refine wpList_append_B (e := 5) Tryd.underlying22 (by kernel_rfl) rfl (.tmp 15) (.tmp 17) rfl w.heap.size _ m rfl HO5.out _ s.data.toList rfl S6.out (by rw [Hml.out]; have := Hs.out; simp; omega) HB6.out.size ?_; intro v7 w7 ho7 hg7 hn7; rw [Hm4.out] at ho7))
  have hb7 := Lib.hid (HB6.out.grown hg7 HB6.out.size (fun g hg => (World.ownsRow.lt HO5.out g hg).1))
  have HO7 := Lib.hid (own_bts ho7)
  obtain ⟨oa7, cp7, rfl⟩ := OwnB.form ho7
  clear ho7 hg7 hn7 hcv
  go_wp2_with fail
  refine (rscalar_any sPriv _ m4 _ (by decide) hl4.out HO7.out).mono ?_
  rw [hfin.out]
  rintro e w8 ⟨rfl, hb8⟩
  have HB8 := Lib.hid (below_ext hb7.out hb8)
  clear hb8
  go_wp2
  go_ret
  exact ⟨rfl, HB8.out⟩
end
end Go.Proofs.YtmhmenmkgbebcaaDoor
