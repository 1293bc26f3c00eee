/- Merged: Lcd Lct Lsn. -/
import Derived.Test.YtlocilbcmcfmaaaK06
import Derived.Test.YtlocilbcmcfmaaaK07
import Derived.Test.YtlocilbcmcfmaaaK10
import Derived.StillTailTactics
/- lease.Decode. -/
namespace Go.Proofs.Ytlocilbcmcfmaaa
open Go.RowKit
/-- is not every value of the list a number? -/
def badK (l : List V) : Bool := l.any (fun x => x.kind != 1)
set_option maxRecDepth 100000 in
theorem decode1_any (x : V) (oa : Option Addr) (cap : Nat) (w : World) : Calls Try.prog 31 #[.agg #[.int .i64 x.kind, .int .i64 x.n, .string x.s, .slice oa x.l.length cap]] w fun e w' => e = .returned (.bool (x.kind != 1)) ∧ Below w.heap.size w w' := by
  have hb0 := Lib.hid ((Below.refl w.heap.size w).alloc (Nat.le_refl _) (.cells #[.int .i64 x.kind, .int .i64 x.n, .string x.s, .slice oa x.l.length cap] 54))
  obtain ⟨z, hz⟩ : ∃ z, (x.kind != 1) = z := ⟨_, rfl⟩
  rw [hz]
  go_enter Try.func31, Try.ntmps31
  go_wp2
  go_ret
  exact ⟨by first | rfl | simp [hz], hb0.out⟩
def IvRel (l : List V) (w : World) (i : Value) (wr : World) : Prop := ∃ k : Nat, k ≤ l.length ∧ i = .int .i64 k ∧ (∀ j y, j < k → l[j]? = some y → (y.kind != 1) = false) ∧ Below w.heap.size w wr
def ivI (l : List V) : Int := match l.findIdx? (fun x => x.kind != 1) with | some n => n | none => -1
theorem iv_first {l : List V} {k : Nat} {x : V} (h : l[k]? = some x) (hx : (x.kind != 1) = true) (hb : ∀ j y, j < k → l[j]? = some y → (y.kind != 1) = false) : ivI l = (k : Int) := by
  obtain ⟨h1, h2⟩ := List.getElem?_eq_some_iff.1 h
  have : l.findIdx? (fun x => x.kind != 1) = some k := by
    rw [List.findIdx?_eq_some_iff_getElem]
    refine ⟨h1, by rw [h2]; exact hx, fun j hj => ?_⟩
    have := hb j l[j] hj (List.getElem?_eq_getElem (by omega))
    rw [this]; decide
  unfold ivI; rw [this]
theorem iv_no {l : List V} (hb : ∀ j y, j < l.length → l[j]? = some y → (y.kind != 1) = false) : ivI l = -1 := by
  have : l.findIdx? (fun x => x.kind != 1) = none := by
    rw [List.findIdx?_eq_none_iff]
    intro x hx
    obtain ⟨j, hj, rfl⟩ := List.mem_iff_getElem.1 hx
    exact hb j l[j] hj (List.getElem?_eq_getElem hj)
  unfold ivI; rw [this]
theorem iv_bad (l : List V) : badK l = decide (0 ≤ ivI l) := by
  unfold badK ivI
  cases h : l.findIdx? (fun x => x.kind != 1) with
  | none =>
    rw [List.findIdx?_eq_none_iff] at h
    rw [List.any_eq_false.2 (fun x hx => by rw [h x hx]; decide)]; rfl
  | some n =>
    rw [List.findIdx?_eq_some_iff_getElem] at h
    obtain ⟨h1, h2, _⟩ := h
    rw [List.any_eq_true.2 ⟨l[n], List.getElem_mem h1, h2⟩]
    simp
set_option maxRecDepth 100000 in
set_option maxHeartbeats 2000000 in
theorem indexV_any (l : List V) (oa : Option Addr) (cap : Nat) (w : World) (hl : SlV w.heap.size w l (.slice oa l.length cap)) (hm : l.length ≤ 9223372036854775807) :
    Calls Try.prog 41 #[.slice oa l.length cap, .func (.func 31) #[] #[]] w fun e w' => e = .returned (.int .i64 (ivI l)) ∧ Below w.heap.size w w' := by
  have bl : (l.length : Int) ≤ 9223372036854775807 := by omega
  have HL := Lib.hid hl
  clear hl hm
  obtain ⟨r, hr⟩ : ∃ r, ivI l = r := ⟨_, rfl⟩
  have HR := Lib.hid hr
  rw [hr]; clear hr
  go_enter Try.func41, Try.ntmps41
  go_wp2_with fail
  go_loopw [5, 8] (fun _ i wr => IvRel l w i wr) (fun _ i _ => l.length - (intOf i).toNat)
  case atStart => exact ⟨0, by omega, rfl, fun j y h => by omega, Below.refl _ _⟩
  case round =>
    obtain ⟨k, hk, rfl, hn, hb⟩ := hrel
    have HN := Lib.hid hn; have HB := Lib.hid hb
    clear hn hb
    by_cases hlt : k < l.length
    · have tj : decide ((k : Int) < (l.length : Int)) = true := by simp; omega
      have tj' : decide (k < l.length) = true := by simp; omega
      have kb : (k : Int) < (l.length : Int) := by omega
      obtain ⟨x, hx⟩ : ∃ x, l[k]? = some x := ⟨_, List.getElem?_eq_getElem hlt⟩
      obtain ⟨c, o, rfl, hats⟩ : ∃ c o, oa = some ⟨c, o, none⟩ ∧ V.ats wr.heap.size wr l c o := by
        have h := HL.out.keep (B' := wr.heap.size) HB.out.size HB.out.block
        rcases h with ⟨h0, _⟩ | ⟨_, c, o, cp, h1, _, h2⟩
        · rw [h0] at hlt; simp at hlt
        · injection h1 with h1 _ _; exact ⟨c, o, h1, h2⟩
      obtain ⟨_, q0, q1, q2, oa2, cap2, q3, _⟩ := V.at_def (V.ats_get hats k x hx)
      have HX := Lib.hid hx
      clear hats hx
      obtain ⟨z, hz⟩ : ∃ z, (x.kind != 1) = z := ⟨_, rfl⟩
      have Hz := Lib.hid hz
      clear hz
      cases z
      · go_wp2_with (go_at_call 31; refine (decode1_any x _ _ _).mono ?_; rw [Hz.out]; rintro e w7 ⟨rfl, hb7⟩)
        have HB2 := Lib.hid (below_ext HB.out hb7)
        go_roundw
        case rel => exact ⟨k + 1, by omega, by go_num, fun j y hj hy => by
          by_cases e : j = k
          · subst e; rw [HX.out] at hy; injection hy with hy; subst hy; exact Hz.out
          · exact HN.out j y (by omega) hy, HB2.out⟩
        case measure => simp [intOf]; omega
      · go_wp2_with (go_at_call 31; refine (decode1_any x _ _ _).mono ?_; rw [Hz.out]; rintro e w7 ⟨rfl, hb7⟩)
        have HB2 := Lib.hid (below_ext HB.out hb7)
        go_ret
        have e : r = (k : Int) := by rw [← HR.out]; exact iv_first HX.out Hz.out HN.out
        exact ⟨by rw [e]; rfl, HB2.out⟩
    · obtain rfl : k = l.length := by omega
      have tj : decide ((l.length : Int) < (l.length : Int)) = false := by simp
      go_wp2_with fail
      go_ret
      have e : r = -1 := by rw [← HR.out]; exact iv_no HN.out
      exact ⟨by rw [e]; rfl, HB.out⟩
set_option maxRecDepth 100000 in
theorem containsV_any (l : List V) (oa : Option Addr) (cap : Nat) (w : World) (hl : SlV w.heap.size w l (.slice oa l.length cap)) (hm : l.length ≤ 9223372036854775807) :
    Calls Try.prog 30 #[.slice oa l.length cap, .func (.func 31) #[] #[]] w fun e w' => e = .returned (.bool (badK l)) ∧ Below w.heap.size w w' := by
  have hcall := Lib.hid (indexV_any l oa cap w hl hm)
  rw [iv_bad l]
  obtain ⟨r, hr⟩ : ∃ r, ivI l = r := ⟨_, rfl⟩
  rw [hr] at hcall ⊢
  obtain ⟨z, hz⟩ : ∃ z, decide (0 ≤ r) = z := ⟨_, rfl⟩
  rw [hz]
  clear hl hm hr
  go_enter Try.func30, Try.ntmps30
  go_wp2_with (go_at_call 41; refine hcall.out.mono ?_; rintro e w7 ⟨rfl, hb7⟩)
  go_ret
  exact ⟨by first | rfl | simp [hz], hb7⟩
def cmZ : Cm := ⟨0, 0, 0, 0, 0⟩
def set5c (w : World) (g : Nat) (r : Cm) : World := ((((w.setCell ⟨g, 0, none⟩ (.int .i64 r.kd)).setCell ⟨g, 1, none⟩ (.int .i64 r.sl)).setCell ⟨g, 2, none⟩ (.int .i64 r.ai)).setCell ⟨g, 3, none⟩ (.int .i64 r.fl)).setCell ⟨g, 4, none⟩ (.int .i64 r.tk)
theorem set5c_cb {w : World} {g : Nat} {t : TypeId} {r0 : Cm} (r : Cm) (h : CB w g t r0.cells) : CB (set5c w g r) g t r.cells := (((((h.set 0 _).set 1 _).set 2 _).set 3 _).set 4 _)
theorem set5c_below {B g : Nat} {w0 w : World} (r : Cm) (h : Below B w0 w) (hg : B ≤ g) : Below B w0 (set5c w g r) :=
  ((((h.setCell (p := ⟨g, 0, none⟩) hg _).setCell (p := ⟨g, 1, none⟩) hg _).setCell (p := ⟨g, 2, none⟩) hg _).setCell (p := ⟨g, 3, none⟩) hg _).setCell (p := ⟨g, 4, none⟩) hg _
theorem fiveC_cb {w : World} {g : Nat} {t : TypeId} {r : Cm} (h : CB w g t r.cells) : FiveC w g 0 r := fiveC_of (ElAt.of_cb (K := cmK) h)
def DecCm (c : Cm) (k : Int) (w : World) (e : Ending) (w' : World) : Prop := e = .returned (.tuple #[.agg #[.int .i64 c.kd, .int .i64 c.sl, .int .i64 c.ai, .int .i64 c.fl, .int .i64 c.tk], .int .i64 k]) ∧ Below w.heap.size w w'
set_option maxRecDepth 100000 in
set_option maxHeartbeats 2000000 in
theorem decode35_other (l : List UInt8) (hl : l.length ≤ 1000000) (v : Value) (w : World) (x : V) (hb : BtsAt w.heap.size w l v) (ho : decF l = some x) (hk : x.kind ≠ 3) : Calls Try.prog 16 #[v] w (DecCm cmZ 350 w) := by
  have HW := Lib.hid hb
  obtain ⟨ob, cap2, rfl, hbc, hbm⟩ := hb.form
  have hrl : l.length ≤ 9223372036854775807 := by omega
  have Hl := Lib.hid hl; have HO := Lib.hid ho
  have tk : (x.kind != 3) = true := by rw [bne_iff_ne]; exact hk
  clear hb hbc hbm hl ho hk
  have hcb0 : Hid (CB (w.alloc (.cells #[.int .i64 0, .int .i64 0, .int .i64 0, .int .i64 0, .int .i64 0] 33)) w.heap.size 33 cmZ.cells) := CB.new w _ _
  have hb0 := Lib.hid ((Below.refl w.heap.size w).alloc (Nat.le_refl _) (.cells #[.int .i64 0, .int .i64 0, .int .i64 0, .int .i64 0, .int .i64 0] 33))
  go_enter Try.func16, Try.ntmps16
  go_upto_region 1 with fail
  generalize w.alloc (.cells #[.int .i64 0, .int .i64 0, .int .i64 0, .int .i64 0, .int .i64 0] 33) = w0 at *
  go_wp2_with fail
  refine (decode_rd l Hl.out _ _ (HW.out.ext hb0.out)).mono ?_
  rw [HO.out]
  rintro e w1 ⟨oa, cap, rfl, hv1, hb1⟩
  have HB1 := Lib.hid ((below_ext hb0.out hb1).alloc (below_ext hb0.out hb1).size (.cells #[.int .i64 x.kind, .int .i64 x.n, .string x.s, .slice oa x.l.length cap] 54))
  have HC1 : Hid (CB (w1.alloc (.cells #[.int .i64 x.kind, .int .i64 x.n, .string x.s, .slice oa x.l.length cap] 54)) w.heap.size 33 cmZ.cells) := (hcb0.out.ext hb1).alloc _
  have HX1 : Hid (CB (w1.alloc (.cells #[.int .i64 x.kind, .int .i64 x.n, .string x.s, .slice oa x.l.length cap] 54)) w1.heap.size 54 [.int .i64 x.kind, .int .i64 x.n, .string x.s, .slice oa x.l.length cap]) := CB.new w1 _ _
  clear hb1 hv1
  go_upto_region 4 with fail
  generalize w1.alloc (.cells #[.int .i64 x.kind, .int .i64 x.n, .string x.s, .slice oa x.l.length cap] 54) = w2 at *
  generalize w1.heap.size = X at *
  have d0 : w2.cell? ⟨X, 0, none⟩ = some (.int .i64 x.kind) := HX1.out.cell 0
  obtain ⟨c0, c1, c2, c3, c4⟩ := fiveC_cb HC1.out
  have yf : ∀ o, w2.frozen? ⟨w.heap.size, o, none⟩ = false := HC1.out.frozen
  go_wp2_with fail
  change bodyPost _ _ _ _ _ (set5c w2 w.heap.size cmZ)
  have HC9 := Lib.hid (set5c_cb cmZ HC1.out)
  have HB9 := Lib.hid (set5c_below cmZ HB1.out (Nat.le_refl _))
  clear c0 c1 c2 c3 c4 yf
  generalize set5c w2 w.heap.size cmZ = w9 at *
  obtain ⟨y0, y1, y2, y3, y4⟩ := fiveC_cb HC9.out
  refine bodyPost_ret (v := .tuple #[.agg #[.int .i64 cmZ.kd, .int .i64 cmZ.sl, .int .i64 cmZ.ai, .int .i64 cmZ.fl, .int .i64 cmZ.tk], .int .i64 350]) (by simp [results, Try.results16, go_sem, y0, y1, y2, y3, y4]) rfl ?_
  exact ⟨rfl, HB9.out⟩
theorem badK_iv (xs : List Int) : badK (xs.map iV) = false := by
  unfold badK
  rw [List.any_eq_false]
  intro x hx
  obtain ⟨y, _, rfl⟩ := List.mem_map.1 hx
  simp [iV, V.kind]
set_option maxRecDepth 100000 in
set_option maxHeartbeats 4000000 in
theorem decode35_good (l : List UInt8) (hl : l.length ≤ 1000000) (v : Value) (w : World) (c : Cm) (hb : BtsAt w.heap.size w l v) (ho : decF l = some (lsI (cmX c))) : Calls Try.prog 16 #[v] w (DecCm c 0 w) := by
  have HW := Lib.hid hb
  obtain ⟨ob, cap2, rfl, hbc, hbm⟩ := hb.form
  have hrl : l.length ≤ 9223372036854775807 := by omega
  have Hl := Lib.hid hl; have HO := Lib.hid ho
  clear hb hbc hbm hl ho
  have hcb0 : Hid (CB (w.alloc (.cells #[.int .i64 0, .int .i64 0, .int .i64 0, .int .i64 0, .int .i64 0] 33)) w.heap.size 33 cmZ.cells) := CB.new w _ _
  have hb0 := Lib.hid ((Below.refl w.heap.size w).alloc (Nat.le_refl _) (.cells #[.int .i64 0, .int .i64 0, .int .i64 0, .int .i64 0, .int .i64 0] 33))
  go_enter Try.func16, Try.ntmps16
  go_upto_region 1 with fail
  generalize w.alloc (.cells #[.int .i64 0, .int .i64 0, .int .i64 0, .int .i64 0, .int .i64 0] 33) = w0 at *
  go_wp2_with fail
  refine (decode_rd l Hl.out _ _ (HW.out.ext hb0.out)).mono ?_
  rw [HO.out]
  rintro e w1 ⟨oa, cap, rfl, hv1, hb1⟩
  change RdV w1.heap.size w1 (lsI (cmX c)) (.agg #[.int .i64 3, .int .i64 0, .string ⟨#[]⟩, .slice oa 5 cap]) at hv1
  have HV1 : Hid (SlV (w1.alloc (.cells #[.int .i64 3, .int .i64 0, .string ⟨#[]⟩, .slice oa 5 cap] 54)).heap.size (w1.alloc (.cells #[.int .i64 3, .int .i64 0, .string ⟨#[]⟩, .slice oa 5 cap] 54)) ((cmX c).map iV) (.slice oa 5 cap)) := by
    obtain ⟨_, _, _, lv, he, hs⟩ := hv1.alloc (.cells #[.int .i64 3, .int .i64 0, .string ⟨#[]⟩, .slice oa 5 cap] 54)
    injection he with he
    have he := congrArg (fun a => a.toList[3]?) he
    simp at he
    subst he
    exact hs
  have HB1 := Lib.hid ((below_ext hb0.out hb1).alloc (below_ext hb0.out hb1).size (.cells #[.int .i64 3, .int .i64 0, .string ⟨#[]⟩, .slice oa 5 cap] 54))
  have HC1 : Hid (CB (w1.alloc (.cells #[.int .i64 3, .int .i64 0, .string ⟨#[]⟩, .slice oa 5 cap] 54)) w.heap.size 33 cmZ.cells) := (hcb0.out.ext hb1).alloc _
  have HX1 : Hid (CB (w1.alloc (.cells #[.int .i64 3, .int .i64 0, .string ⟨#[]⟩, .slice oa 5 cap] 54)) w1.heap.size 54 [.int .i64 3, .int .i64 0, .string ⟨#[]⟩, .slice oa 5 cap]) := CB.new w1 _ _
  have eK : (lsI (cmX c)).kind = 3 := rfl
  have eN : (lsI (cmX c)).n = 0 := rfl
  have eS : (lsI (cmX c)).s = ⟨#[]⟩ := rfl
  have eL : (lsI (cmX c)).l.length = 5 := rfl
  simp only [eK, eN, eS, eL]
  clear eK eN eS eL hb1 hv1
  go_upto_region 4 with fail
  generalize w1.alloc (.cells #[.int .i64 3, .int .i64 0, .string ⟨#[]⟩, .slice oa 5 cap] 54) = w2 at *
  generalize w1.heap.size = X at *
  have d0 : w2.cell? ⟨X, 0, none⟩ = some (.int .i64 3) := HX1.out.cell 0
  have d3 : w2.cell? ⟨X, 3, none⟩ = some (.slice oa 5 cap) := HX1.out.cell 3
  have hcall : Hid (Calls Try.prog 30 #[.slice oa 5 cap, .func (.func 31) #[] #[]] w2 fun e w' => e = .returned (.bool false) ∧ Below w2.heap.size w2 w') := by
    show Calls _ _ _ _ _
    have := containsV_any ((cmX c).map iV) oa cap w2 HV1.out (by simp [cmX])
    rw [badK_iv] at this
    exact this
  go_wp2_with (go_at_call 30; refine hcall.out.mono ?_; rintro e w3 ⟨rfl, hb3⟩; have HX3 := Lib.hid (HX1.out.ext hb3); have d3 : w3.cell? ⟨X, 3, none⟩ = some (.slice oa 5 cap) := HX3.out.cell 3)
  have HB3 := Lib.hid (below_ext HB1.out hb3)
  have HC3 := Lib.hid (HC1.out.ext hb3)
  have HV3 : Hid (SlV w3.heap.size w3 ((cmX c).map iV) (.slice oa 5 cap)) := HV1.out.keep hb3.size hb3.block
  clear hb3 d0 d3 HB1 HC1 HX1 HV1 hcall
  obtain ⟨gb, go, rfl, hat⟩ : ∃ gb go, oa = some ⟨gb, go, none⟩ ∧ V.ats w3.heap.size w3 ((cmX c).map iV) gb go := by
    rcases HV3.out with ⟨h, _⟩ | ⟨_, gb, go, cp, he, _, hat⟩
    · cases h
    · injection he with he _ _; exact ⟨gb, go, he, hat⟩
  obtain ⟨kd, sl, ai, fl, ct⟩ := c
  have p0 : w3.cell? ⟨gb, go + 1, none⟩ = some (.int .i64 kd) := by have := (V.at_def (V.ats_get hat 0 (iV kd) rfl)).2.2.1; rw [Nat.zero_mul, Nat.add_zero] at this; exact this
  have p1 : w3.cell? ⟨gb, go + 4 + 1, none⟩ = some (.int .i64 sl) := (V.at_def (V.ats_get hat 1 (iV sl) rfl)).2.2.1
  have p2 : w3.cell? ⟨gb, go + 8 + 1, none⟩ = some (.int .i64 ai) := (V.at_def (V.ats_get hat 2 (iV ai) rfl)).2.2.1
  have p3 : w3.cell? ⟨gb, go + 12 + 1, none⟩ = some (.int .i64 fl) := (V.at_def (V.ats_get hat 3 (iV fl) rfl)).2.2.1
  have p4 : w3.cell? ⟨gb, go + 16 + 1, none⟩ = some (.int .i64 ct) := (V.at_def (V.ats_get hat 4 (iV ct) rfl)).2.2.1
  clear hat
  go_still_tail 21, (by kernel_rfl)
  clear p0 p1 p2 p3 p4
  change wpList _ _ _ _ _ w3.drew
  have HC4 : Hid (CB w3.drew w.heap.size 33 cmZ.cells) := HC3.out.keep rfl
  have HB4 := Lib.hid HB3.out.drew
  clear HC3 HB3 HX3 HV3
  generalize w3.drew = w4 at *
  obtain ⟨c0, c1, c2, c3, c4⟩ := fiveC_cb HC4.out
  have yf : ∀ o, w4.frozen? ⟨w.heap.size, o, none⟩ = false := HC4.out.frozen
  go_wp2_with fail
  change bodyPost _ _ _ _ _ (set5c w4 w.heap.size ⟨kd, sl, ai, fl, ct⟩)
  have HC9 := Lib.hid (set5c_cb ⟨kd, sl, ai, fl, ct⟩ HC4.out)
  have HB9 := Lib.hid (set5c_below ⟨kd, sl, ai, fl, ct⟩ HB4.out (Nat.le_refl _))
  clear c0 c1 c2 c3 c4 yf
  generalize set5c w4 w.heap.size ⟨kd, sl, ai, fl, ct⟩ = w9 at *
  obtain ⟨y0, y1, y2, y3, y4⟩ := fiveC_cb HC9.out
  refine bodyPost_ret (v := .tuple #[.agg #[.int .i64 kd, .int .i64 sl, .int .i64 ai, .int .i64 fl, .int .i64 ct], .int .i64 0]) (by simp [results, Try.results16, go_sem, y0, y1, y2, y3, y4]) rfl ?_
  exact ⟨rfl, HB9.out⟩
end Go.Proofs.Ytlocilbcmcfmaaa
/- lease: the contracts, in the walk's spelling. -/
namespace Go.Proofs.Ytlocilbcmcfmaaa
open Go.RowKit
theorem do_inl {tk : Int} {l : List Le} {v : Value} {c : Cm} {w : World} {k : Int} (hl : LesAt w.heap.size w l v) (hlen : l.length ≤ 2000) (hwf : (Lit.int .i64 c.kd).wf = true) (h : doR tk l c = .inl k) :
    Calls Try.prog 12 #[.agg #[.int .i64 tk, v], .agg #[.int .i64 c.kd, .int .i64 c.sl, .int .i64 c.ai, .int .i64 c.fl, .int .i64 c.tk]] w fun e w' => e = .returned (.tuple #[.agg #[.int .i64 0, .slice none 0 0], .int .i64 k]) ∧ Below w.heap.size w w' := by
  have := do_any tk l v c w hl hlen hwf
  rw [h] at this
  refine this.mono ?_
  rintro e w' ⟨hb, rfl⟩
  exact ⟨rfl, hb⟩
def DidPost (tk : Int) (l : List Le) (n : Nat) (w : World) (e : Ending) (w' : World) : Prop :=
  ∃ oa cap, e = .returned (.tuple #[.agg #[.int .i64 tk, .slice oa n cap], .int .i64 0]) ∧ LesAt w'.heap.size w' l (.slice oa n cap) ∧ Below w.heap.size w w'
theorem do_inr {tk tk2 : Int} {l l2 : List Le} {v : Value} {c : Cm} {w : World} (n : Nat) (hl : LesAt w.heap.size w l v) (hlen : l.length ≤ 2000) (hwf : (Lit.int .i64 c.kd).wf = true) (h : doR tk l c = .inr (tk2, l2)) (hn : l2.length = n) :
    Calls Try.prog 12 #[.agg #[.int .i64 tk, v], .agg #[.int .i64 c.kd, .int .i64 c.sl, .int .i64 c.ai, .int .i64 c.fl, .int .i64 c.tk]] w (DidPost tk2 l2 n w) := by
  subst hn
  have := do_any tk l v c w hl hlen hwf
  rw [h] at this
  refine this.mono ?_
  rintro e w' ⟨hb, v', rfl, hO⟩
  obtain ⟨oa, cap, rfl, _⟩ := hO.rd.shape
  exact ⟨oa, cap, rfl, hO.rd, hb⟩
theorem holds_is {tk : Int} {l : List Le} {v : Value} {s : Int} {w : World} {x : Le} {b : Bool} (hl : LesAt w.heap.size w l v) (hx : (getL l s).getD leZ = x) (hb : (getL l s).isSome = b) :
    Calls Try.prog 11 #[.agg #[.int .i64 tk, v], .int .i64 s] w fun e w' => e = .returned (.tuple #[.agg #[.int .i64 x.sl, .int .i64 x.ai, .int .i64 x.fl, .int .i64 x.tk, .bool x.us], .bool b]) ∧ Below w.heap.size w w' := by
  refine (holds_any tk l v s w hl).mono ?_
  rintro e w' ⟨rfl, h⟩
  rw [hx, hb]
  exact ⟨rfl, h⟩
def RanPost (tk : Int) (l : List Le) (es : List Int) (n m : Nat) (w : World) (e : Ending) (w' : World) : Prop :=
  ∃ oa cap oe ce, e = .returned (.tuple #[.agg #[.int .i64 tk, .slice oa n cap], .slice oe m ce]) ∧ LesAt w'.heap.size w' l (.slice oa n cap) ∧ LsAt erK w'.heap.size w' es (.slice oe m ce) ∧ Below w.heap.size w w'
theorem run_is {cs : List Cm} {v : Value} {w : World} {tk : Int} {l : List Le} {es : List Int} (n m : Nat) (hl : LsAt cmK w.heap.size w cs v) (hlen : cs.length ≤ 1000) (hwf : ∀ c ∈ cs, (Lit.int .i64 c.kd).wf = true) (h1 : runS cs = (tk, l)) (h2 : errsS cs = es) (hn : l.length = n) (hm : es.length = m) :
    Calls Try.prog 8 #[v] w (RanPost tk l es n m w) := by
  subst hn hm
  refine (run_any cs v w hl hlen hwf).mono ?_
  rintro e w' ⟨hb, v', ve, rfl, hO, hE⟩
  rw [h1] at hO ⊢
  rw [h2] at hE
  obtain ⟨oa, cap, rfl, _⟩ := hO.rd.shape
  obtain ⟨oe, ce, rfl, _⟩ := hE.rd.shape
  exact ⟨oa, cap, oe, ce, rfl, hO.rd, hE.rd, hb⟩
theorem ls_block {α : Type} {K : EK α} {w : World} {g : Nat} {t : TypeId} {l : List α} (n : Nat) (h : CB w g t (K.flat l)) (hn : l.length = n) (hm : n ≤ maxLen) : LsAt K w.heap.size w l (.slice (some ⟨g, 0, none⟩) n n) := by
  subst hn
  exact .inr ⟨g, 0, l.length, rfl, Nat.le_refl _, hm, h.lt, at_flat l w g 0 fun j u hu => by rw [Nat.zero_add, h.cell]; exact hu⟩
theorem b_al {w : World} (o : Obj) : Below w.heap.size w (w.alloc o) := (Below.refl w.heap.size w).alloc (Nat.le_refl _) o
theorem check_is {tk : Int} {l : List Le} {v : Value} {w : World} {k : Int} (hl : LesAt w.heap.size w l v) (hlen : l.length ≤ 2000) (h : (if chkL tk l then (0 : Int) else 350) = k) : Calls Try.prog 9 #[.agg #[.int .i64 tk, v]] w fun e w' => e = .returned (.int .i64 k) ∧ Below w.heap.size w w' := by
  have := lcheck_any tk l v w hl hlen
  rw [h] at this; exact this
theorem iV_ck (x : Int) : ck (iV x) = 0 := by
  refine ok_ck ?_ ?_
  · unfold iV; simp [fm, ByteArray.toList_eq]
  · unfold iV; simp [dp]
end Go.Proofs.Ytlocilbcmcfmaaa
/- sane of chapter 35 (printed by gen35s.py). -/
namespace Go.Proofs.Ytlocilbcmcfmaaa
open Go.RowKit
def cs6 : List Cm := [⟨1, 5, 2, 7, 0⟩, ⟨2, 5, 3, 8, 1⟩, ⟨3, 5, 0, 7, 1⟩, ⟨3, 5, 0, 8, 2⟩, ⟨3, 5, 0, 8, 2⟩, ⟨1, 5, 2, 7, 0⟩]
def leS : Le := ⟨5, 3, 8, 2, true⟩
theorem run6 : runS cs6 = (2, [leS]) := by decide +kernel
theorem errs6 : errsS cs6 = [0, 0, 351, 0, 350, 350] := by decide +kernel
set_option maxRecDepth 100000 in
set_option maxHeartbeats 4000000 in
theorem sane35_any (w0 : World) : Calls Try.prog 7 #[] w0 fun e w' => e = .returned (.bool true) ∧ Below w0.heap.size w0 w' := by
  obtain ⟨W, hW⟩ : ∃ W, w0 = W := ⟨_, rfl⟩
  have HB_0 : Hid (Below W.heap.size W w0) := by show Below _ _ _; rw [hW]; exact Below.refl _ _
  rw [show (fun (e : Ending) (w' : World) => e = .returned (.bool true) ∧ Below w0.heap.size w0 w') = (fun (e : Ending) (w' : World) => e = .returned (.bool true) ∧ Below W.heap.size W w') by rw [hW]]
  clear hW
  go_enter Try.func7, Try.ntmps7
  go_upto_region 2 with fail
  have HB_1 := Lib.hid (below_ext HB_0.out (b_al (.cells #[.int .i64 1, .int .i64 5, .int .i64 2, .int .i64 7, .int .i64 0] 33)))
  clear HB_0
  have C1_0 : Hid (CB (w0.alloc (.cells #[.int .i64 1, .int .i64 5, .int .i64 2, .int .i64 7, .int .i64 0] 33)) w0.heap.size 33 [.int .i64 1, .int .i64 5, .int .i64 2, .int .i64 7, .int .i64 0]) := CB.new w0 _ _
  generalize w0.alloc (.cells #[.int .i64 1, .int .i64 5, .int .i64 2, .int .i64 7, .int .i64 0] 33) = w1 at *
  generalize w0.heap.size = G1 at *
  go_upto_region 3 with fail
  have HB_2 := Lib.hid (below_ext HB_1.out (b_al (.cells #[.int .i64 2, .int .i64 5, .int .i64 3, .int .i64 8, .int .i64 1] 33)))
  clear HB_1
  have C1_1 := Lib.hid (C1_0.out.ext (b_al (.cells #[.int .i64 2, .int .i64 5, .int .i64 3, .int .i64 8, .int .i64 1] 33)))
  clear C1_0
  have C2_0 : Hid (CB (w1.alloc (.cells #[.int .i64 2, .int .i64 5, .int .i64 3, .int .i64 8, .int .i64 1] 33)) w1.heap.size 33 [.int .i64 2, .int .i64 5, .int .i64 3, .int .i64 8, .int .i64 1]) := CB.new w1 _ _
  generalize w1.alloc (.cells #[.int .i64 2, .int .i64 5, .int .i64 3, .int .i64 8, .int .i64 1] 33) = w2 at *
  generalize w1.heap.size = G2 at *
  go_upto_region 4 with fail
  have HB_3 := Lib.hid (below_ext HB_2.out (b_al (.cells #[.int .i64 3, .int .i64 5, .int .i64 0, .int .i64 7, .int .i64 1] 33)))
  clear HB_2
  have C1_2 := Lib.hid (C1_1.out.ext (b_al (.cells #[.int .i64 3, .int .i64 5, .int .i64 0, .int .i64 7, .int .i64 1] 33)))
  clear C1_1
  have C2_1 := Lib.hid (C2_0.out.ext (b_al (.cells #[.int .i64 3, .int .i64 5, .int .i64 0, .int .i64 7, .int .i64 1] 33)))
  clear C2_0
  have C3_0 : Hid (CB (w2.alloc (.cells #[.int .i64 3, .int .i64 5, .int .i64 0, .int .i64 7, .int .i64 1] 33)) w2.heap.size 33 [.int .i64 3, .int .i64 5, .int .i64 0, .int .i64 7, .int .i64 1]) := CB.new w2 _ _
  generalize w2.alloc (.cells #[.int .i64 3, .int .i64 5, .int .i64 0, .int .i64 7, .int .i64 1] 33) = w3 at *
  generalize w2.heap.size = G3 at *
  go_upto_region 5 with fail
  have HB_4 := Lib.hid (below_ext HB_3.out (b_al (.cells #[.int .i64 3, .int .i64 5, .int .i64 0, .int .i64 8, .int .i64 2] 33)))
  clear HB_3
  have C1_3 := Lib.hid (C1_2.out.ext (b_al (.cells #[.int .i64 3, .int .i64 5, .int .i64 0, .int .i64 8, .int .i64 2] 33)))
  clear C1_2
  have C2_2 := Lib.hid (C2_1.out.ext (b_al (.cells #[.int .i64 3, .int .i64 5, .int .i64 0, .int .i64 8, .int .i64 2] 33)))
  clear C2_1
  have C3_1 := Lib.hid (C3_0.out.ext (b_al (.cells #[.int .i64 3, .int .i64 5, .int .i64 0, .int .i64 8, .int .i64 2] 33)))
  clear C3_0
  have C4_0 : Hid (CB (w3.alloc (.cells #[.int .i64 3, .int .i64 5, .int .i64 0, .int .i64 8, .int .i64 2] 33)) w3.heap.size 33 [.int .i64 3, .int .i64 5, .int .i64 0, .int .i64 8, .int .i64 2]) := CB.new w3 _ _
  generalize w3.alloc (.cells #[.int .i64 3, .int .i64 5, .int .i64 0, .int .i64 8, .int .i64 2] 33) = w4 at *
  generalize w3.heap.size = G4 at *
  have c10 : w4.cell? ⟨G1, 0, none⟩ = some (.int .i64 1) := C1_3.out.cell 0
  have c11 : w4.cell? ⟨G1, 1, none⟩ = some (.int .i64 5) := C1_3.out.cell 1
  have c12 : w4.cell? ⟨G1, 2, none⟩ = some (.int .i64 2) := C1_3.out.cell 2
  have c13 : w4.cell? ⟨G1, 3, none⟩ = some (.int .i64 7) := C1_3.out.cell 3
  have c14 : w4.cell? ⟨G1, 4, none⟩ = some (.int .i64 0) := C1_3.out.cell 4
  have c20 : w4.cell? ⟨G2, 0, none⟩ = some (.int .i64 2) := C2_2.out.cell 0
  have c21 : w4.cell? ⟨G2, 1, none⟩ = some (.int .i64 5) := C2_2.out.cell 1
  have c22 : w4.cell? ⟨G2, 2, none⟩ = some (.int .i64 3) := C2_2.out.cell 2
  have c23 : w4.cell? ⟨G2, 3, none⟩ = some (.int .i64 8) := C2_2.out.cell 3
  have c24 : w4.cell? ⟨G2, 4, none⟩ = some (.int .i64 1) := C2_2.out.cell 4
  have c30 : w4.cell? ⟨G3, 0, none⟩ = some (.int .i64 3) := C3_1.out.cell 0
  have c31 : w4.cell? ⟨G3, 1, none⟩ = some (.int .i64 5) := C3_1.out.cell 1
  have c32 : w4.cell? ⟨G3, 2, none⟩ = some (.int .i64 0) := C3_1.out.cell 2
  have c33 : w4.cell? ⟨G3, 3, none⟩ = some (.int .i64 7) := C3_1.out.cell 3
  have c34 : w4.cell? ⟨G3, 4, none⟩ = some (.int .i64 1) := C3_1.out.cell 4
  have c40 : w4.cell? ⟨G4, 0, none⟩ = some (.int .i64 3) := C4_0.out.cell 0
  have c41 : w4.cell? ⟨G4, 1, none⟩ = some (.int .i64 5) := C4_0.out.cell 1
  have c42 : w4.cell? ⟨G4, 2, none⟩ = some (.int .i64 0) := C4_0.out.cell 2
  have c43 : w4.cell? ⟨G4, 3, none⟩ = some (.int .i64 8) := C4_0.out.cell 3
  have c44 : w4.cell? ⟨G4, 4, none⟩ = some (.int .i64 2) := C4_0.out.cell 4
  go_wp2_with fail
  clear c10 c11 c12 c13 c14 c20 c21 c22 c23 c24 c30 c31 c32 c33 c34 c40 c41 c42 c43 c44
  have HB_5 := Lib.hid (below_ext HB_4.out (b_al (.cells #[.int .i64 1, .int .i64 5, .int .i64 2, .int .i64 7, .int .i64 0, .int .i64 2, .int .i64 5, .int .i64 3, .int .i64 8, .int .i64 1, .int .i64 3, .int .i64 5, .int .i64 0, .int .i64 7, .int .i64 1, .int .i64 3, .int .i64 5, .int .i64 0, .int .i64 8, .int .i64 2, .int .i64 3, .int .i64 5, .int .i64 0, .int .i64 8, .int .i64 2, .int .i64 1, .int .i64 5, .int .i64 2, .int .i64 7, .int .i64 0] 33)))
  clear HB_4
  have C1_4 := Lib.hid (C1_3.out.ext (b_al (.cells #[.int .i64 1, .int .i64 5, .int .i64 2, .int .i64 7, .int .i64 0, .int .i64 2, .int .i64 5, .int .i64 3, .int .i64 8, .int .i64 1, .int .i64 3, .int .i64 5, .int .i64 0, .int .i64 7, .int .i64 1, .int .i64 3, .int .i64 5, .int .i64 0, .int .i64 8, .int .i64 2, .int .i64 3, .int .i64 5, .int .i64 0, .int .i64 8, .int .i64 2, .int .i64 1, .int .i64 5, .int .i64 2, .int .i64 7, .int .i64 0] 33)))
  clear C1_3
  have C2_3 := Lib.hid (C2_2.out.ext (b_al (.cells #[.int .i64 1, .int .i64 5, .int .i64 2, .int .i64 7, .int .i64 0, .int .i64 2, .int .i64 5, .int .i64 3, .int .i64 8, .int .i64 1, .int .i64 3, .int .i64 5, .int .i64 0, .int .i64 7, .int .i64 1, .int .i64 3, .int .i64 5, .int .i64 0, .int .i64 8, .int .i64 2, .int .i64 3, .int .i64 5, .int .i64 0, .int .i64 8, .int .i64 2, .int .i64 1, .int .i64 5, .int .i64 2, .int .i64 7, .int .i64 0] 33)))
  clear C2_2
  have C3_2 := Lib.hid (C3_1.out.ext (b_al (.cells #[.int .i64 1, .int .i64 5, .int .i64 2, .int .i64 7, .int .i64 0, .int .i64 2, .int .i64 5, .int .i64 3, .int .i64 8, .int .i64 1, .int .i64 3, .int .i64 5, .int .i64 0, .int .i64 7, .int .i64 1, .int .i64 3, .int .i64 5, .int .i64 0, .int .i64 8, .int .i64 2, .int .i64 3, .int .i64 5, .int .i64 0, .int .i64 8, .int .i64 2, .int .i64 1, .int .i64 5, .int .i64 2, .int .i64 7, .int .i64 0] 33)))
  clear C3_1
  have C4_1 := Lib.hid (C4_0.out.ext (b_al (.cells #[.int .i64 1, .int .i64 5, .int .i64 2, .int .i64 7, .int .i64 0, .int .i64 2, .int .i64 5, .int .i64 3, .int .i64 8, .int .i64 1, .int .i64 3, .int .i64 5, .int .i64 0, .int .i64 7, .int .i64 1, .int .i64 3, .int .i64 5, .int .i64 0, .int .i64 8, .int .i64 2, .int .i64 3, .int .i64 5, .int .i64 0, .int .i64 8, .int .i64 2, .int .i64 1, .int .i64 5, .int .i64 2, .int .i64 7, .int .i64 0] 33)))
  clear C4_0
  have S6_0 : Hid (CB (w4.alloc (.cells #[.int .i64 1, .int .i64 5, .int .i64 2, .int .i64 7, .int .i64 0, .int .i64 2, .int .i64 5, .int .i64 3, .int .i64 8, .int .i64 1, .int .i64 3, .int .i64 5, .int .i64 0, .int .i64 7, .int .i64 1, .int .i64 3, .int .i64 5, .int .i64 0, .int .i64 8, .int .i64 2, .int .i64 3, .int .i64 5, .int .i64 0, .int .i64 8, .int .i64 2, .int .i64 1, .int .i64 5, .int .i64 2, .int .i64 7, .int .i64 0] 33)) w4.heap.size 33 (cmK.flat cs6)) := CB.new w4 _ _
  generalize w4.alloc (.cells #[.int .i64 1, .int .i64 5, .int .i64 2, .int .i64 7, .int .i64 0, .int .i64 2, .int .i64 5, .int .i64 3, .int .i64 8, .int .i64 1, .int .i64 3, .int .i64 5, .int .i64 0, .int .i64 7, .int .i64 1, .int .i64 3, .int .i64 5, .int .i64 0, .int .i64 8, .int .i64 2, .int .i64 3, .int .i64 5, .int .i64 0, .int .i64 8, .int .i64 2, .int .i64 1, .int .i64 5, .int .i64 2, .int .i64 7, .int .i64 0] 33) = w5 at *
  generalize w4.heap.size = G5 at *
  refine (run_is (tk := 2) (l := [leS]) (es := [0, 0, 351, 0, 350, 350]) 1 6 (ls_block (l := cs6) 6 S6_0.out rfl (by decide)) (by decide) (by decide) run6 errs6 rfl rfl).mono ?_
  rintro e w6 ⟨oa, cap, oe, ce, rfl, hl, hes, hb⟩
  have HB_6 := Lib.hid (below_ext HB_5.out hb)
  clear HB_5
  have C1_5 := Lib.hid (C1_4.out.ext hb)
  clear C1_4
  have C2_4 := Lib.hid (C2_3.out.ext hb)
  clear C2_3
  have C3_3 := Lib.hid (C3_2.out.ext hb)
  clear C3_2
  have C4_2 := Lib.hid (C4_1.out.ext hb)
  clear C4_1
  have S6_1 := Lib.hid (S6_0.out.ext hb)
  clear S6_0
  have HL_0 := Lib.hid hl
  have HE_0 := Lib.hid hes
  clear hl hes
  clear hb
  go_upto_region 6 with fail
  have HB_7 := Lib.hid (below_ext HB_6.out (b_al (.cells #[.int .i64 2, .slice oa 1 cap] 26)))
  clear HB_6
  have C1_6 := Lib.hid (C1_5.out.ext (b_al (.cells #[.int .i64 2, .slice oa 1 cap] 26)))
  clear C1_5
  have C2_5 := Lib.hid (C2_4.out.ext (b_al (.cells #[.int .i64 2, .slice oa 1 cap] 26)))
  clear C2_4
  have C3_4 := Lib.hid (C3_3.out.ext (b_al (.cells #[.int .i64 2, .slice oa 1 cap] 26)))
  clear C3_3
  have C4_3 := Lib.hid (C4_2.out.ext (b_al (.cells #[.int .i64 2, .slice oa 1 cap] 26)))
  clear C4_2
  have S6_2 := Lib.hid (S6_1.out.ext (b_al (.cells #[.int .i64 2, .slice oa 1 cap] 26)))
  clear S6_1
  have HL_1 := Lib.hid (HL_0.out.ext (b_al (.cells #[.int .i64 2, .slice oa 1 cap] 26)))
  clear HL_0
  have HE_1 := Lib.hid (HE_0.out.ext (b_al (.cells #[.int .i64 2, .slice oa 1 cap] 26)))
  clear HE_0
  have X_0 : Hid (CB (w6.alloc (.cells #[.int .i64 2, .slice oa 1 cap] 26)) w6.heap.size 26 [.int .i64 2, .slice oa 1 cap]) := CB.new w6 _ _
  generalize w6.alloc (.cells #[.int .i64 2, .slice oa 1 cap] 26) = w7 at *
  generalize w6.heap.size = GX at *
  go_wp2_with fail
  refine (run_is (cs := []) (v := .slice none 0 0) (tk := 0) (l := []) (es := []) 0 0 (LsAt.nil _ _ _ _) (by decide) (fun c h => by cases h) rfl rfl rfl rfl).mono ?_
  rintro e w8 ⟨on, cn, om, cm, rfl, hl, hes, hb⟩
  have HB_8 := Lib.hid (below_ext HB_7.out hb)
  clear HB_7
  have C1_7 := Lib.hid (C1_6.out.ext hb)
  clear C1_6
  have C2_6 := Lib.hid (C2_5.out.ext hb)
  clear C2_5
  have C3_5 := Lib.hid (C3_4.out.ext hb)
  clear C3_4
  have C4_4 := Lib.hid (C4_3.out.ext hb)
  clear C4_3
  have S6_3 := Lib.hid (S6_2.out.ext hb)
  clear S6_2
  have HL_2 := Lib.hid (HL_1.out.ext hb)
  clear HL_1
  have HE_2 := Lib.hid (HE_1.out.ext hb)
  clear HE_1
  have X_1 := Lib.hid (X_0.out.ext hb)
  clear X_0
  have HN_0 := Lib.hid hl
  clear hl hes
  clear hb
  go_upto_region 7 with fail
  have HB_9 := Lib.hid (below_ext HB_8.out (b_al (.cells #[.int .i64 0, .slice on 0 cn] 26)))
  clear HB_8
  have C1_8 := Lib.hid (C1_7.out.ext (b_al (.cells #[.int .i64 0, .slice on 0 cn] 26)))
  clear C1_7
  have C2_7 := Lib.hid (C2_6.out.ext (b_al (.cells #[.int .i64 0, .slice on 0 cn] 26)))
  clear C2_6
  have C3_6 := Lib.hid (C3_5.out.ext (b_al (.cells #[.int .i64 0, .slice on 0 cn] 26)))
  clear C3_5
  have C4_5 := Lib.hid (C4_4.out.ext (b_al (.cells #[.int .i64 0, .slice on 0 cn] 26)))
  clear C4_4
  have S6_4 := Lib.hid (S6_3.out.ext (b_al (.cells #[.int .i64 0, .slice on 0 cn] 26)))
  clear S6_3
  have HL_3 := Lib.hid (HL_2.out.ext (b_al (.cells #[.int .i64 0, .slice on 0 cn] 26)))
  clear HL_2
  have HE_3 := Lib.hid (HE_2.out.ext (b_al (.cells #[.int .i64 0, .slice on 0 cn] 26)))
  clear HE_2
  have X_2 := Lib.hid (X_1.out.ext (b_al (.cells #[.int .i64 0, .slice on 0 cn] 26)))
  clear X_1
  have HN_1 := Lib.hid (HN_0.out.ext (b_al (.cells #[.int .i64 0, .slice on 0 cn] 26)))
  clear HN_0
  have Y_0 : Hid (CB (w8.alloc (.cells #[.int .i64 0, .slice on 0 cn] 26)) w8.heap.size 26 [.int .i64 0, .slice on 0 cn]) := CB.new w8 _ _
  generalize w8.alloc (.cells #[.int .i64 0, .slice on 0 cn] 26) = w9 at *
  generalize w8.heap.size = GY at *
  go_wp2_with fail
  refine (do_inl (l := []) (v := .slice none 0 0) (c := ⟨0, 0, 0, 0, 0⟩) (k := 350) (LsAt.nil _ _ _ _) (by decide) (by decide) (by decide +kernel)).mono ?_
  rintro e w10 ⟨rfl, hb⟩
  have HB_10 := Lib.hid (below_ext HB_9.out hb)
  clear HB_9
  have C1_9 := Lib.hid (C1_8.out.ext hb)
  clear C1_8
  have C2_8 := Lib.hid (C2_7.out.ext hb)
  clear C2_7
  have C3_7 := Lib.hid (C3_6.out.ext hb)
  clear C3_6
  have C4_6 := Lib.hid (C4_5.out.ext hb)
  clear C4_5
  have S6_5 := Lib.hid (S6_4.out.ext hb)
  clear S6_4
  have HL_4 := Lib.hid (HL_3.out.ext hb)
  clear HL_3
  have HE_4 := Lib.hid (HE_3.out.ext hb)
  clear HE_3
  have X_3 := Lib.hid (X_2.out.ext hb)
  clear X_2
  have HN_2 := Lib.hid (HN_1.out.ext hb)
  clear HN_1
  have Y_1 := Lib.hid (Y_0.out.ext hb)
  clear Y_0
  clear hb
  go_upto_region 8 with fail
  have HB_11 := Lib.hid (below_ext HB_10.out (b_al (.cells #[.int .i64 0, .slice none 0 0] 26)))
  clear HB_10
  have C1_10 := Lib.hid (C1_9.out.ext (b_al (.cells #[.int .i64 0, .slice none 0 0] 26)))
  clear C1_9
  have C2_9 := Lib.hid (C2_8.out.ext (b_al (.cells #[.int .i64 0, .slice none 0 0] 26)))
  clear C2_8
  have C3_8 := Lib.hid (C3_7.out.ext (b_al (.cells #[.int .i64 0, .slice none 0 0] 26)))
  clear C3_7
  have C4_7 := Lib.hid (C4_6.out.ext (b_al (.cells #[.int .i64 0, .slice none 0 0] 26)))
  clear C4_6
  have S6_6 := Lib.hid (S6_5.out.ext (b_al (.cells #[.int .i64 0, .slice none 0 0] 26)))
  clear S6_5
  have HL_5 := Lib.hid (HL_4.out.ext (b_al (.cells #[.int .i64 0, .slice none 0 0] 26)))
  clear HL_4
  have HE_5 := Lib.hid (HE_4.out.ext (b_al (.cells #[.int .i64 0, .slice none 0 0] 26)))
  clear HE_4
  have X_4 := Lib.hid (X_3.out.ext (b_al (.cells #[.int .i64 0, .slice none 0 0] 26)))
  clear X_3
  have HN_3 := Lib.hid (HN_2.out.ext (b_al (.cells #[.int .i64 0, .slice none 0 0] 26)))
  clear HN_2
  have Y_2 := Lib.hid (Y_1.out.ext (b_al (.cells #[.int .i64 0, .slice none 0 0] 26)))
  clear Y_1
  have Z1_0 : Hid (CB (w10.alloc (.cells #[.int .i64 0, .slice none 0 0] 26)) w10.heap.size 26 [.int .i64 0, .slice none 0 0]) := CB.new w10 _ _
  generalize w10.alloc (.cells #[.int .i64 0, .slice none 0 0] 26) = w11 at *
  generalize w10.heap.size = GZ1 at *
  have c40 : w11.cell? ⟨G4, 0, none⟩ = some (.int .i64 3) := C4_7.out.cell 0
  have c41 : w11.cell? ⟨G4, 1, none⟩ = some (.int .i64 5) := C4_7.out.cell 1
  have c42 : w11.cell? ⟨G4, 2, none⟩ = some (.int .i64 0) := C4_7.out.cell 2
  have c43 : w11.cell? ⟨G4, 3, none⟩ = some (.int .i64 8) := C4_7.out.cell 3
  have c44 : w11.cell? ⟨G4, 4, none⟩ = some (.int .i64 2) := C4_7.out.cell 4
  go_wp2_with fail
  clear c40 c41 c42 c43 c44
  refine (do_inl (l := []) (v := .slice none 0 0) (c := ⟨3, 5, 0, 8, 2⟩) (k := 350) (LsAt.nil _ _ _ _) (by decide) (by decide) (by decide +kernel)).mono ?_
  rintro e w12 ⟨rfl, hb⟩
  have HB_12 := Lib.hid (below_ext HB_11.out hb)
  clear HB_11
  have C1_11 := Lib.hid (C1_10.out.ext hb)
  clear C1_10
  have C2_10 := Lib.hid (C2_9.out.ext hb)
  clear C2_9
  have C3_9 := Lib.hid (C3_8.out.ext hb)
  clear C3_8
  have C4_8 := Lib.hid (C4_7.out.ext hb)
  clear C4_7
  have S6_7 := Lib.hid (S6_6.out.ext hb)
  clear S6_6
  have HL_6 := Lib.hid (HL_5.out.ext hb)
  clear HL_5
  have HE_6 := Lib.hid (HE_5.out.ext hb)
  clear HE_5
  have X_5 := Lib.hid (X_4.out.ext hb)
  clear X_4
  have HN_4 := Lib.hid (HN_3.out.ext hb)
  clear HN_3
  have Y_3 := Lib.hid (Y_2.out.ext hb)
  clear Y_2
  clear hb
  go_upto_region 9 with fail
  have HB_13 := Lib.hid (below_ext HB_12.out (b_al (.cells #[.int .i64 0, .slice none 0 0] 26)))
  clear HB_12
  have C1_12 := Lib.hid (C1_11.out.ext (b_al (.cells #[.int .i64 0, .slice none 0 0] 26)))
  clear C1_11
  have C2_11 := Lib.hid (C2_10.out.ext (b_al (.cells #[.int .i64 0, .slice none 0 0] 26)))
  clear C2_10
  have C3_10 := Lib.hid (C3_9.out.ext (b_al (.cells #[.int .i64 0, .slice none 0 0] 26)))
  clear C3_9
  have C4_9 := Lib.hid (C4_8.out.ext (b_al (.cells #[.int .i64 0, .slice none 0 0] 26)))
  clear C4_8
  have S6_8 := Lib.hid (S6_7.out.ext (b_al (.cells #[.int .i64 0, .slice none 0 0] 26)))
  clear S6_7
  have HL_7 := Lib.hid (HL_6.out.ext (b_al (.cells #[.int .i64 0, .slice none 0 0] 26)))
  clear HL_6
  have HE_7 := Lib.hid (HE_6.out.ext (b_al (.cells #[.int .i64 0, .slice none 0 0] 26)))
  clear HE_6
  have X_6 := Lib.hid (X_5.out.ext (b_al (.cells #[.int .i64 0, .slice none 0 0] 26)))
  clear X_5
  have HN_5 := Lib.hid (HN_4.out.ext (b_al (.cells #[.int .i64 0, .slice none 0 0] 26)))
  clear HN_4
  have Y_4 := Lib.hid (Y_3.out.ext (b_al (.cells #[.int .i64 0, .slice none 0 0] 26)))
  clear Y_3
  have Z2_0 : Hid (CB (w12.alloc (.cells #[.int .i64 0, .slice none 0 0] 26)) w12.heap.size 26 [.int .i64 0, .slice none 0 0]) := CB.new w12 _ _
  generalize w12.alloc (.cells #[.int .i64 0, .slice none 0 0] 26) = w13 at *
  generalize w12.heap.size = GZ2 at *
  have x0 : w13.cell? ⟨GX, 0, none⟩ = some (.int .i64 2) := X_6.out.cell 0
  have x1 : w13.cell? ⟨GX, 1, none⟩ = some (.slice oa 1 cap) := X_6.out.cell 1
  go_wp2_with fail
  clear x0 x1
  refine (holds_is (tk := 2) (x := leS) (b := true) HL_7.out (by decide) (by decide)).mono ?_
  rintro e w14 ⟨rfl, hb⟩
  have HB_14 := Lib.hid (below_ext HB_13.out hb)
  clear HB_13
  have C1_13 := Lib.hid (C1_12.out.ext hb)
  clear C1_12
  have C2_12 := Lib.hid (C2_11.out.ext hb)
  clear C2_11
  have C3_11 := Lib.hid (C3_10.out.ext hb)
  clear C3_10
  have C4_10 := Lib.hid (C4_9.out.ext hb)
  clear C4_9
  have S6_9 := Lib.hid (S6_8.out.ext hb)
  clear S6_8
  have HL_8 := Lib.hid (HL_7.out.ext hb)
  clear HL_7
  have HE_8 := Lib.hid (HE_7.out.ext hb)
  clear HE_7
  have X_7 := Lib.hid (X_6.out.ext hb)
  clear X_6
  have HN_6 := Lib.hid (HN_5.out.ext hb)
  clear HN_5
  have Y_5 := Lib.hid (Y_4.out.ext hb)
  clear Y_4
  clear hb
  go_upto_region 10 with fail
  simp only [leS]
  have HB_15 := Lib.hid (below_ext HB_14.out (b_al (.cells #[.int .i64 5, .int .i64 3, .int .i64 8, .int .i64 2, .bool true] 36)))
  clear HB_14
  have C1_14 := Lib.hid (C1_13.out.ext (b_al (.cells #[.int .i64 5, .int .i64 3, .int .i64 8, .int .i64 2, .bool true] 36)))
  clear C1_13
  have C2_13 := Lib.hid (C2_12.out.ext (b_al (.cells #[.int .i64 5, .int .i64 3, .int .i64 8, .int .i64 2, .bool true] 36)))
  clear C2_12
  have C3_12 := Lib.hid (C3_11.out.ext (b_al (.cells #[.int .i64 5, .int .i64 3, .int .i64 8, .int .i64 2, .bool true] 36)))
  clear C3_11
  have C4_11 := Lib.hid (C4_10.out.ext (b_al (.cells #[.int .i64 5, .int .i64 3, .int .i64 8, .int .i64 2, .bool true] 36)))
  clear C4_10
  have S6_10 := Lib.hid (S6_9.out.ext (b_al (.cells #[.int .i64 5, .int .i64 3, .int .i64 8, .int .i64 2, .bool true] 36)))
  clear S6_9
  have HL_9 := Lib.hid (HL_8.out.ext (b_al (.cells #[.int .i64 5, .int .i64 3, .int .i64 8, .int .i64 2, .bool true] 36)))
  clear HL_8
  have HE_9 := Lib.hid (HE_8.out.ext (b_al (.cells #[.int .i64 5, .int .i64 3, .int .i64 8, .int .i64 2, .bool true] 36)))
  clear HE_8
  have X_8 := Lib.hid (X_7.out.ext (b_al (.cells #[.int .i64 5, .int .i64 3, .int .i64 8, .int .i64 2, .bool true] 36)))
  clear X_7
  have HN_7 := Lib.hid (HN_6.out.ext (b_al (.cells #[.int .i64 5, .int .i64 3, .int .i64 8, .int .i64 2, .bool true] 36)))
  clear HN_6
  have Y_6 := Lib.hid (Y_5.out.ext (b_al (.cells #[.int .i64 5, .int .i64 3, .int .i64 8, .int .i64 2, .bool true] 36)))
  clear Y_5
  have H_0 : Hid (CB (w14.alloc (.cells #[.int .i64 5, .int .i64 3, .int .i64 8, .int .i64 2, .bool true] 36)) w14.heap.size 36 leS.cells) := CB.new w14 _ _
  generalize w14.alloc (.cells #[.int .i64 5, .int .i64 3, .int .i64 8, .int .i64 2, .bool true] 36) = w15 at *
  generalize w14.heap.size = GH at *
  go_wp2_with fail
  refine (holds_is (tk := 0) (l := []) (v := .slice none 0 0) (x := leZ) (b := false) (LsAt.nil _ _ _ _) (by decide) (by decide)).mono ?_
  rintro e w16 ⟨rfl, hb⟩
  have HB_16 := Lib.hid (below_ext HB_15.out hb)
  clear HB_15
  have C1_15 := Lib.hid (C1_14.out.ext hb)
  clear C1_14
  have C2_14 := Lib.hid (C2_13.out.ext hb)
  clear C2_13
  have C3_13 := Lib.hid (C3_12.out.ext hb)
  clear C3_12
  have C4_12 := Lib.hid (C4_11.out.ext hb)
  clear C4_11
  have S6_11 := Lib.hid (S6_10.out.ext hb)
  clear S6_10
  have HL_10 := Lib.hid (HL_9.out.ext hb)
  clear HL_9
  have HE_10 := Lib.hid (HE_9.out.ext hb)
  clear HE_9
  have X_9 := Lib.hid (X_8.out.ext hb)
  clear X_8
  have HN_8 := Lib.hid (HN_7.out.ext hb)
  clear HN_7
  have Y_7 := Lib.hid (Y_6.out.ext hb)
  clear Y_6
  have H_1 := Lib.hid (H_0.out.ext hb)
  clear H_0
  clear hb
  go_upto_region 11 with fail
  simp only [leZ]
  have HB_17 := Lib.hid (below_ext HB_16.out (b_al (.cells #[.int .i64 0, .int .i64 0, .int .i64 0, .int .i64 0, .bool false] 36)))
  clear HB_16
  have C1_16 := Lib.hid (C1_15.out.ext (b_al (.cells #[.int .i64 0, .int .i64 0, .int .i64 0, .int .i64 0, .bool false] 36)))
  clear C1_15
  have C2_15 := Lib.hid (C2_14.out.ext (b_al (.cells #[.int .i64 0, .int .i64 0, .int .i64 0, .int .i64 0, .bool false] 36)))
  clear C2_14
  have C3_14 := Lib.hid (C3_13.out.ext (b_al (.cells #[.int .i64 0, .int .i64 0, .int .i64 0, .int .i64 0, .bool false] 36)))
  clear C3_13
  have C4_13 := Lib.hid (C4_12.out.ext (b_al (.cells #[.int .i64 0, .int .i64 0, .int .i64 0, .int .i64 0, .bool false] 36)))
  clear C4_12
  have S6_12 := Lib.hid (S6_11.out.ext (b_al (.cells #[.int .i64 0, .int .i64 0, .int .i64 0, .int .i64 0, .bool false] 36)))
  clear S6_11
  have HL_11 := Lib.hid (HL_10.out.ext (b_al (.cells #[.int .i64 0, .int .i64 0, .int .i64 0, .int .i64 0, .bool false] 36)))
  clear HL_10
  have HE_11 := Lib.hid (HE_10.out.ext (b_al (.cells #[.int .i64 0, .int .i64 0, .int .i64 0, .int .i64 0, .bool false] 36)))
  clear HE_10
  have X_10 := Lib.hid (X_9.out.ext (b_al (.cells #[.int .i64 0, .int .i64 0, .int .i64 0, .int .i64 0, .bool false] 36)))
  clear X_9
  have HN_9 := Lib.hid (HN_8.out.ext (b_al (.cells #[.int .i64 0, .int .i64 0, .int .i64 0, .int .i64 0, .bool false] 36)))
  clear HN_8
  have Y_8 := Lib.hid (Y_7.out.ext (b_al (.cells #[.int .i64 0, .int .i64 0, .int .i64 0, .int .i64 0, .bool false] 36)))
  clear Y_7
  have H_2 := Lib.hid (H_1.out.ext (b_al (.cells #[.int .i64 0, .int .i64 0, .int .i64 0, .int .i64 0, .bool false] 36)))
  clear H_1
  have H2_0 : Hid (CB (w16.alloc (.cells #[.int .i64 0, .int .i64 0, .int .i64 0, .int .i64 0, .bool false] 36)) w16.heap.size 36 leZ.cells) := CB.new w16 _ _
  generalize w16.alloc (.cells #[.int .i64 0, .int .i64 0, .int .i64 0, .int .i64 0, .bool false] 36) = w17 at *
  generalize w16.heap.size = GH2 at *
  have c20 : w17.cell? ⟨G2, 0, none⟩ = some (.int .i64 2) := C2_15.out.cell 0
  have c21 : w17.cell? ⟨G2, 1, none⟩ = some (.int .i64 5) := C2_15.out.cell 1
  have c22 : w17.cell? ⟨G2, 2, none⟩ = some (.int .i64 3) := C2_15.out.cell 2
  have c23 : w17.cell? ⟨G2, 3, none⟩ = some (.int .i64 8) := C2_15.out.cell 3
  have c24 : w17.cell? ⟨G2, 4, none⟩ = some (.int .i64 1) := C2_15.out.cell 4
  go_wp2_with fail
  clear c20 c21 c22 c23 c24
  refine (encode35_any ⟨2, 5, 3, 8, 1⟩ _ (by unfold cmX I64; simp)).mono ?_
  rintro e w18 ⟨hb, bv, rfl, hrb⟩
  have HB_18 := Lib.hid (below_ext HB_17.out hb)
  clear HB_17
  have C1_17 := Lib.hid (C1_16.out.ext hb)
  clear C1_16
  have C2_16 := Lib.hid (C2_15.out.ext hb)
  clear C2_15
  have C3_15 := Lib.hid (C3_14.out.ext hb)
  clear C3_14
  have C4_14 := Lib.hid (C4_13.out.ext hb)
  clear C4_13
  have S6_13 := Lib.hid (S6_12.out.ext hb)
  clear S6_12
  have HL_12 := Lib.hid (HL_11.out.ext hb)
  clear HL_11
  have HE_12 := Lib.hid (HE_11.out.ext hb)
  clear HE_11
  have X_11 := Lib.hid (X_10.out.ext hb)
  clear X_10
  have HN_10 := Lib.hid (HN_9.out.ext hb)
  clear HN_9
  have Y_9 := Lib.hid (Y_8.out.ext hb)
  clear Y_8
  have H_3 := Lib.hid (H_2.out.ext hb)
  clear H_2
  have HR_0 := Lib.hid hrb
  clear hrb
  clear hb
  go_wp2_with fail
  refine (decode35_good (enc (lsI (cmX ⟨2, 5, 3, 8, 1⟩))) (by have := enc_sz (lsI (cmX ⟨2, 5, 3, 8, 1⟩)); have h2 := lsI_sz (cmX ⟨2, 5, 3, 8, 1⟩); simp [cmX] at this h2 ⊢; omega) _ _ ⟨2, 5, 3, 8, 1⟩ HR_0.out.bts (decF_enc (lsI_ck _) (lsI_ok (by unfold cmX I64; simp) (by decide)))).mono ?_
  rintro e w19 ⟨rfl, hb⟩
  have HB_19 := Lib.hid (below_ext HB_18.out hb)
  clear HB_18
  have C1_18 := Lib.hid (C1_17.out.ext hb)
  clear C1_17
  have C2_17 := Lib.hid (C2_16.out.ext hb)
  clear C2_16
  have C3_16 := Lib.hid (C3_15.out.ext hb)
  clear C3_15
  have C4_15 := Lib.hid (C4_14.out.ext hb)
  clear C4_14
  have S6_14 := Lib.hid (S6_13.out.ext hb)
  clear S6_13
  have HL_13 := Lib.hid (HL_12.out.ext hb)
  clear HL_12
  have HE_13 := Lib.hid (HE_12.out.ext hb)
  clear HE_12
  have X_12 := Lib.hid (X_11.out.ext hb)
  clear X_11
  have HN_11 := Lib.hid (HN_10.out.ext hb)
  clear HN_10
  have Y_10 := Lib.hid (Y_9.out.ext hb)
  clear Y_9
  have H_4 := Lib.hid (H_3.out.ext hb)
  clear H_3
  have HR_1 := Lib.hid (HR_0.out.ext hb)
  clear HR_0
  clear hb
  go_upto_region 13 with fail
  have HB_20 := Lib.hid (below_ext HB_19.out (b_al (.cells #[.int .i64 2, .int .i64 5, .int .i64 3, .int .i64 8, .int .i64 1] 33)))
  clear HB_19
  have C1_19 := Lib.hid (C1_18.out.ext (b_al (.cells #[.int .i64 2, .int .i64 5, .int .i64 3, .int .i64 8, .int .i64 1] 33)))
  clear C1_18
  have C2_18 := Lib.hid (C2_17.out.ext (b_al (.cells #[.int .i64 2, .int .i64 5, .int .i64 3, .int .i64 8, .int .i64 1] 33)))
  clear C2_17
  have C3_17 := Lib.hid (C3_16.out.ext (b_al (.cells #[.int .i64 2, .int .i64 5, .int .i64 3, .int .i64 8, .int .i64 1] 33)))
  clear C3_16
  have C4_16 := Lib.hid (C4_15.out.ext (b_al (.cells #[.int .i64 2, .int .i64 5, .int .i64 3, .int .i64 8, .int .i64 1] 33)))
  clear C4_15
  have S6_15 := Lib.hid (S6_14.out.ext (b_al (.cells #[.int .i64 2, .int .i64 5, .int .i64 3, .int .i64 8, .int .i64 1] 33)))
  clear S6_14
  have HL_14 := Lib.hid (HL_13.out.ext (b_al (.cells #[.int .i64 2, .int .i64 5, .int .i64 3, .int .i64 8, .int .i64 1] 33)))
  clear HL_13
  have HE_14 := Lib.hid (HE_13.out.ext (b_al (.cells #[.int .i64 2, .int .i64 5, .int .i64 3, .int .i64 8, .int .i64 1] 33)))
  clear HE_13
  have X_13 := Lib.hid (X_12.out.ext (b_al (.cells #[.int .i64 2, .int .i64 5, .int .i64 3, .int .i64 8, .int .i64 1] 33)))
  clear X_12
  have HN_12 := Lib.hid (HN_11.out.ext (b_al (.cells #[.int .i64 2, .int .i64 5, .int .i64 3, .int .i64 8, .int .i64 1] 33)))
  clear HN_11
  have Y_11 := Lib.hid (Y_10.out.ext (b_al (.cells #[.int .i64 2, .int .i64 5, .int .i64 3, .int .i64 8, .int .i64 1] 33)))
  clear Y_10
  have H_5 := Lib.hid (H_4.out.ext (b_al (.cells #[.int .i64 2, .int .i64 5, .int .i64 3, .int .i64 8, .int .i64 1] 33)))
  clear H_4
  have B_0 : Hid (CB (w19.alloc (.cells #[.int .i64 2, .int .i64 5, .int .i64 3, .int .i64 8, .int .i64 1] 33)) w19.heap.size 33 [.int .i64 2, .int .i64 5, .int .i64 3, .int .i64 8, .int .i64 1]) := CB.new w19 _ _
  generalize w19.alloc (.cells #[.int .i64 2, .int .i64 5, .int .i64 3, .int .i64 8, .int .i64 1] 33) = w20 at *
  generalize w19.heap.size = GB at *
  go_wp2_with fail
  refine (encode_any (iV 0) (by unfold iV; simp [sz, szs]; decide) _ _ ⟨by show I64 1; unfold I64; omega, by show I64 0; unfold I64; omega, by show (0 : Nat) ≤ _; unfold maxLen; decide, _, rfl, .inl ⟨rfl, _, _, rfl⟩⟩).mono ?_
  rintro e w21 ⟨bz, rfl, hrb, hb⟩
  have HB_21 := Lib.hid (below_ext HB_20.out hb)
  clear HB_20
  have C1_20 := Lib.hid (C1_19.out.ext hb)
  clear C1_19
  have C2_19 := Lib.hid (C2_18.out.ext hb)
  clear C2_18
  have C3_18 := Lib.hid (C3_17.out.ext hb)
  clear C3_17
  have C4_17 := Lib.hid (C4_16.out.ext hb)
  clear C4_16
  have S6_16 := Lib.hid (S6_15.out.ext hb)
  clear S6_15
  have HL_15 := Lib.hid (HL_14.out.ext hb)
  clear HL_14
  have HE_15 := Lib.hid (HE_14.out.ext hb)
  clear HE_14
  have X_14 := Lib.hid (X_13.out.ext hb)
  clear X_13
  have HN_13 := Lib.hid (HN_12.out.ext hb)
  clear HN_12
  have Y_12 := Lib.hid (Y_11.out.ext hb)
  clear Y_11
  have H_6 := Lib.hid (H_5.out.ext hb)
  clear H_5
  have B_1 := Lib.hid (B_0.out.ext hb)
  clear B_0
  rw [iV_ck, if_pos rfl] at hrb
  rw [iV_ck]
  have HQ_0 := Lib.hid hrb
  clear hrb
  clear hb
  go_wp2_with fail
  refine (decode35_other (enc (iV 0)) (by have := enc_sz (iV 0); have h2 : sz (iV 0) ≤ 60 := (by unfold iV; simp [sz, szs]; decide); omega) _ _ (iV 0) HQ_0.out.bts (decF_enc (iV_ck 0) (by unfold iV; simp only [okV]; exact ⟨by unfold I64; omega, by unfold I64; omega, by show (0 : Nat) ≤ _; unfold maxLen; decide, by decide, trivial⟩)) (by show ¬ (1 : Int) = 3; omega)).mono ?_
  rintro e w22 ⟨rfl, hb⟩
  have HB_22 := Lib.hid (below_ext HB_21.out hb)
  clear HB_21
  have C1_21 := Lib.hid (C1_20.out.ext hb)
  clear C1_20
  have C2_20 := Lib.hid (C2_19.out.ext hb)
  clear C2_19
  have C3_19 := Lib.hid (C3_18.out.ext hb)
  clear C3_18
  have C4_18 := Lib.hid (C4_17.out.ext hb)
  clear C4_17
  have S6_17 := Lib.hid (S6_16.out.ext hb)
  clear S6_16
  have HL_16 := Lib.hid (HL_15.out.ext hb)
  clear HL_15
  have HE_16 := Lib.hid (HE_15.out.ext hb)
  clear HE_15
  have X_15 := Lib.hid (X_14.out.ext hb)
  clear X_14
  have HN_14 := Lib.hid (HN_13.out.ext hb)
  clear HN_13
  have Y_13 := Lib.hid (Y_12.out.ext hb)
  clear Y_12
  have H_7 := Lib.hid (H_6.out.ext hb)
  clear H_6
  have B_2 := Lib.hid (B_1.out.ext hb)
  clear B_1
  have HQ_1 := Lib.hid (HQ_0.out.ext hb)
  clear HQ_0
  clear hb
  go_upto_region 15 with fail
  simp only [cmZ]
  have HB_23 := Lib.hid (below_ext HB_22.out (b_al (.cells #[.int .i64 0, .int .i64 0, .int .i64 0, .int .i64 0, .int .i64 0] 33)))
  clear HB_22
  have C1_22 := Lib.hid (C1_21.out.ext (b_al (.cells #[.int .i64 0, .int .i64 0, .int .i64 0, .int .i64 0, .int .i64 0] 33)))
  clear C1_21
  have C2_21 := Lib.hid (C2_20.out.ext (b_al (.cells #[.int .i64 0, .int .i64 0, .int .i64 0, .int .i64 0, .int .i64 0] 33)))
  clear C2_20
  have C3_20 := Lib.hid (C3_19.out.ext (b_al (.cells #[.int .i64 0, .int .i64 0, .int .i64 0, .int .i64 0, .int .i64 0] 33)))
  clear C3_19
  have C4_19 := Lib.hid (C4_18.out.ext (b_al (.cells #[.int .i64 0, .int .i64 0, .int .i64 0, .int .i64 0, .int .i64 0] 33)))
  clear C4_18
  have S6_18 := Lib.hid (S6_17.out.ext (b_al (.cells #[.int .i64 0, .int .i64 0, .int .i64 0, .int .i64 0, .int .i64 0] 33)))
  clear S6_17
  have HL_17 := Lib.hid (HL_16.out.ext (b_al (.cells #[.int .i64 0, .int .i64 0, .int .i64 0, .int .i64 0, .int .i64 0] 33)))
  clear HL_16
  have HE_17 := Lib.hid (HE_16.out.ext (b_al (.cells #[.int .i64 0, .int .i64 0, .int .i64 0, .int .i64 0, .int .i64 0] 33)))
  clear HE_16
  have X_16 := Lib.hid (X_15.out.ext (b_al (.cells #[.int .i64 0, .int .i64 0, .int .i64 0, .int .i64 0, .int .i64 0] 33)))
  clear X_15
  have HN_15 := Lib.hid (HN_14.out.ext (b_al (.cells #[.int .i64 0, .int .i64 0, .int .i64 0, .int .i64 0, .int .i64 0] 33)))
  clear HN_14
  have Y_14 := Lib.hid (Y_13.out.ext (b_al (.cells #[.int .i64 0, .int .i64 0, .int .i64 0, .int .i64 0, .int .i64 0] 33)))
  clear Y_13
  have H_8 := Lib.hid (H_7.out.ext (b_al (.cells #[.int .i64 0, .int .i64 0, .int .i64 0, .int .i64 0, .int .i64 0] 33)))
  clear H_7
  have B_3 := Lib.hid (B_2.out.ext (b_al (.cells #[.int .i64 0, .int .i64 0, .int .i64 0, .int .i64 0, .int .i64 0] 33)))
  clear B_2
  have B0_0 : Hid (CB (w22.alloc (.cells #[.int .i64 0, .int .i64 0, .int .i64 0, .int .i64 0, .int .i64 0] 33)) w22.heap.size 33 [.int .i64 0, .int .i64 0, .int .i64 0, .int .i64 0, .int .i64 0]) := CB.new w22 _ _
  generalize w22.alloc (.cells #[.int .i64 0, .int .i64 0, .int .i64 0, .int .i64 0, .int .i64 0] 33) = w23 at *
  generalize w22.heap.size = GB0 at *
  have x0 : w23.cell? ⟨GX, 0, none⟩ = some (.int .i64 2) := X_16.out.cell 0
  have x1 : w23.cell? ⟨GX, 1, none⟩ = some (.slice oa 1 cap) := X_16.out.cell 1
  go_wp2_with fail
  refine (check_is (tk := 0) (l := []) (v := .slice none 0 0) (k := 0) (LsAt.nil _ _ _ _) (by decide) (by decide +kernel)).mono ?_
  rintro e w24 ⟨rfl, hb⟩
  have HB_24 := Lib.hid (below_ext HB_23.out hb)
  clear HB_23
  have C1_23 := Lib.hid (C1_22.out.ext hb)
  clear C1_22
  have C2_22 := Lib.hid (C2_21.out.ext hb)
  clear C2_21
  have C3_21 := Lib.hid (C3_20.out.ext hb)
  clear C3_20
  have C4_20 := Lib.hid (C4_19.out.ext hb)
  clear C4_19
  have S6_19 := Lib.hid (S6_18.out.ext hb)
  clear S6_18
  have HL_18 := Lib.hid (HL_17.out.ext hb)
  clear HL_17
  have HE_18 := Lib.hid (HE_17.out.ext hb)
  clear HE_17
  have X_17 := Lib.hid (X_16.out.ext hb)
  clear X_16
  have HN_16 := Lib.hid (HN_15.out.ext hb)
  clear HN_15
  have Y_15 := Lib.hid (Y_14.out.ext hb)
  clear Y_14
  have H_9 := Lib.hid (H_8.out.ext hb)
  clear H_8
  have B_4 := Lib.hid (B_3.out.ext hb)
  clear B_3
  clear hb
  clear x0 x1
  have x0 : w24.cell? ⟨GX, 0, none⟩ = some (.int .i64 2) := X_17.out.cell 0
  have x1 : w24.cell? ⟨GX, 1, none⟩ = some (.slice oa 1 cap) := X_17.out.cell 1
  go_wp2_with fail
  refine (check_is (tk := 2) (l := [leS]) (k := 0) HL_18.out (by decide) (by decide +kernel)).mono ?_
  rintro e w25 ⟨rfl, hb⟩
  have HB_25 := Lib.hid (below_ext HB_24.out hb)
  clear HB_24
  have C1_24 := Lib.hid (C1_23.out.ext hb)
  clear C1_23
  have C2_23 := Lib.hid (C2_22.out.ext hb)
  clear C2_22
  have C3_22 := Lib.hid (C3_21.out.ext hb)
  clear C3_21
  have C4_21 := Lib.hid (C4_20.out.ext hb)
  clear C4_20
  have S6_20 := Lib.hid (S6_19.out.ext hb)
  clear S6_19
  have HL_19 := Lib.hid (HL_18.out.ext hb)
  clear HL_18
  have HE_19 := Lib.hid (HE_18.out.ext hb)
  clear HE_18
  have X_18 := Lib.hid (X_17.out.ext hb)
  clear X_17
  have HN_17 := Lib.hid (HN_16.out.ext hb)
  clear HN_16
  have Y_16 := Lib.hid (Y_15.out.ext hb)
  clear Y_15
  have H_10 := Lib.hid (H_9.out.ext hb)
  clear H_9
  have B_5 := Lib.hid (B_4.out.ext hb)
  clear B_4
  clear hb
  clear x0 x1
  go_wp2_with fail
  refine (check_is (tk := -1) (l := []) (v := .slice none 0 0) (k := 350) (LsAt.nil _ _ _ _) (by decide) (by decide +kernel)).mono ?_
  rintro e w26 ⟨rfl, hb⟩
  have HB_26 := Lib.hid (below_ext HB_25.out hb)
  clear HB_25
  have C1_25 := Lib.hid (C1_24.out.ext hb)
  clear C1_24
  have C2_24 := Lib.hid (C2_23.out.ext hb)
  clear C2_23
  have C3_23 := Lib.hid (C3_22.out.ext hb)
  clear C3_22
  have C4_22 := Lib.hid (C4_21.out.ext hb)
  clear C4_21
  have S6_21 := Lib.hid (S6_20.out.ext hb)
  clear S6_20
  have HL_20 := Lib.hid (HL_19.out.ext hb)
  clear HL_19
  have HE_20 := Lib.hid (HE_19.out.ext hb)
  clear HE_19
  have X_19 := Lib.hid (X_18.out.ext hb)
  clear X_18
  have HN_18 := Lib.hid (HN_17.out.ext hb)
  clear HN_17
  have Y_17 := Lib.hid (Y_16.out.ext hb)
  clear Y_16
  have H_11 := Lib.hid (H_10.out.ext hb)
  clear H_10
  have B_6 := Lib.hid (B_5.out.ext hb)
  clear B_5
  clear hb
  go_wp2_with fail
  have HB_27 := Lib.hid (below_ext HB_26.out (b_al (.cells #[.int .i64 0, .int .i64 0, .int .i64 351, .int .i64 0, .int .i64 350, .int .i64 350] 30)))
  clear HB_26
  have C1_26 := Lib.hid (C1_25.out.ext (b_al (.cells #[.int .i64 0, .int .i64 0, .int .i64 351, .int .i64 0, .int .i64 350, .int .i64 350] 30)))
  clear C1_25
  have C2_25 := Lib.hid (C2_24.out.ext (b_al (.cells #[.int .i64 0, .int .i64 0, .int .i64 351, .int .i64 0, .int .i64 350, .int .i64 350] 30)))
  clear C2_24
  have C3_24 := Lib.hid (C3_23.out.ext (b_al (.cells #[.int .i64 0, .int .i64 0, .int .i64 351, .int .i64 0, .int .i64 350, .int .i64 350] 30)))
  clear C3_23
  have C4_23 := Lib.hid (C4_22.out.ext (b_al (.cells #[.int .i64 0, .int .i64 0, .int .i64 351, .int .i64 0, .int .i64 350, .int .i64 350] 30)))
  clear C4_22
  have S6_22 := Lib.hid (S6_21.out.ext (b_al (.cells #[.int .i64 0, .int .i64 0, .int .i64 351, .int .i64 0, .int .i64 350, .int .i64 350] 30)))
  clear S6_21
  have HL_21 := Lib.hid (HL_20.out.ext (b_al (.cells #[.int .i64 0, .int .i64 0, .int .i64 351, .int .i64 0, .int .i64 350, .int .i64 350] 30)))
  clear HL_20
  have HE_21 := Lib.hid (HE_20.out.ext (b_al (.cells #[.int .i64 0, .int .i64 0, .int .i64 351, .int .i64 0, .int .i64 350, .int .i64 350] 30)))
  clear HE_20
  have X_20 := Lib.hid (X_19.out.ext (b_al (.cells #[.int .i64 0, .int .i64 0, .int .i64 351, .int .i64 0, .int .i64 350, .int .i64 350] 30)))
  clear X_19
  have HN_19 := Lib.hid (HN_18.out.ext (b_al (.cells #[.int .i64 0, .int .i64 0, .int .i64 351, .int .i64 0, .int .i64 350, .int .i64 350] 30)))
  clear HN_18
  have Y_18 := Lib.hid (Y_17.out.ext (b_al (.cells #[.int .i64 0, .int .i64 0, .int .i64 351, .int .i64 0, .int .i64 350, .int .i64 350] 30)))
  clear Y_17
  have H_12 := Lib.hid (H_11.out.ext (b_al (.cells #[.int .i64 0, .int .i64 0, .int .i64 351, .int .i64 0, .int .i64 350, .int .i64 350] 30)))
  clear H_11
  have B_7 := Lib.hid (B_6.out.ext (b_al (.cells #[.int .i64 0, .int .i64 0, .int .i64 351, .int .i64 0, .int .i64 350, .int .i64 350] 30)))
  clear B_6
  have E6_0 : Hid (CB (w26.alloc (.cells #[.int .i64 0, .int .i64 0, .int .i64 351, .int .i64 0, .int .i64 350, .int .i64 350] 30)) w26.heap.size 30 (erK.flat [0, 0, 351, 0, 350, 350])) := CB.new w26 _ _
  generalize w26.alloc (.cells #[.int .i64 0, .int .i64 0, .int .i64 351, .int .i64 0, .int .i64 350, .int .i64 350] 30) = w27 at *
  generalize w26.heap.size = GE at *
  refine (sameErrs_any [0, 0, 351, 0, 350, 350] [0, 0, 351, 0, 350, 350] _ _ _ HE_21.out (ls_block (K := erK) (l := [0, 0, 351, 0, 350, 350]) 6 E6_0.out rfl (by decide))).mono ?_
  rintro e w28 ⟨rfl, hb⟩
  have HB_28 := Lib.hid (below_ext HB_27.out hb)
  clear HB_27
  have C1_27 := Lib.hid (C1_26.out.ext hb)
  clear C1_26
  have C2_26 := Lib.hid (C2_25.out.ext hb)
  clear C2_25
  have C3_25 := Lib.hid (C3_24.out.ext hb)
  clear C3_24
  have C4_24 := Lib.hid (C4_23.out.ext hb)
  clear C4_23
  have S6_23 := Lib.hid (S6_22.out.ext hb)
  clear S6_22
  have HL_22 := Lib.hid (HL_21.out.ext hb)
  clear HL_21
  have HE_22 := Lib.hid (HE_21.out.ext hb)
  clear HE_21
  have X_21 := Lib.hid (X_20.out.ext hb)
  clear X_20
  have HN_20 := Lib.hid (HN_19.out.ext hb)
  clear HN_19
  have Y_19 := Lib.hid (Y_18.out.ext hb)
  clear Y_18
  have H_13 := Lib.hid (H_12.out.ext hb)
  clear H_12
  have B_8 := Lib.hid (B_7.out.ext hb)
  clear B_7
  have E6_1 := Lib.hid (E6_0.out.ext hb)
  clear E6_0
  clear hb
  simp only [decide_true]
  have y0 : w28.cell? ⟨GY, 0, none⟩ = some (.int .i64 0) := Y_19.out.cell 0
  have y1 : w28.cell? ⟨GY, 1, none⟩ = some (.slice on 0 cn) := Y_19.out.cell 1
  go_wp2_with fail
  clear y0 y1
  refine (same35_any 0 [] _ 0 [] _ _ HN_20.out (LsAt.nil _ _ _ _)).mono ?_
  rintro e w29 ⟨rfl, hb⟩
  have HB_29 := Lib.hid (below_ext HB_28.out hb)
  clear HB_28
  have C1_28 := Lib.hid (C1_27.out.ext hb)
  clear C1_27
  have C2_27 := Lib.hid (C2_26.out.ext hb)
  clear C2_26
  have C3_26 := Lib.hid (C3_25.out.ext hb)
  clear C3_25
  have C4_25 := Lib.hid (C4_24.out.ext hb)
  clear C4_24
  have S6_24 := Lib.hid (S6_23.out.ext hb)
  clear S6_23
  have HL_23 := Lib.hid (HL_22.out.ext hb)
  clear HL_22
  have HE_23 := Lib.hid (HE_22.out.ext hb)
  clear HE_22
  have X_22 := Lib.hid (X_21.out.ext hb)
  clear X_21
  have HN_21 := Lib.hid (HN_20.out.ext hb)
  clear HN_20
  have Y_20 := Lib.hid (Y_19.out.ext hb)
  clear Y_19
  have H_14 := Lib.hid (H_13.out.ext hb)
  clear H_13
  have B_9 := Lib.hid (B_8.out.ext hb)
  clear B_8
  have E6_2 := Lib.hid (E6_1.out.ext hb)
  clear E6_1
  clear hb
  simp only [show sameL 0 [] 0 [] = true from rfl]
  have h0 : w29.cell? ⟨GH, 0, none⟩ = some (.int .i64 5) := H_14.out.cell 0
  have h1 : w29.cell? ⟨GH, 1, none⟩ = some (.int .i64 3) := H_14.out.cell 1
  have h2 : w29.cell? ⟨GH, 2, none⟩ = some (.int .i64 8) := H_14.out.cell 2
  have h3 : w29.cell? ⟨GH, 3, none⟩ = some (.int .i64 2) := H_14.out.cell 3
  have h4 : w29.cell? ⟨GH, 4, none⟩ = some (.bool true) := H_14.out.cell 4
  have c20 : w29.cell? ⟨G2, 0, none⟩ = some (.int .i64 2) := C2_27.out.cell 0
  have c21 : w29.cell? ⟨G2, 1, none⟩ = some (.int .i64 5) := C2_27.out.cell 1
  have c22 : w29.cell? ⟨G2, 2, none⟩ = some (.int .i64 3) := C2_27.out.cell 2
  have c23 : w29.cell? ⟨G2, 3, none⟩ = some (.int .i64 8) := C2_27.out.cell 3
  have c24 : w29.cell? ⟨G2, 4, none⟩ = some (.int .i64 1) := C2_27.out.cell 4
  have d0 : w29.cell? ⟨GB, 0, none⟩ = some (.int .i64 2) := B_9.out.cell 0
  have d1 : w29.cell? ⟨GB, 1, none⟩ = some (.int .i64 5) := B_9.out.cell 1
  have d2 : w29.cell? ⟨GB, 2, none⟩ = some (.int .i64 3) := B_9.out.cell 2
  have d3 : w29.cell? ⟨GB, 3, none⟩ = some (.int .i64 8) := B_9.out.cell 3
  have d4 : w29.cell? ⟨GB, 4, none⟩ = some (.int .i64 1) := B_9.out.cell 4
  have q1 : ∀ w : World, (Op.equalIn 10000 36 (.agg #[.int .i64 5, .int .i64 3, .int .i64 8, .int .i64 2, .bool true]) (.agg #[.int .i64 5, .int .i64 3, .int .i64 8, .int .i64 2, .bool true])).run Try.prog w = .ok true w := fun w => by have := eq_le leS leS w; rw [decide_eq_true rfl] at this; exact this
  have q2 : ∀ w : World, (Op.equalIn 10000 33 (.agg #[.int .i64 2, .int .i64 5, .int .i64 3, .int .i64 8, .int .i64 1]) (.agg #[.int .i64 2, .int .i64 5, .int .i64 3, .int .i64 8, .int .i64 1])).run Try.prog w = .ok true w := fun w => by have := eq_cm ⟨2, 5, 3, 8, 1⟩ ⟨2, 5, 3, 8, 1⟩ w; rw [decide_eq_true rfl] at this; exact this
  go_wp2
  go_ret
  exact ⟨rfl, HB_29.out⟩
end Go.Proofs.Ytlocilbcmcfmaaa
