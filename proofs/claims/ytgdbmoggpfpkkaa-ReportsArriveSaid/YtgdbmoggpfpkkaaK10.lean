/- Merged: Rqa. -/
import Derived.Test.YtgdbmoggpfpkkaaK08
import Derived.Test.YtgdbmoggpfpkkaaK09
/- the reference: Add. (Printed by gen22a.py.) -/
namespace Go.Proofs.Ytgdbmoggpfpkkaa
open Go.RowKit
theorem src_zero (x : Option Addr) (c : Nat) (W : World) : Src Try.prog 6 39 (.slice x 0 c) 0 [] W := by
  cases x with
  | none => exact Src.ofNil W Try.underlying39 c
  | some a => exact Src.ofSlice W Try.underlying39 a 0 c [] rfl (fun j u h => by simp at h) (fun u h => by cases h)
theorem src_take {l : List Rp} {oa : Option Addr} {cap n : Nat} (W : World) (h : RpsAt W.heap.size W l (.slice oa l.length cap)) (hn : n ≤ l.length) : Src Try.prog 6 39 (.slice oa n cap) n (rcells (l.take n)) W := by
  by_cases h0 : n = 0
  · subst h0; exact src_zero _ _ _
  obtain ⟨b, off, rfl, hat⟩ := h.at (k := 0) (by omega)
  refine Src.ofSlice W Try.underlying39 _ n cap _ (by rw [rcells_len, List.length_take, Nat.min_eq_left hn]) (fun j u hu => ?_) (rcells_one _)
  rw [add0]
  refine rcells_at (l.take n) W b off (fun k x hk => ?_) j u hu
  rw [List.getElem?_take] at hk
  split at hk
  · exact hat k x hk
  · cases hk
theorem src_drop {l : List Rp} {oa oa' : Option Addr} {cap n m : Nat} (c : Nat) (W : World) (h : RpsAt W.heap.size W l (.slice oa l.length cap)) (hn : n ≤ l.length) (hm : m = l.length - n) (ho : oa' = if cap = n then oa else Option.map (fun x => x.add (n * 6)) oa) (hc : l.length ≤ cap) : Src Try.prog 6 39 (.slice oa' m c) m (rcells (l.drop n)) W := by
  by_cases h0 : l.length - n = 0
  · rw [h0] at hm; subst hm; rw [List.drop_of_length_le (by omega)]; exact src_zero _ _ _
  obtain ⟨b, off, rfl, hat⟩ := h.at (k := 0) (by omega)
  rw [if_neg (by omega)] at ho
  subst ho hm
  refine Src.ofSlice W Try.underlying39 _ _ _ _ (by rw [rcells_len, List.length_drop]) (fun j u hu => ?_) (rcells_one _)
  show W.cell? ((Addr.add ⟨b, off, none⟩ (n * 6)).add j) = _
  rw [add0, add0]
  refine rcells_at (l.drop n) W b (off + n * 6) (fun k x hk => ?_) j u hu
  have := hat (n + k) x (by rw [List.getElem?_drop] at hk; exact hk)
  rw [show off + n * 6 + k * 6 = off + (n + k) * 6 by omega]; exact this
theorem made_at (base : Nat) (W : World) (h : base ≤ W.heap.size) : OwnR (W.alloc (.cells #[] 23)) base (.slice (some ⟨W.heap.size, 0, none⟩) 0 0) [] :=
  World.ownsRow_made (e := 23) (base := base) (size := 6) W #[] 0 h (Nat.zero_le _) rfl
theorem src_r {r : Rp} {W : World} {g : Nat} (h : CB W g 23 r.cells) : Src Try.prog 6 39 (.slice (some ⟨g, 0, none⟩) 1 1) 1 r.cells W :=
  Src.ofSlice W Try.underlying39 ⟨g, 0, none⟩ 1 1 _ rfl (fun j u hu => by rw [add0, Nat.zero_add, h.cell]; exact hu) (rp_one r)
theorem own_app {W : World} {base k : Nat} {v : Value} {l : List Rp} (h : W.ownsRow base 23 6 v (([] : List Rp).length + k) (rcells [] ++ rcells (l.take k))) (hk : k ≤ l.length) : OwnR W base v (l.take k) := by
  unfold OwnR
  rw [List.length_take, Nat.min_eq_left hk]
  simpa [rcells] using h
theorem own_r {W : World} {base k : Nat} {v : Value} {l : List Rp} {r : Rp} (h : W.ownsRow base 23 6 v ((l.take k).length + 1) (rcells (l.take k) ++ r.cells)) (hk : k ≤ l.length) : OwnR W base v (l.take k ++ [r]) := by
  unfold OwnR
  rw [List.length_append, rcells_append]
  simpa [rcells] using h
theorem own_end {W : World} {base k m : Nat} {v : Value} {l : List Rp} {r : Rp} (h : W.ownsRow base 23 6 v ((l.take k ++ [r]).length + m) (rcells (l.take k ++ [r]) ++ rcells (l.drop k))) (hm : m = l.length - k) : OwnR W base v (insL l k r) := by
  have e : insL l k r = (l.take k ++ [r]) ++ l.drop k := by unfold insL; simp
  subst hm
  rw [e]
  unfold OwnR
  rw [List.length_append, rcells_append, List.length_drop]
  exact h
theorem hit_of {l : List Rp} {r x : Rp} {n : Nat} (hx : l[n]? = some x) (hb : decide (cmpP x.st x.no r.st r.no < 0) = false) : hitB l r.st r.no n = !decide (cmpP r.st r.no x.st x.no < 0) := by
  rw [hit_some hx, Bool.eq_iff_iff, beq_iff_eq, cmpP_zero, Bool.not_eq_true', decide_eq_false_iff_not, cmpP_lt]
  rw [decide_eq_false_iff_not, cmpP_lt] at hb
  omega
def RaRel (l : List Rp) (r : Rp) (N : Nat) (w : World) (i : Value) (wr : World) : Prop := ∃ k : Nat, k ≤ N ∧ i = .int .i64 k ∧ Below w.heap.size w wr ∧ CB wr w.heap.size 23 r.cells
set_option maxRecDepth 100000 in
set_option maxHeartbeats 4000000 in
theorem radd_any (l : List Rp) (v : Value) (r : Rp) (w : World) (hl : RpsAt w.heap.size w l v) (hs : ∀ x ∈ l, x.cl.size ≤ 9223372036854775807) (hr : r.cl.size ≤ 9223372036854775807) :
    Calls Try.prog 22 #[v, r.v] w (AddPost l r w) := by
  have HR := Lib.hid hl; have HS := Lib.hid hs; have Hr := Lib.hid hr
  have hcap : ∃ oa cap, v = .slice oa l.length cap ∧ l.length ≤ cap ∧ l.length ≤ 9223372036854775807 := by
    rcases hl with ⟨rfl, oa, cap, rfl⟩ | ⟨b, off, cap, rfl, h2, h3, _⟩
    · exact ⟨oa, cap, rfl, by simp, by simp⟩
    · exact ⟨_, cap, rfl, h2, by unfold maxLen at h3; omega⟩
  obtain ⟨oa, cap, rfl, hlc, hlm⟩ := hcap
  have bl : (l.length : Int) ≤ 9223372036854775807 := by omega
  have hcb0 : Hid (CB (w.alloc (.cells #[.int .i64 r.st, .int .i64 r.no, .int .i64 r.mi, .int .i64 r.ar, .string r.cl, .int .i64 r.vo] 23)) w.heap.size 23 r.cells) := CB.new w _ _
  have hb0 := Lib.hid ((Below.refl w.heap.size w).alloc (Nat.le_refl _) (.cells #[.int .i64 r.st, .int .i64 r.no, .int .i64 r.mi, .int .i64 r.ar, .string r.cl, .int .i64 r.vo] 23))
  have Hlc := Lib.hid hlc
  clear hl hs hr hlm hlc
  change Calls Try.prog 22 #[.slice oa l.length cap, .agg #[.int .i64 r.st, .int .i64 r.no, .int .i64 r.mi, .int .i64 r.ar, .string r.cl, .int .i64 r.vo]] w _
  obtain ⟨c, hc⟩ : ∃ c, colB l = c := ⟨_, rfl⟩
  have Hc := Lib.hid hc; clear hc
  obtain ⟨rb, hrb⟩ : ∃ c, repB 4 3 r = c := ⟨_, rfl⟩
  have Hrb := Lib.hid hrb; clear hrb
  go_enter Try.func22, Try.ntmps22
  go_upto_region 1 with fail
  generalize w.alloc (.cells #[.int .i64 r.st, .int .i64 r.no, .int .i64 r.mi, .int .i64 r.ar, .string r.cl, .int .i64 r.vo] 23) = w0 at *
  cases c
  case false =>
    go_wp2_with fail
    refine (rcollected_any l _ _ (HR.out.ext hb0.out) HS.out).mono ?_
    rw [Hc.out]
    rintro e w1 ⟨rfl, hb1⟩
    have HB1 := Lib.hid (below_ext hb0.out hb1)
    clear hb1
    go_wp2_with fail
    go_ret2
    exact add_nil (addX_1 r Hc.out) HB1.out
  case true =>
  go_wp2_with fail
  refine (rcollected_any l _ _ (HR.out.ext hb0.out) HS.out).mono ?_
  rw [Hc.out]
  rintro e w1 ⟨rfl, hb1⟩
  have HB1 := Lib.hid (below_ext hb0.out hb1)
  have HC1 := Lib.hid (hcb0.out.ext hb1)
  clear hb1
  obtain ⟨c0, c1, c2, c3, c4, c5⟩ := RpAt.of_cb HC1.out
  cases rb
  case false =>
    go_wp2_with fail
    refine (rcheck_f r Hrb Hr.out _).mono ?_
    rintro e w2 ⟨rfl, hb2⟩
    have HB2 := Lib.hid (below_ext HB1.out hb2)
    go_wp2_with fail
    go_ret2
    exact add_nil (addX_2 Hrb.out) HB2.out
  case true =>
  go_wp2_with fail
  refine (rcheck_t r Hrb Hr.out _).mono ?_
  rintro e w2 ⟨rfl, hb2⟩
  have HB2 := Lib.hid (below_ext HB1.out hb2)
  have HC2 := Lib.hid (HC1.out.ext hb2)
  clear hb2 c0 c1 c2 c3 c4 c5
  have hcl : l.length ≤ 1024 := by have := Hc.out; unfold colB at this; simp only [Bool.and_eq_true, decide_eq_true_eq] at this; exact this.2
  have Hlow : Hid (LowB l r.st r.no (lowN l r.st r.no)) := low_of_col r.st r.no l none (by have := Hc.out; unfold colB at this; simp only [Bool.and_eq_true] at this; exact this.1)
  obtain ⟨N, hN⟩ : ∃ n, lowN l r.st r.no = n := ⟨_, rfl⟩
  have HN := Lib.hid hN
  rw [hN] at Hlow
  clear hN
  go_wp2_with fail
  go_loopw [6] (fun i wr => RaRel l r N w i wr) (fun i _ => l.length - (intOf i).toNat)
  case atStart => exact ⟨0, by omega, rfl, HB2.out, HC2.out⟩
  case round =>
    clear HB1 HC1 HB2 HC2
    obtain ⟨k, hk, rfl, hb, hcb⟩ := hrel
    have HB := Lib.hid hb; have HC := Lib.hid hcb
    have Hk := Lib.hid hk
    clear hb hcb
    have hbS := (Below.refl wr.heap.size wr).drew
    have bk : (k : Int) ≤ 1024 := by have := Hlow.out.1; omega
    by_cases hlt : k < l.length
    · have tj : decide ((k : Int) < (l.length : Int)) = true := by simp; omega
      have tj' : (k : Int) < (l.length : Int) := by omega
      obtain ⟨x, hx⟩ : ∃ r, l[k]? = some r := ⟨_, List.getElem?_eq_getElem hlt⟩
      obtain ⟨b, off, rfl, hat⟩ := (HR.out.ext HB.out).at hlt
      have Hat := Lib.hid (hat k x hx)
      have Hx := Lib.hid hx
      obtain ⟨t, ht⟩ : ∃ t, decide (cmpP x.st x.no r.st r.no < 0) = t := ⟨_, rfl⟩
      have Ht := Lib.hid ht
      have Htk : Hid (t = decide (k < N)) := by show _ = _; rw [← ht]; exact Hlow.out.2 k x hx
      clear hat hx ht hk
      go_upto_region 4 with fail
      go_region_held3 (fun w' => (w'.cell? ⟨w.heap.size, 0, none⟩ = some (.int .i64 r.st) ∧ w'.cell? ⟨w.heap.size, 1, none⟩ = some (.int .i64 r.no) ∧ w'.cell? ⟨w.heap.size, 2, none⟩ = some (.int .i64 r.mi) ∧ w'.cell? ⟨w.heap.size, 3, none⟩ = some (.int .i64 r.ar) ∧ w'.cell? ⟨w.heap.size, 4, none⟩ = some (.string r.cl) ∧ w'.cell? ⟨w.heap.size, 5, none⟩ = some (.int .i64 r.vo)) ∧ w'.cell? ⟨b, off + k * 6, none⟩ = some (.int .i64 x.st) ∧ w'.cell? ⟨b, off + k * 6 + 1, none⟩ = some (.int .i64 x.no) ∧ w'.cell? ⟨b, off + k * 6 + 2, none⟩ = some (.int .i64 x.mi) ∧ w'.cell? ⟨b, off + k * 6 + 3, none⟩ = some (.int .i64 x.ar) ∧ w'.cell? ⟨b, off + k * 6 + 4, none⟩ = some (.string x.cl) ∧ w'.cell? ⟨b, off + k * 6 + 5, none⟩ = some (.int .i64 x.vo))
        (first
         | exact ⟨((RpAt.of_cb HC.out).ext hbS).six, (Hat.out.ext hbS).six⟩
         | go_keep)
        ((go_at_call 48; refine (before_any x r t _ Ht).mono ?_; rintro e w7 ⟨rfl, hb7⟩; have hbS : Below wr.heap.size wr w7 := by (first | exact below_ext hbS hb7 | exact below_undrew' hb7)))
      have HB2 := Lib.hid (below_ext HB.out hbS)
      have HC2 := Lib.hid (HC.out.ext hbS)
      have Hat2 := Lib.hid (Hat.out.ext hbS)
      clear hbS HB HC Hat
      cases t
      case true =>
        have hkn : k + 1 ≤ N := by have := Htk.out; simp at this; omega
        go_wp2_with fail
        go_roundw
        case rel => exact ⟨k + 1, hkn, by go_num, HB2.out, HC2.out⟩
        case measure => simp [intOf]; omega
      case false =>
        have hkn : Hid (N = k) := by show _ = _; have h1 := Htk.out; have h2 := Hk.out; simp at h1; omega
        rw [hkn.out] at HN
        obtain ⟨t2, ht2⟩ : ∃ t, decide (cmpP r.st r.no x.st x.no < 0) = t := ⟨_, rfl⟩
        have Ht2 := Lib.hid ht2
        have Hhit : Hid (hitB l r.st r.no (lowN l r.st r.no) = !t2) := by show _ = _; rw [HN.out, hit_of Hx.out Ht.out, ht2]
        clear ht2
        go_upto_region 6 with fail
        generalize hw5 : w7 = w5 at *
        have hbS := (Below.refl w5.heap.size w5).drew
        go_region_held3 (fun w' => (w'.cell? ⟨w.heap.size, 0, none⟩ = some (.int .i64 r.st) ∧ w'.cell? ⟨w.heap.size, 1, none⟩ = some (.int .i64 r.no) ∧ w'.cell? ⟨w.heap.size, 2, none⟩ = some (.int .i64 r.mi) ∧ w'.cell? ⟨w.heap.size, 3, none⟩ = some (.int .i64 r.ar) ∧ w'.cell? ⟨w.heap.size, 4, none⟩ = some (.string r.cl) ∧ w'.cell? ⟨w.heap.size, 5, none⟩ = some (.int .i64 r.vo)) ∧ w'.cell? ⟨b, off + k * 6, none⟩ = some (.int .i64 x.st) ∧ w'.cell? ⟨b, off + k * 6 + 1, none⟩ = some (.int .i64 x.no) ∧ w'.cell? ⟨b, off + k * 6 + 2, none⟩ = some (.int .i64 x.mi) ∧ w'.cell? ⟨b, off + k * 6 + 3, none⟩ = some (.int .i64 x.ar) ∧ w'.cell? ⟨b, off + k * 6 + 4, none⟩ = some (.string x.cl) ∧ w'.cell? ⟨b, off + k * 6 + 5, none⟩ = some (.int .i64 x.vo))
          (first
           | exact ⟨((RpAt.of_cb HC2.out).ext hbS).six, (Hat2.out.ext hbS).six⟩
           | go_keep)
          ((go_at_call 48; refine (before_any r x t2 _ Ht2).mono ?_; rintro e w8 ⟨rfl, hb7⟩; have hbS : Below w5.heap.size w5 w8 := by (first | exact below_ext hbS hb7 | exact below_undrew' hb7)))
        have HB3 := Lib.hid (below_ext HB2.out hbS)
        have HC3 := Lib.hid (HC2.out.ext hbS)
        have Hat3 := Lib.hid (Hat2.out.ext hbS)
        clear hbS HB2 HC2 Hat2 hw5
        cases t2
        case false =>
          obtain ⟨c0, c1, c2, c3, c4, c5⟩ := RpAt.of_cb HC3.out
          obtain ⟨d0, d1, d2, d3, d4, d5⟩ := Hat3.out
          obtain ⟨q, hq⟩ : ∃ q, rpEq x r = q := ⟨_, rfl⟩
          have Hq : Hid (eqAt l (lowN l r.st r.no) r = q) := by show _ = _; rw [HN.out, eqAt_some r Hx.out, hq]
          have heq : ∀ w : World, (Op.equalIn 10000 23 (.agg #[.int .i64 x.st, .int .i64 x.no, .int .i64 x.mi, .int .i64 x.ar, .string x.cl, .int .i64 x.vo]) (.agg #[.int .i64 r.st, .int .i64 r.no, .int .i64 r.mi, .int .i64 r.ar, .string r.cl, .int .i64 r.vo])).run Try.prog w = .ok q w := fun w => by rw [← hq]; exact eq_rp x r w
          clear hq
          go_upto_region 7 with fail
          go_quiet (fail)
          cases q
          case true =>
            go_wp2_with fail
            go_ret2
            exact add_list (addX_3 Hc.out Hrb.out Hhit.out Hq.out) (HR.out.ext (below_drewN'' HB3.out _)) (below_drewN'' HB3.out _)
          case false =>
            go_wp2_with fail
            go_ret2
            exact add_nil (addX_4 Hc.out Hrb.out Hhit.out Hq.out) (below_drewN'' HB3.out _)
        case true =>
          have Hhit : Hid (hitB l r.st r.no (lowN l r.st r.no) = false) := Hhit
          have hck : ¬ cap = k := by have := Hlc.out; omega
          generalize hw5 : w8 = w5 at *
          clear hw5
          have hkl : k ≤ l.length := by omega
          have hkc : k ≤ cap := by have := Hlc.out; omega
          have hkc' : (k : Int) ≤ (cap : Int) := by omega
          have Hsm : Hid (l.length ≤ 1024) := hcl
          have HDR : Hid ((some ⟨b, off + k * 6, none⟩ : Option Addr) = if cap = k then some ⟨b, off, none⟩ else Option.map (fun x : Addr => x.add (k * 6)) (some (⟨b, off, none⟩ : Addr))) := by show _ = _; rw [if_neg hck]; show _ = some (Addr.add ⟨b, off, none⟩ (k * 6)); rw [add0]
          by_cases hlen : l.length = 1024
          · have tl : ((l.length : Int) == 1024) = true := by rw [beq_iff_eq]; omega
            have HX := Lib.hid (addX_5 Hc.out Hrb.out Hhit.out hlen)
            clear hlen
            go_wp2_with fail
            go_ret2
            exact add_nil HX.out HB3.out
          · have tl : ((l.length : Int) == 1024) = false := by rw [beq_eq_false_iff_ne]; omega
            have HX := Lib.hid (addX_6 Hc.out Hrb.out Hhit.out hlen)
            rw [HN.out] at HX
            clear hlen
            go_upto_region 12 with fail
            clear tl
            have H0 := Lib.hid ((Below.refl w5.heap.size w5).drew)
            refine wp_region_noPanic ?_
            refine wp_region_held_drew (S := fun w' => w'.cell? ⟨w.heap.size, 0, none⟩ = some (.int .i64 r.st) ∧ w'.cell? ⟨w.heap.size, 1, none⟩ = some (.int .i64 r.no) ∧ w'.cell? ⟨w.heap.size, 2, none⟩ = some (.int .i64 r.mi) ∧ w'.cell? ⟨w.heap.size, 3, none⟩ = some (.int .i64 r.ar) ∧ w'.cell? ⟨w.heap.size, 4, none⟩ = some (.string r.cl) ∧ w'.cell? ⟨w.heap.size, 5, none⟩ = some (.int .i64 r.vo)) (by kernel_rfl) ((RpAt.of_cb HC3.out).ext H0.out).six (fun hHeld => ?_)
            have Hz0 : Hid (w5.heap.size ≤ w5.drew.heap.size) := Nat.le_refl _
            generalize w5.drew = W0 at *
            refine take_dst (some 53) (i := 1) (v := ?v2n1) rfl rfl (by kernel_rfl) (by kernel_rfl) (by kernel_rfl) (fun _ _ _ h => h) (Or.inl ⟨by rfl, fun wS hSw => ?hy2n1⟩) (by assumption) ?rest2n1
            case hy2n1 => (obtain ⟨s0, s1, s2, s3, s4, s5⟩ := hSw; go_simp; first | done | with_reducible rfl)
            try simp only [Act.put, List.setIfInBounds_toArray, List.set_cons_zero, List.set_cons_succ]
            refine take_dst (some 54) (i := 2) (v := ?v2n2) rfl rfl (by kernel_rfl) (by kernel_rfl) (by kernel_rfl) (fun _ _ _ h => h) (Or.inl ⟨by rfl, fun wS hSw => ?hy2n2⟩) (by assumption) ?rest2n2
            case hy2n2 => (obtain ⟨s0, s1, s2, s3, s4, s5⟩ := hSw; go_simp; first | done | with_reducible rfl)
            try simp only [Act.put, List.setIfInBounds_toArray, List.set_cons_zero, List.set_cons_succ]
            refine take_dst (some 55) (i := 3) (v := ?v2n3) rfl rfl (by kernel_rfl) (by kernel_rfl) (by kernel_rfl) (fun _ _ _ h => h) (Or.inl ⟨by rfl, fun wS hSw => ?hy2n3⟩) (by assumption) ?rest2n3
            case hy2n3 => (obtain ⟨s0, s1, s2, s3, s4, s5⟩ := hSw; go_simp; first | done | with_reducible rfl)
            try simp only [Act.put, List.setIfInBounds_toArray, List.set_cons_zero, List.set_cons_succ]
            refine take_dst (some 57) (i := 5) (v := ?v2n4) rfl rfl (by kernel_rfl) (by kernel_rfl) (by kernel_rfl) (fun _ _ _ h => h) (Or.inl ⟨by rfl, fun wS hSw => ?hy2n4⟩) (by assumption) ?rest2n4
            case hy2n4 => (obtain ⟨s0, s1, s2, s3, s4, s5⟩ := hSw; go_simp; first | done | with_reducible rfl)
            try simp only [Act.put, List.setIfInBounds_toArray, List.set_cons_zero, List.set_cons_succ]
            refine take_dst (some 60) (i := 8) (v := ?v2n5) rfl rfl (by kernel_rfl) (by kernel_rfl) (by kernel_rfl) (fun _ _ _ h => h) (Or.inl ⟨by rfl, fun wS hSw => ?hy2n5⟩) (by assumption) ?rest2n5
            case hy2n5 => (obtain ⟨s0, s1, s2, s3, s4, s5⟩ := hSw; go_simp; first | done | with_reducible rfl)
            try simp only [Act.put, List.setIfInBounds_toArray, List.set_cons_zero, List.set_cons_succ]
            refine take_dst (some 61) (i := 9) (v := ?v2n6) rfl rfl (by kernel_rfl) (by kernel_rfl) (by kernel_rfl) (fun _ _ _ h => h) (Or.inl ⟨by rfl, fun wS hSw => ?hy2n6⟩) (by assumption) ?rest2n6
            case hy2n6 => (obtain ⟨s0, s1, s2, s3, s4, s5⟩ := hSw; go_simp; first | done | with_reducible rfl)
            try simp only [Act.put, List.setIfInBounds_toArray, List.set_cons_zero, List.set_cons_succ]
            refine take_dst (some 62) (i := 10) (v := ?v2n7) rfl rfl (by kernel_rfl) (by kernel_rfl) (by kernel_rfl) (fun _ _ _ h => h) (Or.inl ⟨by rfl, fun wS hSw => ?hy2n7⟩) (by assumption) ?rest2n7
            case hy2n7 => (obtain ⟨s0, s1, s2, s3, s4, s5⟩ := hSw; go_simp; first | done | with_reducible rfl)
            try simp only [Act.put, List.setIfInBounds_toArray, List.set_cons_zero, List.set_cons_succ]
            have Hzz0 : Hid (W0.heap.size ≤ W0.heap.size) := Nat.le_refl _
            refine wpAnyH_ready (rs := [0, 6]) (by kernel_rfl) (by simp) ?_
            refine AllReadyH.cons rfl (fun K hK => ?_) (AllReadyH.cons rfl (fun K hK => ?_) AllReadyH.nil)
            · skip
              go_simp
              have HO1 := Lib.hid (made_at W0.heap.size W0 (by have := Hzz0.out; omega))
              have H1 := Lib.hid (H0.out.alloc H0.out.size (.cells #[] 23))
              have hWs : (W0.alloc (.cells #[] 23)).heap.size = W0.heap.size + 1 := by simp
              have Hzz1 : Hid (W0.heap.size ≤ (W0.alloc (.cells #[] 23)).heap.size) := by show _ ≤ _; have := Hzz0.out; omega
              refine hK.out _ _ ((RpAt.of_cb HC3.out).ext H1.out).six (fun hHeld => ?_)
              clear hK K hWs
              generalize W0.alloc (.cells #[] 23) = W1 at *
              try simp only [Act.put, List.setIfInBounds_toArray, List.set_cons_zero, List.set_cons_succ]
              refine wpAnyH_ready (rs := [4, 6]) (by kernel_rfl) (by simp) ?_
              refine AllReadyH.cons rfl (fun K hK => ?_) (AllReadyH.cons rfl (fun K hK => ?_) AllReadyH.nil)
              · skip
                refine step_append_x (e := 23) (z := (.agg #[.int .i64 0, .int .i64 0, .int .i64 0, .int .i64 0, .string ⟨#[]⟩, .int .i64 0])) (size := 6) (bytes := 56) Try.underlying39 rp_info rfl rfl _ _ rfl W0.heap.size _ _ _ rfl HO1.out _ _ _ rfl (src_take _ (HR.out.ext (below_ext HB3.out H1.out)) (by omega)) (by unfold maxLen; have := Hsm.out; simp only [List.length_nil, List.length_append, List.length_take, List.length_cons]; omega) (by have := Hsm.out; simp only [List.length_nil, List.length_append, List.length_take, List.length_cons]; omega) (by exact Hzz1.out) ?_
                intro v2 W2 hown hg hnx
                have HO2 : Hid (OwnR W2 W0.heap.size v2 (l.take k)) := own_app hown (by omega)
                have H2 := Lib.hid (below_own (v := _) H1.out HO1.out hg Hz0.out)
                have Hzz2 : Hid (W0.heap.size ≤ W2.heap.size) := Nat.le_trans Hzz1.out hg.size
                refine hK.out (Act.put _ (some 56) v2) W2 ((RpAt.of_cb HC3.out).ext H2.out).six (fun hHeld => ?_)
                clear hK K hown hg hnx
                try simp only [Act.put, List.setIfInBounds_toArray, List.set_cons_zero, List.set_cons_succ]
                refine wpAnyH_ready (rs := [6]) (by kernel_rfl) (by simp) ?_
                refine AllReadyH.cons rfl (fun K hK => ?_) AllReadyH.nil
                go_simp
                have HA3 : Hid (CB (W2.alloc (.cells #[.int .i64 r.st, .int .i64 r.no, .int .i64 r.mi, .int .i64 r.ar, .string r.cl, .int .i64 r.vo] 23)) W2.heap.size 23 r.cells) := CB.new W2 _ _
                have H3 := Lib.hid (H2.out.alloc H2.out.size (.cells #[.int .i64 r.st, .int .i64 r.no, .int .i64 r.mi, .int .i64 r.ar, .string r.cl, .int .i64 r.vo] 23))
                have hWs : (W2.alloc (.cells #[.int .i64 r.st, .int .i64 r.no, .int .i64 r.mi, .int .i64 r.ar, .string r.cl, .int .i64 r.vo] 23)).heap.size = W2.heap.size + 1 := by simp
                have Hzz3 : Hid (W0.heap.size ≤ (W2.alloc (.cells #[.int .i64 r.st, .int .i64 r.no, .int .i64 r.mi, .int .i64 r.ar, .string r.cl, .int .i64 r.vo] 23)).heap.size) := by show _ ≤ _; have := Hzz2.out; omega
                have HO3 := Lib.hid (World.ownsRow.alloc HO2.out (.cells #[.int .i64 r.st, .int .i64 r.no, .int .i64 r.mi, .int .i64 r.ar, .string r.cl, .int .i64 r.vo] 23))
                refine hK.out _ _ ((RpAt.of_cb HC3.out).ext H3.out).six (fun hHeld => ?_)
                clear hK K hWs
                generalize W2.alloc (.cells #[.int .i64 r.st, .int .i64 r.no, .int .i64 r.mi, .int .i64 r.ar, .string r.cl, .int .i64 r.vo] 23) = W3 at *
                try simp only [Act.put, List.setIfInBounds_toArray, List.set_cons_zero, List.set_cons_succ]
                refine wpAnyH_ready (rs := [7]) (by kernel_rfl) (by simp) ?_
                refine AllReadyH.cons rfl (fun K hK => ?_) AllReadyH.nil
                refine step_append_x (e := 23) (z := (.agg #[.int .i64 0, .int .i64 0, .int .i64 0, .int .i64 0, .string ⟨#[]⟩, .int .i64 0])) (size := 6) (bytes := 56) Try.underlying39 rp_info rfl rfl _ _ rfl W0.heap.size _ _ _ rfl HO3.out _ _ _ rfl (src_r HA3.out) (by unfold maxLen; have := Hsm.out; simp only [List.length_nil, List.length_append, List.length_take, List.length_cons]; omega) (by have := Hsm.out; simp only [List.length_nil, List.length_append, List.length_take, List.length_cons]; omega) (by exact Hzz3.out) ?_
                intro v4 W4 hown hg hnx
                have HO4 : Hid (OwnR W4 W0.heap.size v4 (l.take k ++ [r])) := own_r hown (by omega)
                have H4 := Lib.hid (below_own (v := _) H3.out HO3.out hg Hz0.out)
                have Hzz4 : Hid (W0.heap.size ≤ W4.heap.size) := Nat.le_trans Hzz3.out hg.size
                refine hK.out (Act.put _ (some 59) v4) W4 ((RpAt.of_cb HC3.out).ext H4.out).six (fun hHeld => ?_)
                clear hK K hown hg hnx
                try simp only [Act.put, List.setIfInBounds_toArray, List.set_cons_zero, List.set_cons_succ]
                refine wpAnyH_ready (rs := [11]) (by kernel_rfl) (by simp) ?_
                refine AllReadyH.cons rfl (fun K hK => ?_) AllReadyH.nil
                refine step_append_x (e := 23) (z := (.agg #[.int .i64 0, .int .i64 0, .int .i64 0, .int .i64 0, .string ⟨#[]⟩, .int .i64 0])) (size := 6) (bytes := 56) Try.underlying39 rp_info rfl rfl _ _ rfl W0.heap.size _ _ _ rfl HO4.out _ _ _ rfl (src_drop _ _ (HR.out.ext (below_ext HB3.out H4.out)) (by omega) (by omega) HDR.out Hlc.out) (by unfold maxLen; have := Hsm.out; simp only [List.length_nil, List.length_append, List.length_take, List.length_cons]; omega) (by have := Hsm.out; simp only [List.length_nil, List.length_append, List.length_take, List.length_cons]; omega) (by exact Hzz4.out) ?_
                intro v5 W5 hown hg hnx
                have HO5 : Hid (OwnR W5 W0.heap.size v5 (insL l k r)) := own_end hown (by omega)
                have H5 := Lib.hid (below_own (v := _) H4.out HO4.out hg Hz0.out)
                have Hzz5 : Hid (W0.heap.size ≤ W5.heap.size) := Nat.le_trans Hzz4.out hg.size
                refine hK.out (Act.put _ (some 63) v5) W5 ((RpAt.of_cb HC3.out).ext H5.out).six (fun hHeld => ?_)
                clear hK K hown hg hnx
                try simp only [Act.put, List.setIfInBounds_toArray, List.set_cons_zero, List.set_cons_succ]
                refine take_dst (some 4) (i := 12) (v := ?v2n8) rfl rfl (by kernel_rfl) (by kernel_rfl) (by kernel_rfl) (fun _ _ _ h => h) (Or.inl ⟨by rfl, fun wS hSw => ?hy2n8⟩) (by assumption) ?rest2n8
                case hy2n8 => (obtain ⟨s0, s1, s2, s3, s4, s5⟩ := hSw; go_simp; first | done | with_reducible rfl)
                try simp only [Act.put, List.setIfInBounds_toArray, List.set_cons_zero, List.set_cons_succ]
                refine take_dst (some 5) (i := 13) (v := ?v2n9) rfl rfl (by kernel_rfl) (by kernel_rfl) (by kernel_rfl) (fun _ _ _ h => h) (Or.inl ⟨by rfl, fun wS hSw => ?hy2n9⟩) (by assumption) ?rest2n9
                case hy2n9 => (obtain ⟨s0, s1, s2, s3, s4, s5⟩ := hSw; go_simp; first | done | with_reducible rfl)
                try simp only [Act.put, List.setIfInBounds_toArray, List.set_cons_zero, List.set_cons_succ]
                refine wpAnyH_done (by kernel_rfl) ?_ _
                refine NoPanic.normal ?_
                go_wp2_with fail
                trace_state
                all_goals (go_ret2; exact add_list HX.out HO5.out.rd (below_ext HB3.out H5.out))
              · skip
                go_simp
                have HA2 : Hid (CB (W1.alloc (.cells #[.int .i64 r.st, .int .i64 r.no, .int .i64 r.mi, .int .i64 r.ar, .string r.cl, .int .i64 r.vo] 23)) W1.heap.size 23 r.cells) := CB.new W1 _ _
                have H2 := Lib.hid (H1.out.alloc H1.out.size (.cells #[.int .i64 r.st, .int .i64 r.no, .int .i64 r.mi, .int .i64 r.ar, .string r.cl, .int .i64 r.vo] 23))
                have hWs : (W1.alloc (.cells #[.int .i64 r.st, .int .i64 r.no, .int .i64 r.mi, .int .i64 r.ar, .string r.cl, .int .i64 r.vo] 23)).heap.size = W1.heap.size + 1 := by simp
                have Hzz2 : Hid (W0.heap.size ≤ (W1.alloc (.cells #[.int .i64 r.st, .int .i64 r.no, .int .i64 r.mi, .int .i64 r.ar, .string r.cl, .int .i64 r.vo] 23)).heap.size) := by show _ ≤ _; have := Hzz1.out; omega
                have HO2 := Lib.hid (World.ownsRow.alloc HO1.out (.cells #[.int .i64 r.st, .int .i64 r.no, .int .i64 r.mi, .int .i64 r.ar, .string r.cl, .int .i64 r.vo] 23))
                have HD2 : Hid ((Value.slice (some ⟨W0.heap.size, 0, none⟩) 0 0).ownBlock ≠ some W1.heap.size) := by show _ ≠ _; intro h; exact absurd (HO1.out.lt _ h).2 (Nat.lt_irrefl _)
                refine hK.out _ _ ((RpAt.of_cb HC3.out).ext H2.out).six (fun hHeld => ?_)
                clear hK K hWs
                generalize W1.alloc (.cells #[.int .i64 r.st, .int .i64 r.no, .int .i64 r.mi, .int .i64 r.ar, .string r.cl, .int .i64 r.vo] 23) = W2 at *
                try simp only [Act.put, List.setIfInBounds_toArray, List.set_cons_zero, List.set_cons_succ]
                refine wpAnyH_ready (rs := [4]) (by kernel_rfl) (by simp) ?_
                refine AllReadyH.cons rfl (fun K hK => ?_) AllReadyH.nil
                refine step_append_x (e := 23) (z := (.agg #[.int .i64 0, .int .i64 0, .int .i64 0, .int .i64 0, .string ⟨#[]⟩, .int .i64 0])) (size := 6) (bytes := 56) Try.underlying39 rp_info rfl rfl _ _ rfl W0.heap.size _ _ _ rfl HO2.out _ _ _ rfl (src_take _ (HR.out.ext (below_ext HB3.out H2.out)) (by omega)) (by unfold maxLen; have := Hsm.out; simp only [List.length_nil, List.length_append, List.length_take, List.length_cons]; omega) (by have := Hsm.out; simp only [List.length_nil, List.length_append, List.length_take, List.length_cons]; omega) (by exact Hzz2.out) ?_
                intro v3 W3 hown hg hnx
                have HO3 : Hid (OwnR W3 W0.heap.size v3 (l.take k)) := own_app hown (by omega)
                have H3 := Lib.hid (below_own (v := _) H2.out HO2.out hg Hz0.out)
                have Hzz3 : Hid (W0.heap.size ≤ W3.heap.size) := Nat.le_trans Hzz2.out hg.size
                have HA3 := Lib.hid (CB.keep HA2.out (hg.block _ HA2.out.lt (fun h => HD2.out h.symm)))
                refine hK.out (Act.put _ (some 56) v3) W3 ((RpAt.of_cb HC3.out).ext H3.out).six (fun hHeld => ?_)
                clear hK K hown hg hnx
                try simp only [Act.put, List.setIfInBounds_toArray, List.set_cons_zero, List.set_cons_succ]
                refine wpAnyH_ready (rs := [7]) (by kernel_rfl) (by simp) ?_
                refine AllReadyH.cons rfl (fun K hK => ?_) AllReadyH.nil
                refine step_append_x (e := 23) (z := (.agg #[.int .i64 0, .int .i64 0, .int .i64 0, .int .i64 0, .string ⟨#[]⟩, .int .i64 0])) (size := 6) (bytes := 56) Try.underlying39 rp_info rfl rfl _ _ rfl W0.heap.size _ _ _ rfl HO3.out _ _ _ rfl (src_r HA3.out) (by unfold maxLen; have := Hsm.out; simp only [List.length_nil, List.length_append, List.length_take, List.length_cons]; omega) (by have := Hsm.out; simp only [List.length_nil, List.length_append, List.length_take, List.length_cons]; omega) (by exact Hzz3.out) ?_
                intro v4 W4 hown hg hnx
                have HO4 : Hid (OwnR W4 W0.heap.size v4 (l.take k ++ [r])) := own_r hown (by omega)
                have H4 := Lib.hid (below_own (v := _) H3.out HO3.out hg Hz0.out)
                have Hzz4 : Hid (W0.heap.size ≤ W4.heap.size) := Nat.le_trans Hzz3.out hg.size
                refine hK.out (Act.put _ (some 59) v4) W4 ((RpAt.of_cb HC3.out).ext H4.out).six (fun hHeld => ?_)
                clear hK K hown hg hnx
                try simp only [Act.put, List.setIfInBounds_toArray, List.set_cons_zero, List.set_cons_succ]
                refine wpAnyH_ready (rs := [11]) (by kernel_rfl) (by simp) ?_
                refine AllReadyH.cons rfl (fun K hK => ?_) AllReadyH.nil
                refine step_append_x (e := 23) (z := (.agg #[.int .i64 0, .int .i64 0, .int .i64 0, .int .i64 0, .string ⟨#[]⟩, .int .i64 0])) (size := 6) (bytes := 56) Try.underlying39 rp_info rfl rfl _ _ rfl W0.heap.size _ _ _ rfl HO4.out _ _ _ rfl (src_drop _ _ (HR.out.ext (below_ext HB3.out H4.out)) (by omega) (by omega) HDR.out Hlc.out) (by unfold maxLen; have := Hsm.out; simp only [List.length_nil, List.length_append, List.length_take, List.length_cons]; omega) (by have := Hsm.out; simp only [List.length_nil, List.length_append, List.length_take, List.length_cons]; omega) (by exact Hzz4.out) ?_
                intro v5 W5 hown hg hnx
                have HO5 : Hid (OwnR W5 W0.heap.size v5 (insL l k r)) := own_end hown (by omega)
                have H5 := Lib.hid (below_own (v := _) H4.out HO4.out hg Hz0.out)
                have Hzz5 : Hid (W0.heap.size ≤ W5.heap.size) := Nat.le_trans Hzz4.out hg.size
                refine hK.out (Act.put _ (some 63) v5) W5 ((RpAt.of_cb HC3.out).ext H5.out).six (fun hHeld => ?_)
                clear hK K hown hg hnx
                try simp only [Act.put, List.setIfInBounds_toArray, List.set_cons_zero, List.set_cons_succ]
                refine take_dst (some 4) (i := 12) (v := ?v2n10) rfl rfl (by kernel_rfl) (by kernel_rfl) (by kernel_rfl) (fun _ _ _ h => h) (Or.inl ⟨by rfl, fun wS hSw => ?hy2n10⟩) (by assumption) ?rest2n10
                case hy2n10 => (obtain ⟨s0, s1, s2, s3, s4, s5⟩ := hSw; go_simp; first | done | with_reducible rfl)
                try simp only [Act.put, List.setIfInBounds_toArray, List.set_cons_zero, List.set_cons_succ]
                refine take_dst (some 5) (i := 13) (v := ?v2n11) rfl rfl (by kernel_rfl) (by kernel_rfl) (by kernel_rfl) (fun _ _ _ h => h) (Or.inl ⟨by rfl, fun wS hSw => ?hy2n11⟩) (by assumption) ?rest2n11
                case hy2n11 => (obtain ⟨s0, s1, s2, s3, s4, s5⟩ := hSw; go_simp; first | done | with_reducible rfl)
                try simp only [Act.put, List.setIfInBounds_toArray, List.set_cons_zero, List.set_cons_succ]
                refine wpAnyH_done (by kernel_rfl) ?_ _
                refine NoPanic.normal ?_
                go_wp2_with fail
                trace_state
                all_goals (go_ret2; exact add_list HX.out HO5.out.rd (below_ext HB3.out H5.out))
            · skip
              go_simp
              have HA1 : Hid (CB (W0.alloc (.cells #[.int .i64 r.st, .int .i64 r.no, .int .i64 r.mi, .int .i64 r.ar, .string r.cl, .int .i64 r.vo] 23)) W0.heap.size 23 r.cells) := CB.new W0 _ _
              have H1 := Lib.hid (H0.out.alloc H0.out.size (.cells #[.int .i64 r.st, .int .i64 r.no, .int .i64 r.mi, .int .i64 r.ar, .string r.cl, .int .i64 r.vo] 23))
              have hWs : (W0.alloc (.cells #[.int .i64 r.st, .int .i64 r.no, .int .i64 r.mi, .int .i64 r.ar, .string r.cl, .int .i64 r.vo] 23)).heap.size = W0.heap.size + 1 := by simp
              have Hzz1 : Hid (W0.heap.size ≤ (W0.alloc (.cells #[.int .i64 r.st, .int .i64 r.no, .int .i64 r.mi, .int .i64 r.ar, .string r.cl, .int .i64 r.vo] 23)).heap.size) := by show _ ≤ _; have := Hzz0.out; omega
              refine hK.out _ _ ((RpAt.of_cb HC3.out).ext H1.out).six (fun hHeld => ?_)
              clear hK K hWs
              generalize W0.alloc (.cells #[.int .i64 r.st, .int .i64 r.no, .int .i64 r.mi, .int .i64 r.ar, .string r.cl, .int .i64 r.vo] 23) = W1 at *
              try simp only [Act.put, List.setIfInBounds_toArray, List.set_cons_zero, List.set_cons_succ]
              refine wpAnyH_ready (rs := [0]) (by kernel_rfl) (by simp) ?_
              refine AllReadyH.cons rfl (fun K hK => ?_) AllReadyH.nil
              go_simp
              have HO2 := Lib.hid (made_at W0.heap.size W1 (by have := Hzz1.out; omega))
              have HA2 := Lib.hid (HA1.out.alloc (.cells #[] 23))
              have H2 := Lib.hid (H1.out.alloc H1.out.size (.cells #[] 23))
              have hWs : (W1.alloc (.cells #[] 23)).heap.size = W1.heap.size + 1 := by simp
              have Hzz2 : Hid (W0.heap.size ≤ (W1.alloc (.cells #[] 23)).heap.size) := by show _ ≤ _; have := Hzz1.out; omega
              have HD2 : Hid ((Value.slice (some ⟨W1.heap.size, 0, none⟩) 0 0).ownBlock ≠ some W0.heap.size) := by show some _ ≠ some _; intro h; exact absurd (Option.some.inj h) (Nat.ne_of_gt HA1.out.lt)
              refine hK.out _ _ ((RpAt.of_cb HC3.out).ext H2.out).six (fun hHeld => ?_)
              clear hK K hWs
              generalize W1.alloc (.cells #[] 23) = W2 at *
              try simp only [Act.put, List.setIfInBounds_toArray, List.set_cons_zero, List.set_cons_succ]
              refine wpAnyH_ready (rs := [4]) (by kernel_rfl) (by simp) ?_
              refine AllReadyH.cons rfl (fun K hK => ?_) AllReadyH.nil
              refine step_append_x (e := 23) (z := (.agg #[.int .i64 0, .int .i64 0, .int .i64 0, .int .i64 0, .string ⟨#[]⟩, .int .i64 0])) (size := 6) (bytes := 56) Try.underlying39 rp_info rfl rfl _ _ rfl W0.heap.size _ _ _ rfl HO2.out _ _ _ rfl (src_take _ (HR.out.ext (below_ext HB3.out H2.out)) (by omega)) (by unfold maxLen; have := Hsm.out; simp only [List.length_nil, List.length_append, List.length_take, List.length_cons]; omega) (by have := Hsm.out; simp only [List.length_nil, List.length_append, List.length_take, List.length_cons]; omega) (by exact Hzz2.out) ?_
              intro v3 W3 hown hg hnx
              have HO3 : Hid (OwnR W3 W0.heap.size v3 (l.take k)) := own_app hown (by omega)
              have H3 := Lib.hid (below_own (v := _) H2.out HO2.out hg Hz0.out)
              have Hzz3 : Hid (W0.heap.size ≤ W3.heap.size) := Nat.le_trans Hzz2.out hg.size
              have HA3 := Lib.hid (CB.keep HA2.out (hg.block _ HA2.out.lt (fun h => HD2.out h.symm)))
              refine hK.out (Act.put _ (some 56) v3) W3 ((RpAt.of_cb HC3.out).ext H3.out).six (fun hHeld => ?_)
              clear hK K hown hg hnx
              try simp only [Act.put, List.setIfInBounds_toArray, List.set_cons_zero, List.set_cons_succ]
              refine wpAnyH_ready (rs := [7]) (by kernel_rfl) (by simp) ?_
              refine AllReadyH.cons rfl (fun K hK => ?_) AllReadyH.nil
              refine step_append_x (e := 23) (z := (.agg #[.int .i64 0, .int .i64 0, .int .i64 0, .int .i64 0, .string ⟨#[]⟩, .int .i64 0])) (size := 6) (bytes := 56) Try.underlying39 rp_info rfl rfl _ _ rfl W0.heap.size _ _ _ rfl HO3.out _ _ _ rfl (src_r HA3.out) (by unfold maxLen; have := Hsm.out; simp only [List.length_nil, List.length_append, List.length_take, List.length_cons]; omega) (by have := Hsm.out; simp only [List.length_nil, List.length_append, List.length_take, List.length_cons]; omega) (by exact Hzz3.out) ?_
              intro v4 W4 hown hg hnx
              have HO4 : Hid (OwnR W4 W0.heap.size v4 (l.take k ++ [r])) := own_r hown (by omega)
              have H4 := Lib.hid (below_own (v := _) H3.out HO3.out hg Hz0.out)
              have Hzz4 : Hid (W0.heap.size ≤ W4.heap.size) := Nat.le_trans Hzz3.out hg.size
              refine hK.out (Act.put _ (some 59) v4) W4 ((RpAt.of_cb HC3.out).ext H4.out).six (fun hHeld => ?_)
              clear hK K hown hg hnx
              try simp only [Act.put, List.setIfInBounds_toArray, List.set_cons_zero, List.set_cons_succ]
              refine wpAnyH_ready (rs := [11]) (by kernel_rfl) (by simp) ?_
              refine AllReadyH.cons rfl (fun K hK => ?_) AllReadyH.nil
              refine step_append_x (e := 23) (z := (.agg #[.int .i64 0, .int .i64 0, .int .i64 0, .int .i64 0, .string ⟨#[]⟩, .int .i64 0])) (size := 6) (bytes := 56) Try.underlying39 rp_info rfl rfl _ _ rfl W0.heap.size _ _ _ rfl HO4.out _ _ _ rfl (src_drop _ _ (HR.out.ext (below_ext HB3.out H4.out)) (by omega) (by omega) HDR.out Hlc.out) (by unfold maxLen; have := Hsm.out; simp only [List.length_nil, List.length_append, List.length_take, List.length_cons]; omega) (by have := Hsm.out; simp only [List.length_nil, List.length_append, List.length_take, List.length_cons]; omega) (by exact Hzz4.out) ?_
              intro v5 W5 hown hg hnx
              have HO5 : Hid (OwnR W5 W0.heap.size v5 (insL l k r)) := own_end hown (by omega)
              have H5 := Lib.hid (below_own (v := _) H4.out HO4.out hg Hz0.out)
              have Hzz5 : Hid (W0.heap.size ≤ W5.heap.size) := Nat.le_trans Hzz4.out hg.size
              refine hK.out (Act.put _ (some 63) v5) W5 ((RpAt.of_cb HC3.out).ext H5.out).six (fun hHeld => ?_)
              clear hK K hown hg hnx
              try simp only [Act.put, List.setIfInBounds_toArray, List.set_cons_zero, List.set_cons_succ]
              refine take_dst (some 4) (i := 12) (v := ?v2n12) rfl rfl (by kernel_rfl) (by kernel_rfl) (by kernel_rfl) (fun _ _ _ h => h) (Or.inl ⟨by rfl, fun wS hSw => ?hy2n12⟩) (by assumption) ?rest2n12
              case hy2n12 => (obtain ⟨s0, s1, s2, s3, s4, s5⟩ := hSw; go_simp; first | done | with_reducible rfl)
              try simp only [Act.put, List.setIfInBounds_toArray, List.set_cons_zero, List.set_cons_succ]
              refine take_dst (some 5) (i := 13) (v := ?v2n13) rfl rfl (by kernel_rfl) (by kernel_rfl) (by kernel_rfl) (fun _ _ _ h => h) (Or.inl ⟨by rfl, fun wS hSw => ?hy2n13⟩) (by assumption) ?rest2n13
              case hy2n13 => (obtain ⟨s0, s1, s2, s3, s4, s5⟩ := hSw; go_simp; first | done | with_reducible rfl)
              try simp only [Act.put, List.setIfInBounds_toArray, List.set_cons_zero, List.set_cons_succ]
              refine wpAnyH_done (by kernel_rfl) ?_ _
              refine NoPanic.normal ?_
              go_wp2_with fail
              trace_state
              all_goals (go_ret2; exact add_list HX.out HO5.out.rd (below_ext HB3.out H5.out))
    · obtain rfl : k = l.length := by have := Hlow.out.1; omega
      have tj : decide ((l.length : Int) < (l.length : Int)) = false := by simp
      have hkn : Hid (N = l.length) := by show _ = _; have h1 := Hlow.out.1; omega
      rw [hkn.out] at HN
      have Hhit : Hid (hitB l r.st r.no (lowN l r.st r.no) = false) := by show _ = _; rw [HN.out]; exact hit_none (Nat.le_refl _)
      clear hk Hk
      go_upto_region 4 with fail
      go_quiet (fail)
      have HB2 := Lib.hid (below_drewN'' HB.out nq)
      have HC2 := Lib.hid (HC.out.keep (w' := wr.drewN nq) rfl)
      clear HB HC hbS
      generalize wr.drewN nq = w4 at *
      go_upto_region 6 with fail
      go_quiet (fail)
      have HB3 := Lib.hid (below_drewN'' HB2.out nq)
      have HC3 := Lib.hid (HC2.out.keep (w' := w4.drewN nq) rfl)
      clear HB2 HC2
      generalize w4.drewN nq = w5 at *
      have hkl : l.length ≤ l.length := by omega
      have hkc : l.length ≤ cap := by have := Hlc.out; omega
      have hkc' : (l.length : Int) ≤ (cap : Int) := by omega
      have Hsm : Hid (l.length ≤ 1024) := hcl
      have HDR : Hid ((if cap = l.length then oa else Option.map (fun x => x.add (l.length * 6)) oa) = if cap = l.length then oa else Option.map (fun x => x.add (l.length * 6)) oa) := rfl
      by_cases hlen : l.length = 1024
      · have tl : ((l.length : Int) == 1024) = true := by rw [beq_iff_eq]; omega
        have HX := Lib.hid (addX_5 Hc.out Hrb.out Hhit.out hlen)
        clear hlen
        go_wp2_with fail
        go_ret2
        exact add_nil HX.out HB3.out
      · have tl : ((l.length : Int) == 1024) = false := by rw [beq_eq_false_iff_ne]; omega
        have HX := Lib.hid (addX_6 Hc.out Hrb.out Hhit.out hlen)
        rw [HN.out] at HX
        clear hlen
        go_upto_region 12 with fail
        clear tl
        have H0 := Lib.hid ((Below.refl w5.heap.size w5).drew)
        refine wp_region_noPanic ?_
        refine wp_region_held_drew (S := fun w' => w'.cell? ⟨w.heap.size, 0, none⟩ = some (.int .i64 r.st) ∧ w'.cell? ⟨w.heap.size, 1, none⟩ = some (.int .i64 r.no) ∧ w'.cell? ⟨w.heap.size, 2, none⟩ = some (.int .i64 r.mi) ∧ w'.cell? ⟨w.heap.size, 3, none⟩ = some (.int .i64 r.ar) ∧ w'.cell? ⟨w.heap.size, 4, none⟩ = some (.string r.cl) ∧ w'.cell? ⟨w.heap.size, 5, none⟩ = some (.int .i64 r.vo)) (by kernel_rfl) ((RpAt.of_cb HC3.out).ext H0.out).six (fun hHeld => ?_)
        have Hz0 : Hid (w5.heap.size ≤ w5.drew.heap.size) := Nat.le_refl _
        generalize w5.drew = W0 at *
        refine take_dst (some 53) (i := 1) (v := ?v3n1) rfl rfl (by kernel_rfl) (by kernel_rfl) (by kernel_rfl) (fun _ _ _ h => h) (Or.inl ⟨by rfl, fun wS hSw => ?hy3n1⟩) (by assumption) ?rest3n1
        case hy3n1 => (obtain ⟨s0, s1, s2, s3, s4, s5⟩ := hSw; go_simp; first | done | with_reducible rfl)
        try simp only [Act.put, List.setIfInBounds_toArray, List.set_cons_zero, List.set_cons_succ]
        refine take_dst (some 54) (i := 2) (v := ?v3n2) rfl rfl (by kernel_rfl) (by kernel_rfl) (by kernel_rfl) (fun _ _ _ h => h) (Or.inl ⟨by rfl, fun wS hSw => ?hy3n2⟩) (by assumption) ?rest3n2
        case hy3n2 => (obtain ⟨s0, s1, s2, s3, s4, s5⟩ := hSw; go_simp; first | done | with_reducible rfl)
        try simp only [Act.put, List.setIfInBounds_toArray, List.set_cons_zero, List.set_cons_succ]
        refine take_dst (some 55) (i := 3) (v := ?v3n3) rfl rfl (by kernel_rfl) (by kernel_rfl) (by kernel_rfl) (fun _ _ _ h => h) (Or.inl ⟨by rfl, fun wS hSw => ?hy3n3⟩) (by assumption) ?rest3n3
        case hy3n3 => (obtain ⟨s0, s1, s2, s3, s4, s5⟩ := hSw; go_simp; first | done | with_reducible rfl)
        try simp only [Act.put, List.setIfInBounds_toArray, List.set_cons_zero, List.set_cons_succ]
        refine take_dst (some 57) (i := 5) (v := ?v3n4) rfl rfl (by kernel_rfl) (by kernel_rfl) (by kernel_rfl) (fun _ _ _ h => h) (Or.inl ⟨by rfl, fun wS hSw => ?hy3n4⟩) (by assumption) ?rest3n4
        case hy3n4 => (obtain ⟨s0, s1, s2, s3, s4, s5⟩ := hSw; go_simp; first | done | with_reducible rfl)
        try simp only [Act.put, List.setIfInBounds_toArray, List.set_cons_zero, List.set_cons_succ]
        refine take_dst (some 60) (i := 8) (v := ?v3n5) rfl rfl (by kernel_rfl) (by kernel_rfl) (by kernel_rfl) (fun _ _ _ h => h) (Or.inl ⟨by rfl, fun wS hSw => ?hy3n5⟩) (by assumption) ?rest3n5
        case hy3n5 => (obtain ⟨s0, s1, s2, s3, s4, s5⟩ := hSw; go_simp; first | done | with_reducible rfl)
        try simp only [Act.put, List.setIfInBounds_toArray, List.set_cons_zero, List.set_cons_succ]
        refine take_dst (some 61) (i := 9) (v := ?v3n6) rfl rfl (by kernel_rfl) (by kernel_rfl) (by kernel_rfl) (fun _ _ _ h => h) (Or.inl ⟨by rfl, fun wS hSw => ?hy3n6⟩) (by assumption) ?rest3n6
        case hy3n6 => (obtain ⟨s0, s1, s2, s3, s4, s5⟩ := hSw; go_simp; first | done | with_reducible rfl)
        try simp only [Act.put, List.setIfInBounds_toArray, List.set_cons_zero, List.set_cons_succ]
        refine take_dst (some 62) (i := 10) (v := ?v3n7) rfl rfl (by kernel_rfl) (by kernel_rfl) (by kernel_rfl) (fun _ _ _ h => h) (Or.inl ⟨by rfl, fun wS hSw => ?hy3n7⟩) (by assumption) ?rest3n7
        case hy3n7 => (obtain ⟨s0, s1, s2, s3, s4, s5⟩ := hSw; go_simp; first | done | with_reducible rfl)
        try simp only [Act.put, List.setIfInBounds_toArray, List.set_cons_zero, List.set_cons_succ]
        have Hzz0 : Hid (W0.heap.size ≤ W0.heap.size) := Nat.le_refl _
        refine wpAnyH_ready (rs := [0, 6]) (by kernel_rfl) (by simp) ?_
        refine AllReadyH.cons rfl (fun K hK => ?_) (AllReadyH.cons rfl (fun K hK => ?_) AllReadyH.nil)
        · skip
          go_simp
          have HO1 := Lib.hid (made_at W0.heap.size W0 (by have := Hzz0.out; omega))
          have H1 := Lib.hid (H0.out.alloc H0.out.size (.cells #[] 23))
          have hWs : (W0.alloc (.cells #[] 23)).heap.size = W0.heap.size + 1 := by simp
          have Hzz1 : Hid (W0.heap.size ≤ (W0.alloc (.cells #[] 23)).heap.size) := by show _ ≤ _; have := Hzz0.out; omega
          refine hK.out _ _ ((RpAt.of_cb HC3.out).ext H1.out).six (fun hHeld => ?_)
          clear hK K hWs
          generalize W0.alloc (.cells #[] 23) = W1 at *
          try simp only [Act.put, List.setIfInBounds_toArray, List.set_cons_zero, List.set_cons_succ]
          refine wpAnyH_ready (rs := [4, 6]) (by kernel_rfl) (by simp) ?_
          refine AllReadyH.cons rfl (fun K hK => ?_) (AllReadyH.cons rfl (fun K hK => ?_) AllReadyH.nil)
          · skip
            refine step_append_x (e := 23) (z := (.agg #[.int .i64 0, .int .i64 0, .int .i64 0, .int .i64 0, .string ⟨#[]⟩, .int .i64 0])) (size := 6) (bytes := 56) Try.underlying39 rp_info rfl rfl _ _ rfl W0.heap.size _ _ _ rfl HO1.out _ _ _ rfl (src_take _ (HR.out.ext (below_ext HB3.out H1.out)) (by omega)) (by unfold maxLen; have := Hsm.out; simp only [List.length_nil, List.length_append, List.length_take, List.length_cons]; omega) (by have := Hsm.out; simp only [List.length_nil, List.length_append, List.length_take, List.length_cons]; omega) (by exact Hzz1.out) ?_
            intro v2 W2 hown hg hnx
            have HO2 : Hid (OwnR W2 W0.heap.size v2 (l.take l.length)) := own_app hown (by omega)
            have H2 := Lib.hid (below_own (v := _) H1.out HO1.out hg Hz0.out)
            have Hzz2 : Hid (W0.heap.size ≤ W2.heap.size) := Nat.le_trans Hzz1.out hg.size
            refine hK.out (Act.put _ (some 56) v2) W2 ((RpAt.of_cb HC3.out).ext H2.out).six (fun hHeld => ?_)
            clear hK K hown hg hnx
            try simp only [Act.put, List.setIfInBounds_toArray, List.set_cons_zero, List.set_cons_succ]
            refine wpAnyH_ready (rs := [6]) (by kernel_rfl) (by simp) ?_
            refine AllReadyH.cons rfl (fun K hK => ?_) AllReadyH.nil
            go_simp
            have HA3 : Hid (CB (W2.alloc (.cells #[.int .i64 r.st, .int .i64 r.no, .int .i64 r.mi, .int .i64 r.ar, .string r.cl, .int .i64 r.vo] 23)) W2.heap.size 23 r.cells) := CB.new W2 _ _
            have H3 := Lib.hid (H2.out.alloc H2.out.size (.cells #[.int .i64 r.st, .int .i64 r.no, .int .i64 r.mi, .int .i64 r.ar, .string r.cl, .int .i64 r.vo] 23))
            have hWs : (W2.alloc (.cells #[.int .i64 r.st, .int .i64 r.no, .int .i64 r.mi, .int .i64 r.ar, .string r.cl, .int .i64 r.vo] 23)).heap.size = W2.heap.size + 1 := by simp
            have Hzz3 : Hid (W0.heap.size ≤ (W2.alloc (.cells #[.int .i64 r.st, .int .i64 r.no, .int .i64 r.mi, .int .i64 r.ar, .string r.cl, .int .i64 r.vo] 23)).heap.size) := by show _ ≤ _; have := Hzz2.out; omega
            have HO3 := Lib.hid (World.ownsRow.alloc HO2.out (.cells #[.int .i64 r.st, .int .i64 r.no, .int .i64 r.mi, .int .i64 r.ar, .string r.cl, .int .i64 r.vo] 23))
            refine hK.out _ _ ((RpAt.of_cb HC3.out).ext H3.out).six (fun hHeld => ?_)
            clear hK K hWs
            generalize W2.alloc (.cells #[.int .i64 r.st, .int .i64 r.no, .int .i64 r.mi, .int .i64 r.ar, .string r.cl, .int .i64 r.vo] 23) = W3 at *
            try simp only [Act.put, List.setIfInBounds_toArray, List.set_cons_zero, List.set_cons_succ]
            refine wpAnyH_ready (rs := [7]) (by kernel_rfl) (by simp) ?_
            refine AllReadyH.cons rfl (fun K hK => ?_) AllReadyH.nil
            refine step_append_x (e := 23) (z := (.agg #[.int .i64 0, .int .i64 0, .int .i64 0, .int .i64 0, .string ⟨#[]⟩, .int .i64 0])) (size := 6) (bytes := 56) Try.underlying39 rp_info rfl rfl _ _ rfl W0.heap.size _ _ _ rfl HO3.out _ _ _ rfl (src_r HA3.out) (by unfold maxLen; have := Hsm.out; simp only [List.length_nil, List.length_append, List.length_take, List.length_cons]; omega) (by have := Hsm.out; simp only [List.length_nil, List.length_append, List.length_take, List.length_cons]; omega) (by exact Hzz3.out) ?_
            intro v4 W4 hown hg hnx
            have HO4 : Hid (OwnR W4 W0.heap.size v4 (l.take l.length ++ [r])) := own_r hown (by omega)
            have H4 := Lib.hid (below_own (v := _) H3.out HO3.out hg Hz0.out)
            have Hzz4 : Hid (W0.heap.size ≤ W4.heap.size) := Nat.le_trans Hzz3.out hg.size
            refine hK.out (Act.put _ (some 59) v4) W4 ((RpAt.of_cb HC3.out).ext H4.out).six (fun hHeld => ?_)
            clear hK K hown hg hnx
            try simp only [Act.put, List.setIfInBounds_toArray, List.set_cons_zero, List.set_cons_succ]
            refine wpAnyH_ready (rs := [11]) (by kernel_rfl) (by simp) ?_
            refine AllReadyH.cons rfl (fun K hK => ?_) AllReadyH.nil
            refine step_append_x (e := 23) (z := (.agg #[.int .i64 0, .int .i64 0, .int .i64 0, .int .i64 0, .string ⟨#[]⟩, .int .i64 0])) (size := 6) (bytes := 56) Try.underlying39 rp_info rfl rfl _ _ rfl W0.heap.size _ _ _ rfl HO4.out _ _ _ rfl (src_drop _ _ (HR.out.ext (below_ext HB3.out H4.out)) (by omega) (by omega) HDR.out Hlc.out) (by unfold maxLen; have := Hsm.out; simp only [List.length_nil, List.length_append, List.length_take, List.length_cons]; omega) (by have := Hsm.out; simp only [List.length_nil, List.length_append, List.length_take, List.length_cons]; omega) (by exact Hzz4.out) ?_
            intro v5 W5 hown hg hnx
            have HO5 : Hid (OwnR W5 W0.heap.size v5 (insL l l.length r)) := own_end hown (by omega)
            have H5 := Lib.hid (below_own (v := _) H4.out HO4.out hg Hz0.out)
            have Hzz5 : Hid (W0.heap.size ≤ W5.heap.size) := Nat.le_trans Hzz4.out hg.size
            refine hK.out (Act.put _ (some 63) v5) W5 ((RpAt.of_cb HC3.out).ext H5.out).six (fun hHeld => ?_)
            clear hK K hown hg hnx
            try simp only [Act.put, List.setIfInBounds_toArray, List.set_cons_zero, List.set_cons_succ]
            refine take_dst (some 4) (i := 12) (v := ?v3n8) rfl rfl (by kernel_rfl) (by kernel_rfl) (by kernel_rfl) (fun _ _ _ h => h) (Or.inl ⟨by rfl, fun wS hSw => ?hy3n8⟩) (by assumption) ?rest3n8
            case hy3n8 => (obtain ⟨s0, s1, s2, s3, s4, s5⟩ := hSw; go_simp; first | done | with_reducible rfl)
            try simp only [Act.put, List.setIfInBounds_toArray, List.set_cons_zero, List.set_cons_succ]
            refine take_dst (some 5) (i := 13) (v := ?v3n9) rfl rfl (by kernel_rfl) (by kernel_rfl) (by kernel_rfl) (fun _ _ _ h => h) (Or.inl ⟨by rfl, fun wS hSw => ?hy3n9⟩) (by assumption) ?rest3n9
            case hy3n9 => (obtain ⟨s0, s1, s2, s3, s4, s5⟩ := hSw; go_simp; first | done | with_reducible rfl)
            try simp only [Act.put, List.setIfInBounds_toArray, List.set_cons_zero, List.set_cons_succ]
            refine wpAnyH_done (by kernel_rfl) ?_ _
            refine NoPanic.normal ?_
            go_wp2_with fail
            all_goals (go_ret2; exact add_list HX.out HO5.out.rd (below_ext HB3.out H5.out))
          · skip
            go_simp
            have HA2 : Hid (CB (W1.alloc (.cells #[.int .i64 r.st, .int .i64 r.no, .int .i64 r.mi, .int .i64 r.ar, .string r.cl, .int .i64 r.vo] 23)) W1.heap.size 23 r.cells) := CB.new W1 _ _
            have H2 := Lib.hid (H1.out.alloc H1.out.size (.cells #[.int .i64 r.st, .int .i64 r.no, .int .i64 r.mi, .int .i64 r.ar, .string r.cl, .int .i64 r.vo] 23))
            have hWs : (W1.alloc (.cells #[.int .i64 r.st, .int .i64 r.no, .int .i64 r.mi, .int .i64 r.ar, .string r.cl, .int .i64 r.vo] 23)).heap.size = W1.heap.size + 1 := by simp
            have Hzz2 : Hid (W0.heap.size ≤ (W1.alloc (.cells #[.int .i64 r.st, .int .i64 r.no, .int .i64 r.mi, .int .i64 r.ar, .string r.cl, .int .i64 r.vo] 23)).heap.size) := by show _ ≤ _; have := Hzz1.out; omega
            have HO2 := Lib.hid (World.ownsRow.alloc HO1.out (.cells #[.int .i64 r.st, .int .i64 r.no, .int .i64 r.mi, .int .i64 r.ar, .string r.cl, .int .i64 r.vo] 23))
            have HD2 : Hid ((Value.slice (some ⟨W0.heap.size, 0, none⟩) 0 0).ownBlock ≠ some W1.heap.size) := by show _ ≠ _; intro h; exact absurd (HO1.out.lt _ h).2 (Nat.lt_irrefl _)
            refine hK.out _ _ ((RpAt.of_cb HC3.out).ext H2.out).six (fun hHeld => ?_)
            clear hK K hWs
            generalize W1.alloc (.cells #[.int .i64 r.st, .int .i64 r.no, .int .i64 r.mi, .int .i64 r.ar, .string r.cl, .int .i64 r.vo] 23) = W2 at *
            try simp only [Act.put, List.setIfInBounds_toArray, List.set_cons_zero, List.set_cons_succ]
            refine wpAnyH_ready (rs := [4]) (by kernel_rfl) (by simp) ?_
            refine AllReadyH.cons rfl (fun K hK => ?_) AllReadyH.nil
            refine step_append_x (e := 23) (z := (.agg #[.int .i64 0, .int .i64 0, .int .i64 0, .int .i64 0, .string ⟨#[]⟩, .int .i64 0])) (size := 6) (bytes := 56) Try.underlying39 rp_info rfl rfl _ _ rfl W0.heap.size _ _ _ rfl HO2.out _ _ _ rfl (src_take _ (HR.out.ext (below_ext HB3.out H2.out)) (by omega)) (by unfold maxLen; have := Hsm.out; simp only [List.length_nil, List.length_append, List.length_take, List.length_cons]; omega) (by have := Hsm.out; simp only [List.length_nil, List.length_append, List.length_take, List.length_cons]; omega) (by exact Hzz2.out) ?_
            intro v3 W3 hown hg hnx
            have HO3 : Hid (OwnR W3 W0.heap.size v3 (l.take l.length)) := own_app hown (by omega)
            have H3 := Lib.hid (below_own (v := _) H2.out HO2.out hg Hz0.out)
            have Hzz3 : Hid (W0.heap.size ≤ W3.heap.size) := Nat.le_trans Hzz2.out hg.size
            have HA3 := Lib.hid (CB.keep HA2.out (hg.block _ HA2.out.lt (fun h => HD2.out h.symm)))
            refine hK.out (Act.put _ (some 56) v3) W3 ((RpAt.of_cb HC3.out).ext H3.out).six (fun hHeld => ?_)
            clear hK K hown hg hnx
            try simp only [Act.put, List.setIfInBounds_toArray, List.set_cons_zero, List.set_cons_succ]
            refine wpAnyH_ready (rs := [7]) (by kernel_rfl) (by simp) ?_
            refine AllReadyH.cons rfl (fun K hK => ?_) AllReadyH.nil
            refine step_append_x (e := 23) (z := (.agg #[.int .i64 0, .int .i64 0, .int .i64 0, .int .i64 0, .string ⟨#[]⟩, .int .i64 0])) (size := 6) (bytes := 56) Try.underlying39 rp_info rfl rfl _ _ rfl W0.heap.size _ _ _ rfl HO3.out _ _ _ rfl (src_r HA3.out) (by unfold maxLen; have := Hsm.out; simp only [List.length_nil, List.length_append, List.length_take, List.length_cons]; omega) (by have := Hsm.out; simp only [List.length_nil, List.length_append, List.length_take, List.length_cons]; omega) (by exact Hzz3.out) ?_
            intro v4 W4 hown hg hnx
            have HO4 : Hid (OwnR W4 W0.heap.size v4 (l.take l.length ++ [r])) := own_r hown (by omega)
            have H4 := Lib.hid (below_own (v := _) H3.out HO3.out hg Hz0.out)
            have Hzz4 : Hid (W0.heap.size ≤ W4.heap.size) := Nat.le_trans Hzz3.out hg.size
            refine hK.out (Act.put _ (some 59) v4) W4 ((RpAt.of_cb HC3.out).ext H4.out).six (fun hHeld => ?_)
            clear hK K hown hg hnx
            try simp only [Act.put, List.setIfInBounds_toArray, List.set_cons_zero, List.set_cons_succ]
            refine wpAnyH_ready (rs := [11]) (by kernel_rfl) (by simp) ?_
            refine AllReadyH.cons rfl (fun K hK => ?_) AllReadyH.nil
            refine step_append_x (e := 23) (z := (.agg #[.int .i64 0, .int .i64 0, .int .i64 0, .int .i64 0, .string ⟨#[]⟩, .int .i64 0])) (size := 6) (bytes := 56) Try.underlying39 rp_info rfl rfl _ _ rfl W0.heap.size _ _ _ rfl HO4.out _ _ _ rfl (src_drop _ _ (HR.out.ext (below_ext HB3.out H4.out)) (by omega) (by omega) HDR.out Hlc.out) (by unfold maxLen; have := Hsm.out; simp only [List.length_nil, List.length_append, List.length_take, List.length_cons]; omega) (by have := Hsm.out; simp only [List.length_nil, List.length_append, List.length_take, List.length_cons]; omega) (by exact Hzz4.out) ?_
            intro v5 W5 hown hg hnx
            have HO5 : Hid (OwnR W5 W0.heap.size v5 (insL l l.length r)) := own_end hown (by omega)
            have H5 := Lib.hid (below_own (v := _) H4.out HO4.out hg Hz0.out)
            have Hzz5 : Hid (W0.heap.size ≤ W5.heap.size) := Nat.le_trans Hzz4.out hg.size
            refine hK.out (Act.put _ (some 63) v5) W5 ((RpAt.of_cb HC3.out).ext H5.out).six (fun hHeld => ?_)
            clear hK K hown hg hnx
            try simp only [Act.put, List.setIfInBounds_toArray, List.set_cons_zero, List.set_cons_succ]
            refine take_dst (some 4) (i := 12) (v := ?v3n10) rfl rfl (by kernel_rfl) (by kernel_rfl) (by kernel_rfl) (fun _ _ _ h => h) (Or.inl ⟨by rfl, fun wS hSw => ?hy3n10⟩) (by assumption) ?rest3n10
            case hy3n10 => (obtain ⟨s0, s1, s2, s3, s4, s5⟩ := hSw; go_simp; first | done | with_reducible rfl)
            try simp only [Act.put, List.setIfInBounds_toArray, List.set_cons_zero, List.set_cons_succ]
            refine take_dst (some 5) (i := 13) (v := ?v3n11) rfl rfl (by kernel_rfl) (by kernel_rfl) (by kernel_rfl) (fun _ _ _ h => h) (Or.inl ⟨by rfl, fun wS hSw => ?hy3n11⟩) (by assumption) ?rest3n11
            case hy3n11 => (obtain ⟨s0, s1, s2, s3, s4, s5⟩ := hSw; go_simp; first | done | with_reducible rfl)
            try simp only [Act.put, List.setIfInBounds_toArray, List.set_cons_zero, List.set_cons_succ]
            refine wpAnyH_done (by kernel_rfl) ?_ _
            refine NoPanic.normal ?_
            go_wp2_with fail
            all_goals (go_ret2; exact add_list HX.out HO5.out.rd (below_ext HB3.out H5.out))
        · skip
          go_simp
          have HA1 : Hid (CB (W0.alloc (.cells #[.int .i64 r.st, .int .i64 r.no, .int .i64 r.mi, .int .i64 r.ar, .string r.cl, .int .i64 r.vo] 23)) W0.heap.size 23 r.cells) := CB.new W0 _ _
          have H1 := Lib.hid (H0.out.alloc H0.out.size (.cells #[.int .i64 r.st, .int .i64 r.no, .int .i64 r.mi, .int .i64 r.ar, .string r.cl, .int .i64 r.vo] 23))
          have hWs : (W0.alloc (.cells #[.int .i64 r.st, .int .i64 r.no, .int .i64 r.mi, .int .i64 r.ar, .string r.cl, .int .i64 r.vo] 23)).heap.size = W0.heap.size + 1 := by simp
          have Hzz1 : Hid (W0.heap.size ≤ (W0.alloc (.cells #[.int .i64 r.st, .int .i64 r.no, .int .i64 r.mi, .int .i64 r.ar, .string r.cl, .int .i64 r.vo] 23)).heap.size) := by show _ ≤ _; have := Hzz0.out; omega
          refine hK.out _ _ ((RpAt.of_cb HC3.out).ext H1.out).six (fun hHeld => ?_)
          clear hK K hWs
          generalize W0.alloc (.cells #[.int .i64 r.st, .int .i64 r.no, .int .i64 r.mi, .int .i64 r.ar, .string r.cl, .int .i64 r.vo] 23) = W1 at *
          try simp only [Act.put, List.setIfInBounds_toArray, List.set_cons_zero, List.set_cons_succ]
          refine wpAnyH_ready (rs := [0]) (by kernel_rfl) (by simp) ?_
          refine AllReadyH.cons rfl (fun K hK => ?_) AllReadyH.nil
          go_simp
          have HO2 := Lib.hid (made_at W0.heap.size W1 (by have := Hzz1.out; omega))
          have HA2 := Lib.hid (HA1.out.alloc (.cells #[] 23))
          have H2 := Lib.hid (H1.out.alloc H1.out.size (.cells #[] 23))
          have hWs : (W1.alloc (.cells #[] 23)).heap.size = W1.heap.size + 1 := by simp
          have Hzz2 : Hid (W0.heap.size ≤ (W1.alloc (.cells #[] 23)).heap.size) := by show _ ≤ _; have := Hzz1.out; omega
          have HD2 : Hid ((Value.slice (some ⟨W1.heap.size, 0, none⟩) 0 0).ownBlock ≠ some W0.heap.size) := by show some _ ≠ some _; intro h; exact absurd (Option.some.inj h) (Nat.ne_of_gt HA1.out.lt)
          refine hK.out _ _ ((RpAt.of_cb HC3.out).ext H2.out).six (fun hHeld => ?_)
          clear hK K hWs
          generalize W1.alloc (.cells #[] 23) = W2 at *
          try simp only [Act.put, List.setIfInBounds_toArray, List.set_cons_zero, List.set_cons_succ]
          refine wpAnyH_ready (rs := [4]) (by kernel_rfl) (by simp) ?_
          refine AllReadyH.cons rfl (fun K hK => ?_) AllReadyH.nil
          refine step_append_x (e := 23) (z := (.agg #[.int .i64 0, .int .i64 0, .int .i64 0, .int .i64 0, .string ⟨#[]⟩, .int .i64 0])) (size := 6) (bytes := 56) Try.underlying39 rp_info rfl rfl _ _ rfl W0.heap.size _ _ _ rfl HO2.out _ _ _ rfl (src_take _ (HR.out.ext (below_ext HB3.out H2.out)) (by omega)) (by unfold maxLen; have := Hsm.out; simp only [List.length_nil, List.length_append, List.length_take, List.length_cons]; omega) (by have := Hsm.out; simp only [List.length_nil, List.length_append, List.length_take, List.length_cons]; omega) (by exact Hzz2.out) ?_
          intro v3 W3 hown hg hnx
          have HO3 : Hid (OwnR W3 W0.heap.size v3 (l.take l.length)) := own_app hown (by omega)
          have H3 := Lib.hid (below_own (v := _) H2.out HO2.out hg Hz0.out)
          have Hzz3 : Hid (W0.heap.size ≤ W3.heap.size) := Nat.le_trans Hzz2.out hg.size
          have HA3 := Lib.hid (CB.keep HA2.out (hg.block _ HA2.out.lt (fun h => HD2.out h.symm)))
          refine hK.out (Act.put _ (some 56) v3) W3 ((RpAt.of_cb HC3.out).ext H3.out).six (fun hHeld => ?_)
          clear hK K hown hg hnx
          try simp only [Act.put, List.setIfInBounds_toArray, List.set_cons_zero, List.set_cons_succ]
          refine wpAnyH_ready (rs := [7]) (by kernel_rfl) (by simp) ?_
          refine AllReadyH.cons rfl (fun K hK => ?_) AllReadyH.nil
          refine step_append_x (e := 23) (z := (.agg #[.int .i64 0, .int .i64 0, .int .i64 0, .int .i64 0, .string ⟨#[]⟩, .int .i64 0])) (size := 6) (bytes := 56) Try.underlying39 rp_info rfl rfl _ _ rfl W0.heap.size _ _ _ rfl HO3.out _ _ _ rfl (src_r HA3.out) (by unfold maxLen; have := Hsm.out; simp only [List.length_nil, List.length_append, List.length_take, List.length_cons]; omega) (by have := Hsm.out; simp only [List.length_nil, List.length_append, List.length_take, List.length_cons]; omega) (by exact Hzz3.out) ?_
          intro v4 W4 hown hg hnx
          have HO4 : Hid (OwnR W4 W0.heap.size v4 (l.take l.length ++ [r])) := own_r hown (by omega)
          have H4 := Lib.hid (below_own (v := _) H3.out HO3.out hg Hz0.out)
          have Hzz4 : Hid (W0.heap.size ≤ W4.heap.size) := Nat.le_trans Hzz3.out hg.size
          refine hK.out (Act.put _ (some 59) v4) W4 ((RpAt.of_cb HC3.out).ext H4.out).six (fun hHeld => ?_)
          clear hK K hown hg hnx
          try simp only [Act.put, List.setIfInBounds_toArray, List.set_cons_zero, List.set_cons_succ]
          refine wpAnyH_ready (rs := [11]) (by kernel_rfl) (by simp) ?_
          refine AllReadyH.cons rfl (fun K hK => ?_) AllReadyH.nil
          refine step_append_x (e := 23) (z := (.agg #[.int .i64 0, .int .i64 0, .int .i64 0, .int .i64 0, .string ⟨#[]⟩, .int .i64 0])) (size := 6) (bytes := 56) Try.underlying39 rp_info rfl rfl _ _ rfl W0.heap.size _ _ _ rfl HO4.out _ _ _ rfl (src_drop _ _ (HR.out.ext (below_ext HB3.out H4.out)) (by omega) (by omega) HDR.out Hlc.out) (by unfold maxLen; have := Hsm.out; simp only [List.length_nil, List.length_append, List.length_take, List.length_cons]; omega) (by have := Hsm.out; simp only [List.length_nil, List.length_append, List.length_take, List.length_cons]; omega) (by exact Hzz4.out) ?_
          intro v5 W5 hown hg hnx
          have HO5 : Hid (OwnR W5 W0.heap.size v5 (insL l l.length r)) := own_end hown (by omega)
          have H5 := Lib.hid (below_own (v := _) H4.out HO4.out hg Hz0.out)
          have Hzz5 : Hid (W0.heap.size ≤ W5.heap.size) := Nat.le_trans Hzz4.out hg.size
          refine hK.out (Act.put _ (some 63) v5) W5 ((RpAt.of_cb HC3.out).ext H5.out).six (fun hHeld => ?_)
          clear hK K hown hg hnx
          try simp only [Act.put, List.setIfInBounds_toArray, List.set_cons_zero, List.set_cons_succ]
          refine take_dst (some 4) (i := 12) (v := ?v3n12) rfl rfl (by kernel_rfl) (by kernel_rfl) (by kernel_rfl) (fun _ _ _ h => h) (Or.inl ⟨by rfl, fun wS hSw => ?hy3n12⟩) (by assumption) ?rest3n12
          case hy3n12 => (obtain ⟨s0, s1, s2, s3, s4, s5⟩ := hSw; go_simp; first | done | with_reducible rfl)
          try simp only [Act.put, List.setIfInBounds_toArray, List.set_cons_zero, List.set_cons_succ]
          refine take_dst (some 5) (i := 13) (v := ?v3n13) rfl rfl (by kernel_rfl) (by kernel_rfl) (by kernel_rfl) (fun _ _ _ h => h) (Or.inl ⟨by rfl, fun wS hSw => ?hy3n13⟩) (by assumption) ?rest3n13
          case hy3n13 => (obtain ⟨s0, s1, s2, s3, s4, s5⟩ := hSw; go_simp; first | done | with_reducible rfl)
          try simp only [Act.put, List.setIfInBounds_toArray, List.set_cons_zero, List.set_cons_succ]
          refine wpAnyH_done (by kernel_rfl) ?_ _
          refine NoPanic.normal ?_
          go_wp2_with fail
          all_goals (go_ret2; exact add_list HX.out HO5.out.rd (below_ext HB3.out H5.out))
end Go.Proofs.Ytgdbmoggpfpkkaa
