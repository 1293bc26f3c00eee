/- Parts of the proofs of chapter 49's laws: Jfl Jft Jfo Jkn Jtb Jfc. -/
import Derived.Test.YtdblnbnofjggnaaGreatDoorK30
import Derived.Test.YtdblnbnofjggnaaGreatDoorK14
import Derived.Maps.OwnSet
import Derived.Maps.OwnOps
import Derived.Maps.Views
import Derived.Deep.QuietTactic
import Derived.BigQuiet
import Derived.Deep.DeepCutAuto
import Derived.Carry
import Derived.WalkMore
namespace Go.Proofs.YtdblnbnofjggnaaGreatDoor
open Go.RowKit
def inB (n a b : Int) : Bool := decide (a ≤ n) && decide (n ≤ b)
theorem in49_any (n a b : Int) (w : World) : Calls Tryz.prog 34 #[.int .i64 n, .int .i64 a, .int .i64 b] w fun e w' => e = .returned (.bool (inB n a b)) ∧ w = w' := by
 have HR : Hid (inB n a b = (decide (a ≤ n) && decide (n ≤ b))) := rfl
 obtain ⟨c1, h1⟩ : ∃ c, decide (a ≤ n) = c := ⟨_, rfl⟩
 obtain ⟨c2, h2⟩ : ∃ c, decide (n ≤ b) = c := ⟨_, rfl⟩
 have HR : Hid (inB n a b = (c1 && c2)) := by have := HR.out; rw [h1, h2] at this; exact this
 go_enter Tryz.func34, Tryz.ntmps34
 cases c1
 · go_wp2
   go_ret
   exact ⟨by rw [HR.out]; rfl, rfl⟩
 · cases c2
   · go_wp2
     go_ret
     exact ⟨by rw [HR.out]; rfl, rfl⟩
   · go_wp2
     go_ret
     exact ⟨by rw [HR.out]; rfl, rfl⟩
theorem fin_any (n a b : Int) (w : World) : Calls Tryz.prog 75 #[.int .i64 n, .int .i64 a, .int .i64 b] w fun e w' => e = .returned (.bool (inB n a b)) ∧ w = w' := by
 have HR : Hid (inB n a b = (decide (a ≤ n) && decide (n ≤ b))) := rfl
 obtain ⟨c1, h1⟩ : ∃ c, decide (a ≤ n) = c := ⟨_, rfl⟩
 obtain ⟨c2, h2⟩ : ∃ c, decide (n ≤ b) = c := ⟨_, rfl⟩
 have HR : Hid (inB n a b = (c1 && c2)) := by have := HR.out; rw [h1, h2] at this; exact this
 go_enter Tryz.func75, Tryz.ntmps75
 cases c1
 · go_wp2
   go_ret
   exact ⟨by rw [HR.out]; rfl, rfl⟩
 · cases c2
   · go_wp2
     go_ret
     exact ⟨by rw [HR.out]; rfl, rfl⟩
   · go_wp2
     go_ret
     exact ⟨by rw [HR.out]; rfl, rfl⟩
set_option maxHeartbeats 2000000 in
theorem index_any (l : List Int) (x : Int) (v : Value) (w : World) (hl : LsAt nuK w.heap.size w l v) :
 Calls Tryz.prog 193 #[v, .int .i64 x] w fun e w' => (∃ r : Int, e = .returned (.int .i64 r) ∧ decide (0 ≤ r) = l.any (fun y => x == y)) ∧ w = w' := by
 obtain ⟨oa, ca, rfl, la⟩ := hl.shape
 have HL := Lib.hid hl
 obtain ⟨n, hn⟩ : ∃ n, l.length = n := ⟨_, rfl⟩
 rw [hn] at HL la ⊢
 have l1 : (n : Int) ≤ 9223372036854775807 := by omega
 have HN := Lib.hid hn
 clear hl hn la
 go_enter Tryz.func193, Tryz.ntmps193
 go_wp2_with fail
 go_loopw [8] (fun vi wr => (∃ i : Nat, vi = .int .i64 (i : Int) ∧ i ≤ n ∧ ∀ j y, j < i → l[j]? = some y → (fun y => x == y) y = false) ∧ w = wr) (fun vi _ => n - natOf vi)
 case atStart => exact ⟨⟨0, rfl, by omega, fun j y h => by omega⟩, rfl⟩
 case round =>
  obtain ⟨⟨i, rfl, hi, hs⟩, rfl⟩ := hrel
  have HS := Lib.hid hs
  clear hs
  by_cases hlt : i < n
  case neg =>
   obtain rfl : i = n := by omega
   have tj : decide ((i : Int) < (i : Int)) = false := by simp
   have HE : Hid (l.any (fun y => x == y) = false) := by
    show _ = _
    rw [List.any_eq_false]
    intro y hy
    obtain ⟨j, hj⟩ := List.mem_iff_getElem?.1 hy
    have hj' := HS.out j y (by have := (List.getElem?_eq_some_iff.1 hj).1; have := HN.out; omega) hj
    simpa using hj'
   go_wp2_with fail
   go_ret
   exact ⟨⟨-1, rfl, by rw [HE.out]; rfl⟩, rfl⟩
  case pos =>
  have tj : decide ((i : Int) < (n : Int)) = true := by simp; omega
  have tj' : decide (i < n) = true := by simp; omega
  have kb : (i : Int) < (n : Int) := by omega
  obtain ⟨y, hy⟩ : ∃ y, l[i]? = some y := ⟨_, List.getElem?_eq_getElem (by rw [HN.out]; exact hlt)⟩
  obtain ⟨ab, ao, rfl⟩ := some_sl HL.out (k := i) (by rw [HN.out]; exact hlt)
  have c1 := nu_rng HL.out hy
  have Hlt := Lib.hid hlt; have Hy := Lib.hid hy
  obtain ⟨b, hb⟩ : ∃ b, (fun y => x == y) y = b := ⟨_, rfl⟩
  have HBb := Lib.hid hb
  clear hlt hy hi
  have hb : (x == y) = b := HBb.out
  cases b
  · go_wp2_with fail
    go_roundw
    case rel => exact ⟨⟨i + 1, by go_num, Hlt.out, fun j z hj hz => by
     rcases Nat.lt_succ_iff_lt_or_eq.1 hj with h | h
     · exact HS.out j z h hz
     · subst h
       have := Hy.out.symm.trans hz
       injection this with this
       rw [← this]; exact HBb.out⟩, by first | rfl | trivial⟩
    case measure => simp [natOf]; have := Hlt.out; omega
  · go_wp2_with fail
    go_ret
    exact ⟨⟨(i : Int), rfl, by
     have : l.any (fun y => x == y) = true := List.any_eq_true.2 ⟨y, List.mem_of_getElem? Hy.out, HBb.out⟩
     rw [this]; simp⟩, rfl⟩
theorem contains_any (l : List Int) (x : Int) (v : Value) (w : World) (hl : LsAt nuK w.heap.size w l v) :
 Calls Tryz.prog 153 #[v, .int .i64 x] w fun e w' => e = .returned (.bool (l.any fun y => x == y)) ∧ w = w' := by
 have HC := Lib.hid (index_any l x v w hl)
 obtain ⟨oa, ca, rfl, -⟩ := hl.shape
 clear hl
 go_enter Tryz.func153, Tryz.ntmps153
 go_wp2_with (go_at_call 193; refine HC.out.mono ?_; rintro e w' ⟨⟨r, rfl, hr⟩, rfl⟩)
 go_ret
 exact ⟨by rw [← hr]; rfl, rfl⟩
theorem change1_any (n : Int) (w : World) : Calls Tryz.prog 155 #[.int .i64 n] w fun e w' => e = .returned (.bool (!inB n 0 15)) ∧ w = w' := by
 go_enter Tryz.func155, Tryz.ntmps155
 go_wp2_with (go_at_call 34; refine (in49_any _ _ _ _).mono ?_; rintro e w' ⟨rfl, rfl⟩)
 go_ret
 exact ⟨by rfl, rfl⟩
set_option maxHeartbeats 2000000 in
theorem indexf_any (l : List Int) (v : Value) (w : World) (hl : LsAt nuK w.heap.size w l v) :
 Calls Tryz.prog 194 #[v, .func (.func 155) #[] #[]] w fun e w' => (∃ r : Int, e = .returned (.int .i64 r) ∧ decide (0 ≤ r) = l.any (fun y => !inB y 0 15)) ∧ w = w' := by
 obtain ⟨oa, ca, rfl, la⟩ := hl.shape
 have HL := Lib.hid hl
 obtain ⟨n, hn⟩ : ∃ n, l.length = n := ⟨_, rfl⟩
 rw [hn] at HL la ⊢
 have l1 : (n : Int) ≤ 9223372036854775807 := by omega
 have HN := Lib.hid hn
 clear hl hn la
 go_enter Tryz.func194, Tryz.ntmps194
 go_wp2_with fail
 go_loopw [8] (fun vi wr => (∃ i : Nat, vi = .int .i64 (i : Int) ∧ i ≤ n ∧ ∀ j y, j < i → l[j]? = some y → (fun y => !inB y 0 15) y = false) ∧ w = wr) (fun vi _ => n - natOf vi)
 case atStart => exact ⟨⟨0, rfl, by omega, fun j y h => by omega⟩, rfl⟩
 case round =>
  obtain ⟨⟨i, rfl, hi, hs⟩, rfl⟩ := hrel
  have HS := Lib.hid hs
  clear hs
  by_cases hlt : i < n
  case neg =>
   obtain rfl : i = n := by omega
   have tj : decide ((i : Int) < (i : Int)) = false := by simp
   have HE : Hid (l.any (fun y => !inB y 0 15) = false) := by
    show _ = _
    rw [List.any_eq_false]
    intro y hy
    obtain ⟨j, hj⟩ := List.mem_iff_getElem?.1 hy
    have hj' := HS.out j y (by have := (List.getElem?_eq_some_iff.1 hj).1; have := HN.out; omega) hj
    simpa using hj'
   go_wp2_with fail
   go_ret
   exact ⟨⟨-1, rfl, by rw [HE.out]; rfl⟩, rfl⟩
  case pos =>
  have tj : decide ((i : Int) < (n : Int)) = true := by simp; omega
  have tj' : decide (i < n) = true := by simp; omega
  have kb : (i : Int) < (n : Int) := by omega
  obtain ⟨y, hy⟩ : ∃ y, l[i]? = some y := ⟨_, List.getElem?_eq_getElem (by rw [HN.out]; exact hlt)⟩
  obtain ⟨ab, ao, rfl⟩ := some_sl HL.out (k := i) (by rw [HN.out]; exact hlt)
  have c1 := nu_rng HL.out hy
  have Hlt := Lib.hid hlt; have Hy := Lib.hid hy
  obtain ⟨b, hb⟩ : ∃ b, (fun y => !inB y 0 15) y = b := ⟨_, rfl⟩
  have HBb := Lib.hid hb
  clear hlt hy hi
  have HCa := Lib.hid (change1_any y w)
  have hb2 : (!inB y 0 15) = b := HBb.out
  rw [hb2] at HCa
  clear hb hb2
  cases b
  · go_wp2_with (go_at_call 155; refine HCa.out.mono ?_; rintro e w' ⟨rfl, rfl⟩)
    go_roundw
    case rel => exact ⟨⟨i + 1, by go_num, Hlt.out, fun j z hj hz => by
     rcases Nat.lt_succ_iff_lt_or_eq.1 hj with h | h
     · exact HS.out j z h hz
     · subst h
       have := Hy.out.symm.trans hz
       injection this with this
       rw [← this]; exact HBb.out⟩, by first | rfl | trivial⟩
    case measure => simp [natOf]; have := Hlt.out; omega
  · go_wp2_with (go_at_call 155; refine HCa.out.mono ?_; rintro e w' ⟨rfl, rfl⟩)
    go_ret
    exact ⟨⟨(i : Int), rfl, by
     have : l.any (fun y => !inB y 0 15) = true := List.any_eq_true.2 ⟨y, List.mem_of_getElem? Hy.out, HBb.out⟩
     rw [this]; simp⟩, rfl⟩
theorem containsf_any (l : List Int) (v : Value) (w : World) (hl : LsAt nuK w.heap.size w l v) :
 Calls Tryz.prog 154 #[v, .func (.func 155) #[] #[]] w fun e w' => e = .returned (.bool (l.any fun y => !inB y 0 15)) ∧ w = w' := by
 have HC := Lib.hid (indexf_any l v w hl)
 obtain ⟨oa, ca, rfl, -⟩ := hl.shape
 clear hl
 go_enter Tryz.func154, Tryz.ntmps154
 go_wp2_with (go_at_call 194; refine HC.out.mono ?_; rintro e w' ⟨⟨r, rfl, hr⟩, rfl⟩)
 go_ret
 exact ⟨by rw [← hr]; rfl, rfl⟩
def chgB (c : Chg) : Bool := inB c.frm 0 1439 && inB c.cfg 0 31 && decide (c.modes.length ≤ 16) && !(c.modes.any fun y => !inB y 0 15)
set_option maxRecDepth 100000 in
set_option maxHeartbeats 4000000 in
theorem change_any (c : Chg) (v : Value) (w : World) (hl : LsAt nuK w.heap.size w c.modes v) : Calls Tryz.prog 93 #[.agg (c.cells v).toArray] w fun e w' => e = .returned (.bool (chgB c)) ∧ Below w.heap.size w w' := by
 have hb0 := b_al (w := w) (.cells (c.cells v).toArray 31)
 have hc := cb_one w (.cells (c.cells v).toArray 31) 31 (c.cells v) rfl
 have HB := Lib.hid hb0
 have HC := Lib.hid (containsf_any c.modes v _ (hl.ext hb0))
 have H1 := Lib.hid (fun W => in49_any c.frm 0 1439 W); have H2 := Lib.hid (fun W => in49_any c.cfg 0 31 W)
 obtain ⟨b1, h1⟩ : ∃ b, inB c.frm 0 1439 = b := ⟨_, rfl⟩
 obtain ⟨b2, h2⟩ : ∃ b, inB c.cfg 0 31 = b := ⟨_, rfl⟩
 obtain ⟨b3, h3⟩ : ∃ b, decide (c.modes.length ≤ 16) = b := ⟨_, rfl⟩
 obtain ⟨b4, h4⟩ : ∃ b, (c.modes.any fun y => !inB y 0 15) = b := ⟨_, rfl⟩
 have HR : Hid (chgB c = (b1 && b2 && b3 && !b4)) := by show _ = _; unfold chgB; rw [h1, h2, h3, h4]
 rw [h1] at H1; rw [h2] at H2; rw [h4] at HC
 obtain ⟨oa, ca, rfl, la⟩ := hl.shape
 have c0 : _ = some (Value.int .i64 c.frm) := hc.cell 0
 have c1 : _ = some (Value.int .i64 c.cfg) := hc.cell 1
 have c2 : _ = some (Value.slice oa c.modes.length ca) := hc.cell 2
 have u3 : decide ((c.modes.length : Int) ≤ 16) = b3 := by rw [← h3]; by_cases h : c.modes.length ≤ 16 <;> simp [h] <;> omega
 clear hb0 hc hl h1 h2 h3 h4 la
 generalize c.modes.length = n at *
 go_enter Tryz.func93, Tryz.ntmps93
 go_upto_region 1 with fail
 change Code.wp _ _ _ _ (w.alloc (.cells (c.cells (.slice oa n ca)).toArray 31))
 generalize w.alloc (.cells (c.cells (.slice oa n ca)).toArray 31) = w0 at *
 go_wp2_with (first
  | (go_at_call 34; refine (H1.out w0).mono ?_; go_loud (rintro e w' ⟨rfl, rfl⟩; clear H1))
  | (go_at_call 34; refine (H2.out w0).mono ?_; go_loud (rintro e w' ⟨rfl, rfl⟩; clear H2))
  | (go_at_call 154; refine HC.out.mono ?_; go_loud (rintro e w' ⟨rfl, rfl⟩)))
 · (try clear u3); (try simp only [Bool.not_eq_true] at *); subst_vars; go_ret; exact ⟨by first | (rw [HR.out]; rfl) | rfl, HB.out⟩
 all_goals (try clear u3; try simp only [Bool.not_eq_true] at *; subst_vars; go_ret; exact ⟨by first | (rw [HR.out]; rfl) | rfl, HB.out⟩)
end Go.Proofs.YtdblnbnofjggnaaGreatDoor
namespace Go.Proofs.YtdblnbnofjggnaaGreatDoor
open Go.RowKit
def wayB (l : List Int) (j : Nat) : Bool := inB (l.getD j 0) 0 63 && !((l.take j).any fun y => l.getD j 0 == y)
def waysB (l : List Int) (i : Nat) : Bool := (List.range i).all (wayB l)
theorem waysB_succ (l : List Int) (i : Nat) : waysB l (i + 1) = (waysB l i && wayB l i) := by
 unfold waysB; rw [List.range_succ, List.all_append]; simp
def fltA (f : Flt) : Bool := inB f.id 0 4095 && inB f.air 0 7 && inB f.cls 0 7 && nameB f.call.data.toList && inB (f.ways.length : Int) 1 4
def fltW (f : Flt) : Bool := decide (0 ≤ f.wf) && decide (f.wf < f.wt) && decide (f.wt ≤ 1440) && decide (f.wt - f.wf ≤ 16)
def fltB (f : Flt) : Bool := fltA f && waysB f.ways f.ways.length && fltW f
theorem takeSl {α : Type} {K : EK α} {B b off cap : Nat} {w : World} {l : List α} (h : LsAt K B w l (.slice (some ⟨b, off, none⟩) l.length cap)) (n : Nat) (h0 : l ≠ []) (hn : n ≤ l.length) : LsAt K B w (l.take n) (.slice (some ⟨b, off, none⟩) n cap) := by
 rcases h with ⟨h, _⟩ | ⟨b', off', cap', h1, h2, h3, h4, h5⟩
 · exact absurd h h0
 · injection h1 with h1 _ h6
   injection h1 with h1
   injection h1 with h7 h8
   subst h6 h7 h8
   refine .inr ⟨b, off, cap, by rw [List.length_take, Nat.min_eq_left hn], by rw [List.length_take]; omega, h3, h4, fun j a hj => ?_⟩
   rw [List.getElem?_take] at hj
   split at hj
   · exact h5 j a hj
   · cases hj
def FlRel (f : Flt) (v : Value) (n : Nat) (w : World) (vo vi : Value) (wr : World) : Prop := ∃ i : Nat, vi = .int .i64 (i : Int) ∧ vo = .bool (fltA f && waysB f.ways i) ∧ i ≤ n ∧ CB wr w.heap.size 28 (f.cells v) ∧ Below w.heap.size w wr
set_option maxRecDepth 100000 in
set_option maxHeartbeats 8000000 in
theorem flight_any (f : Flt) (v : Value) (w : World) (hl : LsAt nuK w.heap.size w f.ways v) (hs : f.call.size ≤ 9223372036854775807) : Calls Tryz.prog 86 #[.agg (f.cells v).toArray] w fun e w' => e = .returned (.bool (fltB f)) ∧ Below w.heap.size w w' := by
 obtain ⟨oa, ca, rfl, la⟩ := hl.shape
 have HL := Lib.hid hl
 obtain ⟨n, hn⟩ : ∃ n, f.ways.length = n := ⟨_, rfl⟩
 rw [hn] at HL la ⊢
 have l1 : (n : Int) ≤ 9223372036854775807 := by omega
 have HN := Lib.hid hn
 have hca : (n : Int) ≤ (ca : Int) ∧ n ≤ ca := by
  obtain ⟨_, _, he, h2, _⟩ := HL.out.shape2
  injection he with _ e2 e3
  rw [e3, e2]; exact ⟨by omega, h2⟩
 obtain ⟨hca, hca2⟩ := hca
 have hb0 := b_al (w := w) (.cells (f.cells (.slice oa n ca)).toArray 28)
 have hc := cb_one w (.cells (f.cells (.slice oa n ca)).toArray 28) 28 (f.cells (.slice oa n ca)) rfl
 have HB := Lib.hid hb0; have HC := Lib.hid hc
 have H1 := Lib.hid (fun W => in49_any f.id 0 4095 W); have H2 := Lib.hid (fun W => in49_any f.air 0 7 W); have H3 := Lib.hid (fun W => in49_any f.cls 0 7 W); have H4 := Lib.hid (fun W => name_any f.call hs W); have H5 := Lib.hid (fun W => in49_any (n : Int) 1 4 W)
 obtain ⟨b1, h1⟩ : ∃ b, inB f.id 0 4095 = b := ⟨_, rfl⟩
 obtain ⟨b2, h2⟩ : ∃ b, inB f.air 0 7 = b := ⟨_, rfl⟩
 obtain ⟨b3, h3⟩ : ∃ b, inB f.cls 0 7 = b := ⟨_, rfl⟩
 obtain ⟨b4, h4⟩ : ∃ b, nameB f.call.data.toList = b := ⟨_, rfl⟩
 obtain ⟨b5, h5⟩ : ∃ b, inB (n : Int) 1 4 = b := ⟨_, rfl⟩
 have HR : Hid (fltA f = (b1 && b2 && b3 && b4 && b5)) := by show _ = _; unfold fltA; rw [hn, h1, h2, h3, h4, h5]
 unfold NamePost at H4
 rw [h1] at H1; rw [h2] at H2; rw [h3] at H3; rw [h4] at H4; rw [h5] at H5
 have c0 : _ = some (Value.int .i64 f.id) := hc.cell 0
 have c1 : _ = some (Value.int .i64 f.air) := hc.cell 1
 have c2 : _ = some (Value.int .i64 f.cls) := hc.cell 2
 have c3 : _ = some (Value.string f.call) := hc.cell 3
 have c4 : _ = some (Value.slice oa n ca) := hc.cell 4
 clear hb0 hc hl h1 h2 h3 h4 h5 la hn hs
 go_enter Tryz.func86, Tryz.ntmps86
 go_upto_region 1 with fail
 change Code.wp _ _ _ _ (w.alloc (.cells (f.cells (.slice oa n ca)).toArray 28))
 generalize w.alloc (.cells (f.cells (.slice oa n ca)).toArray 28) = w0 at *
 go_cut [3] (fun v3 wx => v3 = .bool (fltA f) ∧ wx = w0)
 case first =>
  go_wp2_with (first
   | (go_at_call 79; refine (H4.out w0).mono ?_; go_loud (rintro e w' ⟨rfl, rfl⟩))
   | (go_at_call 34; refine (H1.out w0).mono ?_; go_loud (rintro e w' ⟨rfl, rfl⟩; clear H1))
   | (go_at_call 34; refine (H2.out w0).mono ?_; go_loud (rintro e w' ⟨rfl, rfl⟩; clear H2))
   | (go_at_call 34; refine (H3.out w0).mono ?_; go_loud (rintro e w' ⟨rfl, rfl⟩; clear H3))
   | (go_at_call 34; refine (H5.out w0).mono ?_; go_loud (rintro e w' ⟨rfl, rfl⟩; clear H5)))
  · (try simp only [Bool.not_eq_true] at *); subst_vars; go_meet; case rel => exact ⟨by first | (rw [HR.out]; rfl) | rfl, rfl⟩
  all_goals (try simp only [Bool.not_eq_true] at *; subst_vars; go_meet; case rel => exact ⟨by first | (rw [HR.out]; rfl) | rfl, rfl⟩)
 case rest =>
 obtain ⟨rfl, rfl⟩ := hcut
 clear c0 c1 c2 c3 HR H1 H2 H3 H4 H5
 generalize wc = w0 at *
 have hA : (fltA f && waysB f.ways 0) = fltA f := by unfold waysB; simp
 go_wp2_with fail
 clear c4
 go_loopw [3, 33] (fun vo vi wr => FlRel f (.slice oa n ca) n w vo vi wr) (fun _ vi _ => n - natOf vi)
 case atStart => exact ⟨0, rfl, by rw [hA], by omega, HC.out, HB.out⟩
 case round =>
  obtain ⟨i, rfl, rfl, hi, hc, hb⟩ := hrel
  have HCr := Lib.hid hc; have HBr := Lib.hid hb
  have c4 : wr.cell? ⟨w.heap.size, 4, none⟩ = some (.slice oa n ca) := hc.cell 4
  clear hc hb HC HB hA
  by_cases hlt : i < n
  case neg =>
   obtain rfl : i = n := by omega
   have tj : decide ((i : Int) < (i : Int)) = false := by simp
   have c5 : wr.cell? ⟨w.heap.size, 5, none⟩ = some (.int .i64 f.wf) := HCr.out.cell 5
   have c6 : wr.cell? ⟨w.heap.size, 6, none⟩ = some (.int .i64 f.wt) := HCr.out.cell 6
   obtain ⟨b0, h0⟩ : ∃ b, (fltA f && waysB f.ways i) = b := ⟨_, rfl⟩
   obtain ⟨b6, h6⟩ : ∃ b, decide (0 ≤ f.wf) = b := ⟨_, rfl⟩
   obtain ⟨b7, h7⟩ : ∃ b, decide (f.wf < f.wt) = b := ⟨_, rfl⟩
   obtain ⟨b8, h8⟩ : ∃ b, decide (f.wt ≤ 1440) = b := ⟨_, rfl⟩
   obtain ⟨b9, h9⟩ : ∃ b, decide (f.wt - f.wf ≤ 16) = b := ⟨_, rfl⟩
   have HR : Hid (fltB f = (b0 && (b6 && b7 && b8 && b9))) := by show _ = _; unfold fltB fltW; rw [HN.out, h0, h6, h7, h8, h9]
   rw [h0]
   by_cases hwin : 0 ≤ f.wf ∧ f.wf < f.wt ∧ f.wt ≤ 1440
   case pos =>
    obtain ⟨w1, w2, w3⟩ := hwin
    obtain rfl : b6 = true := by rw [← h6]; exact decide_eq_true w1
    obtain rfl : b7 = true := by rw [← h7]; exact decide_eq_true w2
    obtain rfl : b8 = true := by rw [← h8]; exact decide_eq_true w3
    have hwr : IntKind.i64.wrap (f.wt - f.wf) = f.wt - f.wf := IntWalk.i64_in _ (by omega)
    have hwr2 : wrap64 (f.wt - f.wf) = f.wt - f.wf := by first | (unfold wrap64; omega) | exact (IntKind.wrap_i64 _).symm.trans hwr
    clear h0 hlt hi
    go_wp2_with fail
    · (try clear h6 h7 h8 h9 hwr hwr2); (try simp only [Bool.not_eq_true] at *); subst_vars; go_ret; exact ⟨by first | (rw [HR.out]; rfl) | rfl, HBr.out⟩
    all_goals (try clear h6 h7 h8 h9 hwr hwr2; try simp only [Bool.not_eq_true] at *; subst_vars; go_ret; exact ⟨by first | (rw [HR.out]; rfl) | rfl, HBr.out⟩)
   case neg =>
    have hno : (b6 && b7 && b8) = false := by
     rw [← h6, ← h7, ← h8]
     by_cases x1 : 0 ≤ f.wf
     · by_cases x2 : f.wf < f.wt
       · have x3 : ¬ f.wt ≤ 1440 := fun h => hwin ⟨x1, x2, h⟩
         simp [x3]
       · simp [x2]
     · simp [x1]
    have HFA : Hid (fltB f = false) := by show _ = _; rw [HR.out, hno]; simp
    have HNO := Lib.hid hno
    clear hno hwin h0 hlt hi HR h9
    go_wp2_with fail
    all_goals first
     | (go_ret; first | exact ⟨by rw [HFA.out]; rfl, HBr.out⟩ | (exfalso; have h := HNO.out; clear HFA; simp_all))
  case pos =>
  have tj : decide ((i : Int) < (n : Int)) = true := by simp; omega
  have tj' : decide (i < n) = true := by simp; omega
  have kb : (i : Int) < (n : Int) := by omega
  obtain ⟨x, hx⟩ : ∃ x, f.ways[i]? = some x := ⟨_, List.getElem?_eq_getElem (by rw [HN.out]; exact hlt)⟩
  obtain ⟨ab, ao, rfl⟩ := some_sl HL.out (k := i) (by rw [HN.out]; exact hlt)
  have c1 := cell_ext HBr.out (nu_rng HL.out hx)
  have hgd : f.ways.getD i 0 = x := by rw [List.getD_eq_getElem?_getD, hx]; rfl
  have htk : LsAt nuK w.heap.size w (f.ways.take i) (.slice (some ⟨ab, ao, none⟩) i ca) := by
   by_cases h0 : i = 0
   · subst h0; rw [List.take_zero]; exact .inl ⟨rfl, _, _, rfl⟩
   · have hL := HL.out
     rw [← HN.out] at hL
     exact takeSl hL i (by intro e; rw [e] at hx; simp at hx) (by rw [HN.out]; omega)
  have HC1 := Lib.hid (in49_any x 0 63 wr); have HC2 := Lib.hid (contains_any (f.ways.take i) x _ wr (htk.ext HBr.out))
  have hst := waysB_succ f.ways i
  obtain ⟨b1, h1⟩ : ∃ b, inB x 0 63 = b := ⟨_, rfl⟩
  obtain ⟨b2, h2⟩ : ∃ b, ((f.ways.take i).any fun y => x == y) = b := ⟨_, rfl⟩
  have hst2 : (fltA f && waysB f.ways (i + 1)) = ((fltA f && waysB f.ways i) && (b1 && !b2)) := by
   rw [hst, show wayB f.ways i = (b1 && !b2) by unfold wayB; rw [hgd, h1, h2], Bool.and_assoc]
  rw [h1] at HC1; rw [h2] at HC2
  obtain ⟨b0, h0⟩ : ∃ b, (fltA f && waysB f.ways i) = b := ⟨_, rfl⟩
  rw [h0] at hst2 ⊢
  have HST := Lib.hid hst2
  have n1 : (i : Int) ≤ (ca : Int) := by omega
  have n2 : i ≤ ca := by omega
  have Hlt := Lib.hid hlt
  clear hlt hx hgd htk hst hst2 h0 h1 h2 hi
  go_wp2_with (first
   | (go_at_call 34; refine HC1.out.mono ?_; go_loud (rintro e w' ⟨rfl, rfl⟩))
   | (go_at_call 153; refine HC2.out.mono ?_; go_loud (rintro e w' ⟨rfl, rfl⟩)))
  all_goals
   (go_roundw
    case rel => exact ⟨i + 1, by go_num, by (have h := HST.out; clear HC1 HC2 HST; simp_all), Hlt.out, HCr.out, HBr.out⟩
    case measure => (simp [natOf]; have := Hlt.out; omega))
end Go.Proofs.YtdblnbnofjggnaaGreatDoor
namespace Go.Proofs.YtdblnbnofjggnaaGreatDoor
open Go.RowKit
def cutB (frm : Int) (c : Cut) : Bool := inB c.ix 0 (if c.ap then 15 else 63) && inB c.less 0 64 && decide (frm ≤ c.mf) && decide (c.mf < c.mt) && decide (c.mt ≤ 1440)
set_option maxRecDepth 100000 in
set_option maxHeartbeats 4000000 in
theorem check1_any (c : Cut) (frm : Int) (g : Nat) (w : World) (hg : w.cell? ⟨g, 1, none⟩ = some (.int .i64 frm)) :
 Calls Tryz.prog 77 #[.agg c.cells.toArray, .pointer (some ⟨g, 0, none⟩)] w fun e w' => e = .returned (.bool (!cutB frm c)) ∧ Below w.heap.size w w' := by
 obtain ⟨ca, ci, cf, ct, cl⟩ := c
 have hb0 := b_al (w := w) (.cells #[.bool ca, .int .i64 ci, .int .i64 cf, .int .i64 ct, .int .i64 cl] 88)
 have HB := Lib.hid hb0
 have g1 := cell_ext hb0 hg
 have HR : Hid (cutB frm ⟨ca, ci, cf, ct, cl⟩ = (inB ci 0 (if ca then 15 else 63) && inB cl 0 64 && decide (frm ≤ cf) && decide (cf < ct) && decide (ct ≤ 1440))) := rfl
 have H1 := Lib.hid (fun (m : Int) W => fin_any ci 0 m W); have H2 := Lib.hid (fun W => fin_any cl 0 64 W)
 obtain ⟨b2, h2⟩ : ∃ b, inB cl 0 64 = b := ⟨_, rfl⟩
 obtain ⟨b3, h3⟩ : ∃ b, decide (frm ≤ cf) = b := ⟨_, rfl⟩
 obtain ⟨b4, h4⟩ : ∃ b, decide (cf < ct) = b := ⟨_, rfl⟩
 obtain ⟨b5, h5⟩ : ∃ b, decide (ct ≤ 1440) = b := ⟨_, rfl⟩
 have HR : Hid (cutB frm ⟨ca, ci, cf, ct, cl⟩ = (inB ci 0 (if ca then 15 else 63) && b2 && b3 && b4 && b5)) := by have := HR.out; rw [h2, h3, h4, h5] at this; exact this
 rw [h2] at H2
 have u3 : decide (cf < frm) = !b3 := by rw [← h3]; by_cases h : frm ≤ cf <;> simp [h] <;> omega
 have u4 : decide (ct ≤ cf) = !b4 := by rw [← h4]; by_cases h : cf < ct <;> simp [h] <;> omega
 have u5 : decide (1440 < ct) = !b5 := by rw [← h5]; by_cases h : ct ≤ 1440 <;> simp [h] <;> omega
 clear hb0 hg h2 h3 h4 h5
 change Calls Tryz.prog 77 #[.agg #[.bool ca, .int .i64 ci, .int .i64 cf, .int .i64 ct, .int .i64 cl], _] w _
 cases ca
 · obtain ⟨b1, h1⟩ : ∃ b, inB ci 0 63 = b := ⟨_, rfl⟩
   have HR : Hid (cutB frm ⟨false, ci, cf, ct, cl⟩ = (b1 && b2 && b3 && b4 && b5)) := by have := HR.out; show _ = _; rw [this, ← h1]; rfl
   have H1 := Lib.hid (fun W => H1.out 63 W)
   rw [h1] at H1
   clear h1
   go_enter Tryz.func77, Tryz.ntmps77
   by_cases hall : (b1 && b2 && b3 && b4 && b5) = true
   case neg =>
    have hno : (b1 && b2 && b3 && b4 && b5) = false := by simpa using hall
    have HNO := Lib.hid hno
    have HFA : Hid (cutB frm ⟨false, ci, cf, ct, cl⟩ = false) := by show _ = _; rw [HR.out, hno]
    clear hno hall HR
    go_wp2_with (first
    | (go_at_call 75; refine (H1.out _).mono ?_; go_loud (rintro e w' ⟨rfl, rfl⟩; clear H1))
    | (go_at_call 75; refine (H2.out _).mono ?_; go_loud (rintro e w' ⟨rfl, rfl⟩; clear H2)))
    all_goals first
     | (go_ret; exact ⟨by rw [HFA.out]; rfl, HB.out⟩)
     | (have h := HNO.out
        have h5 : b5 = false := by
         cases b5
         · rfl
         · exfalso; clear HFA; simp_all
        subst h5
        go_ret; exact ⟨by rw [HFA.out]; rfl, HB.out⟩)
   case pos =>
    have HFA : Hid (cutB frm ⟨false, ci, cf, ct, cl⟩ = true) := by show _ = _; rw [HR.out, hall]
    simp only [Bool.and_eq_true] at hall
    obtain ⟨⟨⟨⟨rfl, rfl⟩, rfl⟩, rfl⟩, rfl⟩ := hall
    clear HR
    go_wp2_with (first
    | (go_at_call 75; refine (H1.out _).mono ?_; go_loud (rintro e w' ⟨rfl, rfl⟩; clear H1))
    | (go_at_call 75; refine (H2.out _).mono ?_; go_loud (rintro e w' ⟨rfl, rfl⟩; clear H2)))
    go_ret
    exact ⟨by rw [HFA.out]; rfl, HB.out⟩
 · obtain ⟨b1, h1⟩ : ∃ b, inB ci 0 15 = b := ⟨_, rfl⟩
   have HR : Hid (cutB frm ⟨true, ci, cf, ct, cl⟩ = (b1 && b2 && b3 && b4 && b5)) := by have := HR.out; show _ = _; rw [this, ← h1]; rfl
   have H1 := Lib.hid (fun W => H1.out 15 W)
   rw [h1] at H1
   clear h1
   go_enter Tryz.func77, Tryz.ntmps77
   by_cases hall : (b1 && b2 && b3 && b4 && b5) = true
   case neg =>
    have hno : (b1 && b2 && b3 && b4 && b5) = false := by simpa using hall
    have HNO := Lib.hid hno
    have HFA : Hid (cutB frm ⟨true, ci, cf, ct, cl⟩ = false) := by show _ = _; rw [HR.out, hno]
    clear hno hall HR
    go_wp2_with (first
    | (go_at_call 75; refine (H1.out _).mono ?_; go_loud (rintro e w' ⟨rfl, rfl⟩; clear H1))
    | (go_at_call 75; refine (H2.out _).mono ?_; go_loud (rintro e w' ⟨rfl, rfl⟩; clear H2)))
    all_goals first
     | (go_ret; exact ⟨by rw [HFA.out]; rfl, HB.out⟩)
     | (have h := HNO.out
        have h5 : b5 = false := by
         cases b5
         · rfl
         · exfalso; clear HFA; simp_all
        subst h5
        go_ret; exact ⟨by rw [HFA.out]; rfl, HB.out⟩)
   case pos =>
    have HFA : Hid (cutB frm ⟨true, ci, cf, ct, cl⟩ = true) := by show _ = _; rw [HR.out, hall]
    simp only [Bool.and_eq_true] at hall
    obtain ⟨⟨⟨⟨rfl, rfl⟩, rfl⟩, rfl⟩, rfl⟩ := hall
    clear HR
    go_wp2_with (first
    | (go_at_call 75; refine (H1.out _).mono ?_; go_loud (rintro e w' ⟨rfl, rfl⟩; clear H1))
    | (go_at_call 75; refine (H2.out _).mono ?_; go_loud (rintro e w' ⟨rfl, rfl⟩; clear H2)))
    go_ret
    exact ⟨by rw [HFA.out]; rfl, HB.out⟩
set_option maxHeartbeats 4000000 in
theorem indexc_any (l : List Cut) (frm : Int) (g : Nat) (v : Value) (w : World) (hl : LsAt cuK w.heap.size w l v) (hg : w.cell? ⟨g, 1, none⟩ = some (.int .i64 frm)) :
 Calls Tryz.prog 149 #[v, .func (.func 77) #[] #[.pointer (some ⟨g, 0, none⟩)]] w fun e w' => (∃ r : Int, e = .returned (.int .i64 r) ∧ decide (0 ≤ r) = l.any (fun c => !cutB frm c)) ∧ Below w.heap.size w w' := by
 obtain ⟨oa, ca, rfl, la⟩ := hl.shape
 have HL := Lib.hid hl; have HG := Lib.hid hg
 obtain ⟨n, hn⟩ : ∃ n, l.length = n := ⟨_, rfl⟩
 rw [hn] at HL la ⊢
 have l1 : (n : Int) ≤ 9223372036854775807 := by omega
 have HN := Lib.hid hn
 clear hl hn la hg
 go_enter Tryz.func149, Tryz.ntmps149
 go_wp2_with fail
 go_loopw [8] (fun vi wr => (∃ i : Nat, vi = .int .i64 (i : Int) ∧ i ≤ n ∧ ∀ j y, j < i → l[j]? = some y → (!cutB frm y) = false) ∧ Below w.heap.size w wr) (fun vi _ => n - natOf vi)
 case atStart => exact ⟨⟨0, rfl, by omega, fun j y h => by omega⟩, Below.refl _ _⟩
 case round =>
  obtain ⟨⟨i, rfl, hi, hs⟩, hb⟩ := hrel
  have HS := Lib.hid hs; have HBr := Lib.hid hb
  clear hs hb
  by_cases hlt : i < n
  case neg =>
   obtain rfl : i = n := by omega
   have tj : decide ((i : Int) < (i : Int)) = false := by simp
   have HE : Hid (l.any (fun c => !cutB frm c) = false) := by
    show _ = _
    rw [List.any_eq_false]
    intro y hy
    obtain ⟨j, hj⟩ := List.mem_iff_getElem?.1 hy
    have hj' := HS.out j y (by have := (List.getElem?_eq_some_iff.1 hj).1; have := HN.out; omega) hj
    rw [hj']; simp
   go_wp2_with fail
   go_ret
   exact ⟨⟨-1, rfl, by rw [HE.out]; rfl⟩, HBr.out⟩
  case pos =>
  have tj : decide ((i : Int) < (n : Int)) = true := by simp; omega
  have tj' : decide (i < n) = true := by simp; omega
  have kb : (i : Int) < (n : Int) := by omega
  obtain ⟨y, hy⟩ : ∃ y, l[i]? = some y := ⟨_, List.getElem?_eq_getElem (by rw [HN.out]; exact hlt)⟩
  obtain ⟨ab, ao, rfl⟩ := some_sl HL.out (k := i) (by rw [HN.out]; exact hlt)
  have HR := Lib.hid (rng_ext (el_rngK HL.out hy) HBr.out)
  have HC1 := Lib.hid (check1_any y frm g wr (cell_ext HBr.out HG.out))
  have Hlt := Lib.hid hlt; have Hy := Lib.hid hy
  obtain ⟨b, hb⟩ : ∃ b, (!cutB frm y) = b := ⟨_, rfl⟩
  have HBb := Lib.hid hb
  rw [hb] at HC1
  clear hlt hy hi hb
  cases b
  · go_wp2_with (first
     | (have _g := HR.out; refine wpList_load_mg (by rfl) 88 (.tmp 14) rfl ab (ao + i * 5) rfl y.cells _ HR.out Tryz.underlying88 rfl (by kernel_rfl) ?_)
     | (go_at_call 77; refine HC1.out.mono ?_; go_loud (rintro e w2 ⟨rfl, hb⟩; have HB2 := Lib.hid (below_ext HBr.out hb); clear hb)))
    go_roundw
    case rel => exact ⟨⟨i + 1, by go_num, Hlt.out, fun j z hj hz => by
     rcases Nat.lt_succ_iff_lt_or_eq.1 hj with h | h
     · exact HS.out j z h hz
     · subst h
       have := Hy.out.symm.trans hz
       injection this with this
       rw [← this]; exact HBb.out⟩, HB2.out⟩
    case measure => simp [natOf]; have := Hlt.out; omega
  · go_wp2_with (first
     | (have _g := HR.out; refine wpList_load_mg (by rfl) 88 (.tmp 14) rfl ab (ao + i * 5) rfl y.cells _ HR.out Tryz.underlying88 rfl (by kernel_rfl) ?_)
     | (go_at_call 77; refine HC1.out.mono ?_; go_loud (rintro e w2 ⟨rfl, hb⟩; have HB2 := Lib.hid (below_ext HBr.out hb); clear hb)))
    go_ret
    exact ⟨⟨(i : Int), rfl, by
     have : l.any (fun c => !cutB frm c) = true := List.any_eq_true.2 ⟨y, List.mem_of_getElem? Hy.out, HBb.out⟩
     rw [this]; simp⟩, HB2.out⟩
theorem containsc_any (l : List Cut) (frm : Int) (g : Nat) (v : Value) (w : World) (hl : LsAt cuK w.heap.size w l v) (hg : w.cell? ⟨g, 1, none⟩ = some (.int .i64 frm)) :
 Calls Tryz.prog 76 #[v, .func (.func 77) #[] #[.pointer (some ⟨g, 0, none⟩)]] w fun e w' => e = .returned (.bool (l.any fun c => !cutB frm c)) ∧ Below w.heap.size w w' := by
 have HC := Lib.hid (indexc_any l frm g v w hl hg)
 obtain ⟨oa, ca, rfl, -⟩ := hl.shape
 clear hl hg
 go_enter Tryz.func76, Tryz.ntmps76
 go_wp2_with (go_at_call 149; refine HC.out.mono ?_; rintro e w2 ⟨⟨r, rfl, hr⟩, hb⟩)
 go_ret
 exact ⟨by rw [← hr]; rfl, hb⟩
end Go.Proofs.YtdblnbnofjggnaaGreatDoor
namespace Go.Proofs.YtdblnbnofjggnaaGreatDoor
open Go.RowKit
open Go.Maps (Keyed)
theorem keyed_int : Keyed Tryz.prog 3 := Maps.int_keyed Tryz.underlying3
theorem key_int {a : Int} (h : (Lit.int .i64 a).wf = true) : keyOf Tryz.prog 3 (.int .i64 a) = some (.int .i64 a) := Maps.keyOf_int_mk Tryz.underlying3 h
theorem zero_int (w : World) : (zeroValue 3).run Tryz.prog w = .ok (.int .i64 0) w := by kernel_rfl
theorem key_lit (a : Int) : WideAt.IsKeyLit (.int .i64 a) := trivial
theorem lit_ne {a b : Int} (h : a ≠ b) : (Lit.int .i64 a) ≠ (Lit.int .i64 b) := fun e => h (by injection e)
def unI : DataW Nat → Int
 | .lit (.int _ n) => n
 | _ => 0
def KnAt (w : World) (b n : Nat) (T : Int → Option Int) : Prop :=
 ∃ D : DataW Nat, w.ownsMap Tryz.prog 3 (plainElem Tryz.prog 3) b n D ∧ (∀ t : Int, Maps.has D (.int .i64 t) = (T t).isSome) ∧ ∀ t : Int, (Lit.int .i64 t).wf = true → D.atKey (.int .i64 t) (.lit (.int .i64 0)) = .lit (.int .i64 ((T t).getD 0))
theorem KnAt.made (w : World) : KnAt (w.alloc (.map #[] 0)) w.heap.size 0 (fun _ => none) := ⟨_, World.ownsMap_made w _ _ _, fun _ => rfl, fun _ _ => rfl⟩
theorem KnAt.lt {w : World} {b n : Nat} {T : Int → Option Int} (h : KnAt w b n T) : b < w.heap.size := by obtain ⟨D, h, _⟩ := h; exact h.lt
theorem KnAt.ext {w w' : World} {b n : Nat} {T : Int → Option Int} (h : KnAt w b n T) (hb : Below w.heap.size w w') : KnAt w' b n T := by
 obtain ⟨D, ⟨es, clock, h1, F, hs, hD⟩, q⟩ := h
 have hlt : b < w.heap.size := (Array.getElem?_eq_some_iff.1 h1).1
 exact ⟨D, ⟨es, clock, (hb.block b hlt).trans h1, F, hs, hD⟩, q⟩
theorem KnAt.look {w : World} {b n : Nat} {T : Int → Option Int} (h : KnAt w b n T) {t : Int} (ht : (Lit.int .i64 t).wf = true) :
 (Instr.lookup 117 (.map (some b)) (.int .i64 t) true).run Tryz.prog w = .ok (.tuple #[.int .i64 ((T t).getD 0), .bool (T t).isSome]) w := by
 obtain ⟨D, h, q1, q2⟩ := h
 obtain ⟨v, ps, hrun, hv⟩ := h.look_ok keyed_int Tryz.underlying117 (zero_int w) (plainElem_int Tryz.underlying3 (by decide)) (key_int ht)
 rw [q1 t] at hrun
 obtain ⟨c, rfl, hc, hwc⟩ := plainElem_int_inv Tryz.underlying3 hv
 rw [q2 t ht] at hc
 simp only [Prod.mk.injEq] at hc
 have h2 : (T t).getD 0 = c := congrArg unI hc.1
 rw [h2]; exact hrun
theorem KnAt.update {w : World} {b n : Nat} {T : Int → Option Int} (h : KnAt w b n T) (hn : n < maxLen) {t v : Int} (ht : (Lit.int .i64 t).wf = true) (hv : (Lit.int .i64 v).wf = true) :
 ∃ w', (Instr.mapUpdate 117 (.map (some b)) (.int .i64 t) (.int .i64 v)).run Tryz.prog w = .ok () w' ∧ KnAt w' b (n + 1) (fun s => if s = t then some v else T s) ∧ w.grownBy w' (some b) := by
 obtain ⟨D, h, q1, q2⟩ := h
 obtain ⟨w', h1, h2, h3⟩ := h.update keyed_int Tryz.underlying117 hn (key_int ht) (plainElem_int (H := Nat) Tryz.underlying3 hv)
 refine ⟨w', h1, ⟨_, h2, fun s => ?_, fun s hs => ?_⟩, h3⟩
 · by_cases he : s = t
   · subst he
     rw [Maps.has_put_same h.isMap (key_lit _)]; simp
   · rw [Maps.has_put_other (lit_ne he), q1 s]; simp [he]
 · by_cases he : s = t
   · subst he
     rw [Maps.atKey_put_same h.isMap (key_lit _)]; simp
   · rw [Maps.atKey_put_other (lit_ne he), q2 s hs]; simp [he]
end Go.Proofs.YtdblnbnofjggnaaGreatDoor
namespace Go.Proofs.YtdblnbnofjggnaaGreatDoor
open Go.RowKit
def frmAt (l : List Nod) (p : Int) : Int := ((l[p.toNat]?).map Nod.frm).getD 0
def sibB (l : List Nod) (i : Nat) (t : Nod) : Bool := ((l.take i).drop 1).all fun s => decide (s.par ≠ t.par) || decide (s.frm = t.frm)
def cutsB (t : Nod) : Bool := t.cuts.all (cutB t.frm) && decide (t.cuts.length ≤ 64)
def parB (l : List Nod) (i : Nat) (t : Nod) : Bool := if i = 0 then decide (t.par = -1) && decide (t.frm = 0) else inB t.par 0 ((i : Int) - 1) && inB t.frm (frmAt l t.par + 1) 1439
def nodB (l : List Nod) (i : Nat) (t : Nod) : Bool := parB l i t && sibB l i t && cutsB t
def nodsB (l : List Nod) : Bool := (List.range l.length).all fun i => match l[i]? with
 | some t => nodB l i t
 | none => true
def treeB (l : List Nod) : Bool := decide (1 ≤ l.length) && decide (l.length ≤ 32) && nodsB l
theorem nodsB_bad {l : List Nod} {i : Nat} {t : Nod} (ht : l[i]? = some t) (h : nodB l i t = false) : treeB l = false := by
 have : nodsB l = false := by
  unfold nodsB
  rw [List.all_eq_false]
  exact ⟨i, List.mem_range.2 (List.getElem?_eq_some_iff.1 ht).1, by rw [ht]; simp [h]⟩
 unfold treeB; rw [this]; simp
theorem nodsB_all {l : List Nod} (h1 : 1 ≤ l.length) (h2 : l.length ≤ 32) (h : ∀ j t, j < l.length → l[j]? = some t → nodB l j t = true) : treeB l = true := by
 have : nodsB l = true := by
  unfold nodsB
  rw [List.all_eq_true]
  intro i hi
  have hi := List.mem_range.1 hi
  have hg : l[i]? = some l[i] := List.getElem?_eq_getElem hi
  rw [hg]; exact h i _ hi hg
 unfold treeB; rw [this, decide_eq_true h1, decide_eq_true h2]; rfl
theorem sib_true {l : List Nod} {i : Nat} {t : Nod} (h : ∀ j s, 1 ≤ j → j < i → l[j]? = some s → s.par = t.par → s.frm = t.frm) : sibB l i t = true := by
 unfold sibB
 rw [List.all_eq_true]
 intro s hs
 obtain ⟨k, hk⟩ := List.mem_iff_getElem?.1 hs
 rw [List.getElem?_drop] at hk
 have hlt : 1 + k < i := by
  have := (List.getElem?_eq_some_iff.1 hk).1
  rw [List.length_take] at this; omega
 rw [List.getElem?_take_of_lt hlt] at hk
 by_cases hp : s.par = t.par
 · have := h (1 + k) s (by omega) hlt hk hp
   simp [this]
 · simp [hp]
theorem sib_false {l : List Nod} {i j : Nat} {t s : Nod} (h1 : 1 ≤ j) (h2 : j < i) (hs : l[j]? = some s) (hp : s.par = t.par) (hf : s.frm ≠ t.frm) : sibB l i t = false := by
 unfold sibB
 rw [List.all_eq_false]
 refine ⟨s, ?_, by simp [hp, hf]⟩
 rw [List.mem_iff_getElem?]
 exact ⟨j - 1, by rw [List.getElem?_drop, show 1 + (j - 1) = j by omega, List.getElem?_take_of_lt h2]; exact hs⟩
theorem nod_frm {l : List Nod} {i : Nat} (h : ∀ j t, j < i → l[j]? = some t → nodB l j t = true) : ∀ j t, j < i → l[j]? = some t → 0 ≤ t.frm ∧ t.frm ≤ 1439 := by
 intro j
 induction j using Nat.strongRecOn with
 | ind j ih =>
  intro t hj ht
  have hn := h j t hj ht
  unfold nodB parB at hn
  simp only [Bool.and_eq_true] at hn
  by_cases h0 : j = 0
  · rw [if_pos h0] at hn
    simp only [Bool.and_eq_true, decide_eq_true_eq] at hn
    omega
  · rw [if_neg h0] at hn
    have hp := hn.1.1
    unfold inB at hp
    simp only [Bool.and_eq_true, decide_eq_true_eq] at hp
    have hlt : t.par.toNat < j := by omega
    have hl := (List.getElem?_eq_some_iff.1 ht).1
    have hg : l[t.par.toNat]? = some l[t.par.toNat] := List.getElem?_eq_getElem (by omega)
    have hb := ih t.par.toNat hlt _ (by omega) hg
    have he : frmAt l t.par = (l[t.par.toNat]).frm := by unfold frmAt; rw [hg]; rfl
    omega
def KnI (l : List Nod) (i : Nat) (T : Int → Option Int) : Prop :=
 (∀ p f, T p = some f → ∃ j s, 1 ≤ j ∧ j < i ∧ l[j]? = some s ∧ s.par = p ∧ s.frm = f) ∧ ∀ j s, 1 ≤ j → j < i → l[j]? = some s → T s.par = some s.frm
theorem kn_start (l : List Nod) : KnI l 0 (fun _ => none) := ⟨fun p f h => by simp at h, fun j s _ h => by omega⟩
theorem kn_one {l : List Nod} {T : Int → Option Int} (h : KnI l 0 T) : KnI l 1 T :=
 ⟨fun p f hp => by obtain ⟨j, s, h1, h2, _⟩ := h.1 p f hp; omega, fun j s h1 h2 => by omega⟩
theorem kn_step {l : List Nod} {i : Nat} {T : Int → Option Int} {t : Nod} (h : KnI l i T) (hi : 1 ≤ i) (ht : l[i]? = some t) (ho : ∀ f, T t.par = some f → f = t.frm) :
 KnI l (i + 1) (fun s => if s = t.par then some t.frm else T s) := by
 refine ⟨fun p f hp => ?_, fun j s h1 h2 hs => ?_⟩
 · by_cases he : p = t.par
   · simp only [he, if_pos] at hp
     injection hp with hp
     exact ⟨i, t, hi, by omega, ht, he.symm, hp⟩
   · simp only [if_neg he] at hp
     obtain ⟨j, s, a, b, c⟩ := h.1 p f hp
     exact ⟨j, s, a, by omega, c⟩
 · by_cases hj : j = i
   · subst hj
     rw [ht] at hs; injection hs with hs
     subst hs; simp
   · have hT := h.2 j s h1 (by omega) hs
     by_cases he : s.par = t.par
     · have := ho s.frm (by rw [← he]; exact hT)
       simp [he, this]
     · simp only [if_neg he]; exact hT
theorem kn_sib {l : List Nod} {i : Nat} {T : Int → Option Int} {t : Nod} (h : KnI l i T) (ho : ∀ f, T t.par = some f → f = t.frm) : sibB l i t = true :=
 sib_true fun j s h1 h2 hs hp => ho s.frm (by rw [← hp]; exact h.2 j s h1 h2 hs)
theorem kn_bad {l : List Nod} {i : Nat} {T : Int → Option Int} {t : Nod} {f : Int} (h : KnI l i T) (hf : T t.par = some f) (hne : f ≠ t.frm) : sibB l i t = false := by
 obtain ⟨j, s, h1, h2, hs, hp, rfl⟩ := h.1 _ _ hf
 exact sib_false h1 h2 hs hp hne
theorem frmAt_nat {l : List Nod} {p : Nat} {s : Nod} (h : l[p]? = some s) : frmAt l (p : Int) = s.frm := by
 unfold frmAt
 rw [show (p : Int).toNat = p by omega, h]; rfl
theorem nod_first {l : List Nod} {t : Nod} (h1 : t.par = -1) (h2 : t.frm = 0) (hc : cutsB t = true) : nodB l 0 t = true := by
 unfold nodB parB; rw [if_pos rfl, decide_eq_true h1, decide_eq_true h2, hc]; unfold sibB; simp
theorem nod_cuts {l : List Nod} {i : Nat} {t : Nod} (h : cutsB t = false) : nodB l i t = false := by unfold nodB; rw [h]; simp
theorem nod_par {l : List Nod} {i : Nat} {t : Nod} (h : parB l i t = false) : nodB l i t = false := by unfold nodB; rw [h]; rfl
theorem nod_sib {l : List Nod} {i : Nat} {t : Nod} (h : sibB l i t = false) : nodB l i t = false := by unfold nodB; rw [h]; simp
theorem nod_all {l : List Nod} {i : Nat} {t : Nod} (h1 : parB l i t = true) (h2 : sibB l i t = true) (h3 : cutsB t = true) : nodB l i t = true := by unfold nodB; rw [h1, h2, h3]; rfl
theorem cuts_any {t : Nod} (h : (t.cuts.any fun c => !cutB t.frm c) = true) : cutsB t = false := by
 unfold cutsB
 obtain ⟨c, hc, hb⟩ := List.any_eq_true.1 h
 have : t.cuts.all (cutB t.frm) = false := List.all_eq_false.2 ⟨c, hc, by simpa using hb⟩
 rw [this]; rfl
theorem cuts_none {t : Nod} (h : (t.cuts.any fun c => !cutB t.frm c) = false) : cutsB t = decide (t.cuts.length ≤ 64) := by
 unfold cutsB
 have : t.cuts.all (cutB t.frm) = true := List.all_eq_true.2 fun c hc => by
  have := List.any_eq_false.1 h c hc
  simpa using this
 rw [this]; rfl
end Go.Proofs.YtdblnbnofjggnaaGreatDoor
namespace Go.Proofs.YtdblnbnofjggnaaGreatDoor
open Go.RowKit
def FcRel (l : List Nod) (n : Nat) (w : World) (vi : Value) (wr : World) : Prop :=
 ∃ (i k : Nat) (T : Int → Option Int), vi = .int .i64 (i : Int) ∧ i ≤ n ∧ k ≤ i ∧ (∀ j y, j < i → l[j]? = some y → nodB l j y = true) ∧ KnI l i T ∧ KnAt wr w.heap.size k T ∧ Below w.heap.size w wr
theorem fin_q (n a b : Int) (w : World) : Calls Tryz.prog 75 #[.int .i64 n, .int .i64 a, .int .i64 b] w fun e w' => e = .returned (.bool (inB n a b)) ∧ w' = w := by
 refine (fin_any n a b w).mono ?_
 rintro e w' ⟨rfl, rfl⟩
 exact ⟨rfl, rfl⟩
set_option maxRecDepth 100000 in
set_option maxHeartbeats 8000000 in
theorem fcheck_any (l : List Nod) (v : Value) (w : World) (hl : TreeAt w l v) :
 Calls Tryz.prog 30 #[v] w fun e w' => e = .returned (.int .i64 (if treeB l then 0 else 180)) ∧ Below w.heap.size w w' := by
 obtain ⟨oa, cap, rfl, la⟩ := hl.shape
 have HL := Lib.hid hl
 obtain ⟨n, hn⟩ : ∃ n, l.length = n := ⟨_, rfl⟩
 rw [hn] at HL la ⊢
 have l1 : (n : Int) ≤ 9223372036854775807 := by omega
 have HN := Lib.hid hn
 obtain ⟨Z, hZ⟩ : ∃ z : Int, (if treeB l then (0 : Int) else 180) = z := ⟨_, rfl⟩
 have HZ := Lib.hid hZ
 rw [hZ]
 clear hl hn la hZ
 have HI := Lib.hid (fun W => fin_any (n : Int) 1 32 W)
 go_enter Tryz.func30, Tryz.ntmps30
 go_wp2_with fail
 go_step3
 by_cases hin : inB (n : Int) 1 32 = true
 case neg =>
  have hin : inB (n : Int) 1 32 = false := by simpa using hin
  rw [hin] at HI
  have HE : Hid (Z = 180) := by
   show _ = _
   have : treeB l = false := by
    unfold treeB; rw [HN.out]
    unfold inB at hin
    by_cases h1 : 1 ≤ n
    · have : ¬ n ≤ 32 := fun h2 => by simp at hin; omega
      simp [this]
    · simp [h1]
   rw [← HZ.out, this]; rfl
  clear hin
  go_wp2_with (go_at_call 75; refine (HI.out _).mono ?_; go_loud (rintro e w' ⟨rfl, rfl⟩))
  (try rw [Exit.noGoto_ret]); go_ret
  exact ⟨by rw [HE.out]; rfl, Below.refl _ _⟩
 case pos =>
 rw [hin] at HI
 have hn1 : 1 ≤ n ∧ n ≤ 32 := by unfold inB at hin; simp at hin; omega
 obtain ⟨n1, n2⟩ := hn1
 clear hin
 obtain ⟨t0, ht0⟩ : ∃ t, l[0]? = some t := ⟨_, List.getElem?_eq_getElem (by rw [HN.out]; omega)⟩
 obtain ⟨ab, ao, r0, rfl, _, hel, hr0⟩ := HL.out.el ht0
 obtain ⟨rp, rf, ro, rn, rc⟩ := r0
 have c0 : w.cell? ⟨ab, ao, none⟩ = some (.int .i64 rp) := by have := hel 0 _ rfl; simpa using this
 have c1 : w.cell? ⟨ab, ao + 1, none⟩ = some (.int .i64 rf) := by have := hel 1 _ rfl; simpa using this
 obtain ⟨p1, p2, _⟩ := hr0
 change rp = t0.par at p1; change rf = t0.frm at p2
 have HT0 := Lib.hid ht0
 have k0 : (0 : Int) < (n : Int) := by omega
 have k0' : decide ((0 : Int) < (n : Int)) = true := decide_eq_true k0
 have k0'' : decide (0 < n) = true := decide_eq_true (by omega)
 clear ht0 hel
 by_cases hp : rp = -1 ∧ rf = 0
 case neg =>
  have HE : Hid (Z = 180) := by
   show _ = _
   have : treeB l = false := nodsB_bad HT0.out (nod_par (by
    unfold parB; rw [if_pos rfl, ← p1, ← p2]
    by_cases h1 : rp = -1
    · have : rf ≠ 0 := fun h2 => hp ⟨h1, h2⟩
      simp [this]
    · simp [h1]))
   rw [← HZ.out, this]; rfl
  clear p1 p2
  by_cases h1 : rp = -1
  · subst h1
    have h2 : rf ≠ 0 := fun h2 => hp ⟨rfl, h2⟩
    have u1 : decide (rf = 0) = false := decide_eq_false h2
    have u2 : (rf == 0) = false := beq_false_of_ne h2
    clear hp h2
    go_wp2_with (go_at_call 75; refine (HI.out _).mono ?_; go_loud (rintro e w' ⟨rfl, rfl⟩))
    (try rw [Exit.noGoto_ret]); go_ret
    exact ⟨by rw [HE.out]; rfl, Below.refl _ _⟩
  · have u1 : decide (rp = -1) = false := decide_eq_false h1
    have u2 : (rp == -1) = false := beq_false_of_ne h1
    clear hp h1
    go_wp2_with (go_at_call 75; refine (HI.out _).mono ?_; go_loud (rintro e w' ⟨rfl, rfl⟩))
    (try rw [Exit.noGoto_ret]); go_ret
    exact ⟨by rw [HE.out]; rfl, Below.refl _ _⟩
 case pos =>
 obtain ⟨rfl, rfl⟩ := hp
 have HP1 := Lib.hid p1.symm; have HP2 := Lib.hid p2.symm
 clear p1 p2
 have HK0 := Lib.hid (KnAt.made w)
 have HB0 := Lib.hid (b_al (w := w) (.map #[] 0))
 have hmm := @run_makeMap Tryz.prog
 go_wp2_with (go_at_call 75; refine (HI.out _).mono ?_; go_loud (rintro e w' ⟨rfl, rfl⟩))
 go_step3
 clear hmm c0 c1 k0 k0' k0'' HI
 generalize w.alloc (.map #[] 0) = w1 at *
 go_wp2_with fail
 go_loopw [30] (fun vi wr => FcRel l n w vi wr) (fun vi _ => n - natOf vi)
 case atStart => exact ⟨0, 0, _, rfl, by omega, by omega, fun j y h => by omega, kn_start l, HK0.out, HB0.out⟩
 case round =>
  obtain ⟨i, k, T, rfl, hi, hk, hs, hkn, hat, hb⟩ := hrel
  have HS := Lib.hid hs; have HKn := Lib.hid hkn; have HAt := Lib.hid hat; have HBr := Lib.hid hb
  clear hs hkn hat hb HK0 HB0
  by_cases hlt : i < n
  case neg =>
   obtain rfl : i = n := by omega
   have tj : decide ((i : Int) < (i : Int)) = false := by simp
   have HE : Hid (Z = 0) := by
    show _ = _
    rw [← HZ.out, nodsB_all (by rw [HN.out]; exact n1) (by rw [HN.out]; exact n2) (fun j t hj ht => HS.out j t (by rw [← HN.out]; exact hj) ht)]; rfl
   go_wp2_with fail
   (try rw [Exit.noGoto_ret]); go_ret
   exact ⟨by rw [HE.out]; rfl, HBr.out⟩
  case pos =>
  have tj : decide ((i : Int) < (n : Int)) = true := by simp; omega
  have tj' : decide (i < n) = true := by simp; omega
  have kb : (i : Int) < (n : Int) := by omega
  have hi32 : (i : Int) < 32 := by omega
  obtain ⟨t, ht⟩ : ∃ t, l[i]? = some t := ⟨_, List.getElem?_eq_getElem (by rw [HN.out]; exact hlt)⟩
  obtain ⟨ab', ao', r, he, _, hel, hr⟩ := HL.out.el ht
  injection he with he; injection he with e1 e2 _
  subst e1 e2
  have hm32 : k < maxLen := by unfold maxLen; omega
  obtain ⟨rp, rf, ro, rn, rc⟩ := r
  have c0 : wr.cell? ⟨ab, ao + i * 3, none⟩ = some (.int .i64 rp) := cell_ext HBr.out (hel 0 _ rfl)
  have c1 : wr.cell? ⟨ab, ao + i * 3 + 1, none⟩ = some (.int .i64 rf) := cell_ext HBr.out (hel 1 _ rfl)
  have c2 : wr.cell? ⟨ab, ao + i * 3 + 2, none⟩ = some (.slice ro rn rc) := cell_ext HBr.out (hel 2 _ rfl)
  have hbx := b_al (w := wr) (.cells #[.int .i64 rp, .int .i64 rf, .slice ro rn rc] 48)
  have hcx : CB (wr.alloc (.cells #[.int .i64 rp, .int .i64 rf, .slice ro rn rc] 48)) wr.heap.size 48 [.int .i64 rp, .int .i64 rf, .slice ro rn rc] := CB.new wr _ _
  have HCX := Lib.hid hcx
  have HBx := Lib.hid (below_ext HBr.out hbx)
  have HAx := Lib.hid (HAt.out.ext hbx)
  have hcu : LsAt cuK (wr.alloc (.cells #[.int .i64 rp, .int .i64 rf, .slice ro rn rc] 48)).heap.size (wr.alloc (.cells #[.int .i64 rp, .int .i64 rf, .slice ro rn rc] 48)) t.cuts (.slice ro rn rc) := (hr.cuts.ext HBr.out).ext hbx
  obtain ⟨oa2, ca2, he2, lq⟩ := hcu.shape
  injection he2 with q1 q2 q3
  have hfr : rf = t.frm := hr.frm
  have hpa : rp = t.par := hr.par
  have HCC := Lib.hid (containsc_any t.cuts t.frm wr.heap.size _ _ hcu (by rw [← hfr]; exact hcx.cell 1))
  have l2 : (rn : Int) ≤ 9223372036854775807 := by omega
  have HRn := Lib.hid q2
  have d2 : (wr.alloc (.cells #[.int .i64 rp, .int .i64 rf, .slice ro rn rc] 48)).cell? ⟨wr.heap.size, 2, none⟩ = some (.slice ro rn rc) := hcx.cell 2
  obtain ⟨bc, hbc⟩ : ∃ b, (t.cuts.any fun c => !cutB t.frm c) = b := ⟨_, rfl⟩
  rw [hbc] at HCC
  have Hbc := Lib.hid hbc; have Hlt := Lib.hid hlt; have Ht := Lib.hid ht; have Hel := Lib.hid hel
  have Hfr := Lib.hid hfr; have Hpa := Lib.hid hpa
  clear hbc hlt ht hel hr hcu hcx hbx q1 q2 q3 hfr hpa lq
  have hmf : ∀ (fn : Fn) (first cap : Array Value) (w : World), (Instr.makeFunc fn first cap).run Tryz.prog w = .ok (.func fn first cap) w := fun _ _ _ _ => rfl
  have HBAD : Hid (nodB l i t = false → Z = 180) := fun h => by rw [← HZ.out, nodsB_bad Ht.out h]; rfl
  go_upto_region 7 with fail
  clear c0 c1 c2
  generalize wr.alloc (.cells #[.int .i64 rp, .int .i64 rf, .slice ro rn rc] 48) = w1 at *
  cases bc
  case true =>
   have HE : Hid (Z = 180) := HBAD.out (nod_cuts (cuts_any Hbc.out))
   go_wp2_with (go_at_call 76; refine HCC.out.mono ?_; go_loud (rintro e w2 ⟨rfl, hb⟩; have HB2 := Lib.hid hb; clear hb HCC))
   (try rw [Exit.noGoto_ret]); go_ret
   exact ⟨by rw [HE.out]; rfl, below_ext HBx.out HB2.out⟩
  case false =>
  go_upto_region 8 with (go_at_call 76; refine HCC.out.mono ?_; go_loud (rintro e w2 ⟨rfl, hb⟩; have HB2 := Lib.hid hb; clear hb HCC))
  clear d2 hmf
  have HB3 := Lib.hid (below_ext HBx.out HB2.out)
  have HA3 := Lib.hid (HAx.out.ext HB2.out)
  have hcx := HCX.out.ext HB2.out
  have e0 : w2.cell? ⟨wr.heap.size, 0, none⟩ = some (.int .i64 rp) := hcx.cell 0
  have e1 : w2.cell? ⟨wr.heap.size, 1, none⟩ = some (.int .i64 rf) := hcx.cell 1
  have e2 : w2.cell? ⟨wr.heap.size, 2, none⟩ = some (.slice ro rn rc) := hcx.cell 2
  clear hcx HB2 HAx HAt HCX
  by_cases hc64 : rn ≤ 64
  case neg =>
   have HE : Hid (Z = 180) := HBAD.out (nod_cuts (by rw [cuts_none Hbc.out, ← HRn.out]; simp [hc64]))
   have u1 : decide ((64 : Int) < (rn : Int)) = true := decide_eq_true (by omega)
   clear hc64
   go_wp2_with fail
   (try rw [Exit.noGoto_ret]); go_ret
   exact ⟨by rw [HE.out]; rfl, HB3.out⟩
  case pos =>
  have u1 : decide ((64 : Int) < (rn : Int)) = false := decide_eq_false (by omega)
  have HCU : Hid (cutsB t = true) := by show _ = _; rw [cuts_none Hbc.out, ← HRn.out]; simp [hc64]
  clear hc64
  by_cases hi0 : i = 0
  case pos =>
   subst hi0
   go_wp2_with fail
   have hTt : t = t0 := by have := Ht.out.symm.trans HT0.out; injection this
   subst hTt
   have hno : nodB l 0 t = true := nod_first HP1.out HP2.out HCU.out
   go_roundw
   case rel => exact ⟨1, k, T, by go_num, Hlt.out, by omega, fun j z hj hz => by
    have : j = 0 := by omega
    subst this
    have := Ht.out.symm.trans hz
    injection this with this
    rw [← this]; exact hno, kn_one HKn.out, HA3.out, HB3.out⟩
   case measure => simp [natOf]; have := Hlt.out; omega
  case neg =>
  have v0 : decide ((i : Int) = 0) = false := decide_eq_false (by omega)
  have v0' : ((i : Int) == 0) = false := beq_false_of_ne (by omega)
  have v0'' : decide (i = 0) = false := decide_eq_false (by omega)
  have w1' : IntKind.i64.wrap ((i : Int) - 1) = (i : Int) - 1 := IntWalk.i64_in _ (by omega)
  have w1'' : wrap64 ((i : Int) - 1) = (i : Int) - 1 := by first | (unfold wrap64; omega) | exact (IntKind.wrap_i64 _).symm.trans w1'
  obtain ⟨b1, h1⟩ : ∃ b, inB rp 0 ((i : Int) - 1) = b := ⟨_, rfl⟩
  go_upto_region 11 with fail
  cases b1
  case false =>
   have HE : Hid (Z = 180) := HBAD.out (nod_par (by unfold parB; rw [if_neg hi0, ← Hpa.out, h1]; rfl))
   go_quiet ((go_at_call 75; exact Calls.quiet_of_same (fin_q _ _ _ _)))
   go_wp2_with fail
   (try rw [Exit.noGoto_ret]); go_ret
   exact ⟨by rw [HE.out]; rfl, below_drewN2 HB3.out nq⟩
  case true =>
  have hr1 : 0 ≤ rp ∧ rp ≤ (i : Int) - 1 := by unfold inB at h1; simp only [Bool.and_eq_true, decide_eq_true_eq] at h1; omega
  obtain ⟨p, rfl⟩ := Int.eq_ofNat_of_zero_le hr1.1
  have hpi : p < i := by omega
  have hpn : (p : Int) < (n : Int) := by omega
  have hpn' : decide ((p : Int) < (n : Int)) = true := decide_eq_true hpn
  have hpn'' : decide (p < n) = true := decide_eq_true (by omega)
  obtain ⟨s, hs⟩ : ∃ s, l[p]? = some s := ⟨_, List.getElem?_eq_getElem (by rw [HN.out]; omega)⟩
  obtain ⟨ab', ao', q, he, _, helq, hq⟩ := HL.out.el hs
  injection he with he; injection he with e1' e2' _
  subst e1' e2'
  have g1 : w2.cell? ⟨ab, ao + p * 3 + 1, none⟩ = some (.int .i64 s.frm) := by rw [← hq.frm]; exact cell_ext HB3.out (helq 1 _ rfl)
  have hfm := nod_frm HS.out p s hpi hs
  have x1 : IntKind.i64.wrap (s.frm + 1) = s.frm + 1 := IntWalk.i64_in _ (by omega)
  have x2 : wrap64 (s.frm + 1) = s.frm + 1 := by first | (unfold wrap64; omega) | exact (IntKind.wrap_i64 _).symm.trans x1
  obtain ⟨b2, h2⟩ : ∃ b, inB rf (s.frm + 1) 1439 = b := ⟨_, rfl⟩
  have HPB : Hid (parB l i t = b2) := by show _ = _; unfold parB; rw [if_neg hi0, ← Hpa.out, h1, frmAt_nat hs, ← Hfr.out, h2]; rfl
  have hwfp : (Lit.int .i64 (p : Int)).wf = true := by
   simp only [Lit.wf, Bool.and_eq_true, decide_eq_true_eq]; simp [IntKind.min, IntKind.max, IntKind.signed, IntKind.bits]; omega
  have Hwfp := Lib.hid hwfp
  have H2 := Lib.hid h2; have Hhfm := Lib.hid hfm
  clear hr1 hpi hs helq hq hfm hwfp
  cases b2
  case false =>
   have HE : Hid (Z = 180) := HBAD.out (nod_par HPB.out)
   go_quiet ((go_at_call 75; exact Calls.quiet_of_same (fin_q _ _ _ _)))
   go_wp2_with fail
   (try rw [Exit.noGoto_ret]); go_ret
   exact ⟨by rw [HE.out]; rfl, below_drewN2 HB3.out nq⟩
  case true =>
  go_quiet ((go_at_call 75; exact Calls.quiet_of_same (fin_q _ _ _ _)))
  have HB4 : Hid (Below w.heap.size w (w2.drewN nq)) := below_drewN2 HB3.out nq
  have HA4 : Hid (KnAt (w2.drewN nq) w.heap.size k T) := HA3.out
  have f0 : (w2.drewN nq).cell? ⟨wr.heap.size, 0, none⟩ = some (.int .i64 (p : Int)) := e0
  have f1 : (w2.drewN nq).cell? ⟨wr.heap.size, 1, none⟩ = some (.int .i64 rf) := e1
  clear e0 e1 e2 g1 h1 h2 x1 x2
  generalize w2.drewN nq = w3 at *
  have hlook := HA4.out.look Hwfp.out
  have hwfv : (Lit.int .i64 rf).wf = true := by
   have := H2.out; unfold inB at this; simp only [Bool.and_eq_true, decide_eq_true_eq] at this
   have := Hhfm.out
   simp only [Lit.wf, Bool.and_eq_true, decide_eq_true_eq]; simp [IntKind.min, IntKind.max, IntKind.signed, IntKind.bits]; omega
  obtain ⟨w4, hrun, hK4, hg4⟩ := HA4.out.update hm32 Hwfp.out hwfv
  have HK4 := Lib.hid hK4
  have HB5 : Hid (Below w.heap.size w w4) := HB4.out.grown hg4 HB4.out.size (fun k e => by injection e; omega)
  clear hK4 hg4 hwfv
  have HDONE : Hid ((∀ f, T (p : Int) = some f → f = rf) → FcRel l n w (.int .i64 ((i + 1 : Nat) : Int)) w4) := fun ho =>
   have ho' : ∀ f, T t.par = some f → f = t.frm := fun f hf => by rw [← Hfr.out]; exact ho f (by rw [Hpa.out]; exact hf)
   have hno : nodB l i t = true := nod_all HPB.out (kn_sib HKn.out ho') HCU.out
   ⟨i + 1, k + 1, _, rfl, Hlt.out, by omega, fun j z hj hz => by
    rcases Nat.lt_succ_iff_lt_or_eq.1 hj with h | h
    · exact HS.out j z h hz
    · subst h
      have := Ht.out.symm.trans hz
      injection this with this
      rw [← this]; exact hno, by
    have := kn_step HKn.out (by omega) Ht.out ho'
    rw [← Hfr.out, ← Hpa.out] at this
    exact this, HK4.out, HB5.out⟩
  cases hT : T (p : Int) with
  | none =>
   rw [hT] at hlook
   change _ = Result.ok (Value.tuple #[.int .i64 0, .bool false]) _ at hlook
   have HD := Lib.hid (HDONE.out (fun f hf => by rw [hT] at hf; cases hf))
   clear hT
   go_wp2_with fail
   go_roundw
   case rel => exact HD.out
   case measure => simp [natOf]; have := Hlt.out; omega
  | some f =>
   rw [hT] at hlook
   change _ = Result.ok (Value.tuple #[.int .i64 f, .bool true]) _ at hlook
   by_cases hf : f = rf
   · subst hf
     have HD := Lib.hid (HDONE.out (fun f' hf => by rw [hT] at hf; injection hf with hf; exact hf.symm))
     clear hT
     go_wp2_with fail
     go_roundw
     case rel => exact HD.out
     case measure => simp [natOf]; have := Hlt.out; omega
   · have HE : Hid (Z = 180) := HBAD.out (nod_sib (kn_bad HKn.out (f := f) (by rw [← Hpa.out]; exact hT) (by rw [← Hfr.out]; exact hf)))
     have v1 : decide (f = rf) = false := decide_eq_false hf
     have v2 : (f == rf) = false := beq_false_of_ne hf
     clear hT hf
     go_wp2_with fail
     (try rw [Exit.noGoto_ret]); go_ret
     exact ⟨by rw [HE.out]; rfl, HB4.out⟩
end Go.Proofs.YtdblnbnofjggnaaGreatDoor
