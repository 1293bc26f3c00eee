/- Merged: Lfi Tkd Lst Lin Lop. -/
import Derived.Test.YtlocilbcmcfmaaaK01
import Derived.Deep.RegionHeld3
import Derived.Deep.DeepCutAuto
import Derived.Laws.IdiomCopy
import Derived.Laws.NewBlocks
import Derived.Shelf.RegionOpenPlain
import Derived.Laws.Cover3
import Derived.Deep.QuietTactic
import Derived.BigQuiet
/- lease: within, find. -/
namespace Go.Proofs.Ytlocilbcmcfmaaa
open Go.RowKit
/-- a number between two bounds -/
def wiB (n lo hi : Int) : Bool := decide (lo ≤ n) && decide (n ≤ hi)
theorem lwithin_any (n lo hi : Int) (w : World) : Calls Try.prog 19 #[.int .i64 n, .int .i64 lo, .int .i64 hi] w fun e w' => e = .returned (.bool (wiB n lo hi)) ∧ w = w' := by
  unfold wiB
  obtain ⟨a, ha⟩ : ∃ a, decide (lo ≤ n) = a := ⟨_, rfl⟩
  obtain ⟨b, hb⟩ : ∃ b, decide (n ≤ hi) = b := ⟨_, rfl⟩
  rw [ha, hb]
  cases a
  all_goals
    go_enter Try.func19, Try.ntmps19
    go_wp2
    go_ret
    exact ⟨by simp [ha, hb], rfl⟩
set_option maxRecDepth 100000 in
theorem find1_any (x : Le) (s : Int) (w : World) : Calls Try.prog 49 #[x.v, .int .i64 s] w fun e w' => e = .returned (.int .i64 (cmpZ x.sl s)) ∧ Below w.heap.size w w' := by
  obtain ⟨sl, ai, fl, tk, us⟩ := x
  obtain ⟨z, hz⟩ : ∃ z, cmpZ sl s = z := ⟨_, rfl⟩
  have Hz := Lib.hid hz
  have hb0 := Lib.hid ((Below.refl w.heap.size w).alloc (Nat.le_refl _) (.cells #[.int .i64 sl, .int .i64 ai, .int .i64 fl, .int .i64 tk, .bool us] 36))
  rw [hz]
  clear hz
  change Calls Try.prog 49 #[.agg #[.int .i64 sl, .int .i64 ai, .int .i64 fl, .int .i64 tk, .bool us], .int .i64 s] w _
  go_enter Try.func49, Try.ntmps49
  go_wp2_with (go_at_call 50; refine (compare_any _ _ _).mono ?_; rw [Hz.out]; rintro e w' ⟨rfl, rfl⟩)
  go_ret
  exact ⟨rfl, hb0.out⟩
/-- the lower bound of a slot in leases: below it all come before, from it on none does -/
def LowL (l : List Le) (s : Int) (n : Nat) : Prop := n ≤ l.length ∧ ∀ k x, l[k]? = some x → (decide (cmpZ x.sl s < 0) = decide (k < n))
def FiRel (n len : Nat) (w : World) (vi vj : Value) (wr : World) : Prop := ∃ i j : Nat, i ≤ n ∧ n ≤ j ∧ j ≤ len ∧ vi = .int .i64 i ∧ vj = .int .i64 j ∧ Below w.heap.size w wr
/-- whether the slot at the bound is that slot -/
def hitL (l : List Le) (s : Int) (n : Nat) : Bool := match l[n]? with | none => false | some x => decide (cmpZ x.sl s = 0)
theorem hitL_some {l : List Le} {s : Int} {n : Nat} {x : Le} (h : l[n]? = some x) : hitL l s n = (cmpZ x.sl s == 0) := by
  unfold hitL; rw [h, Bool.eq_iff_iff]; simp
theorem hitL_none {l : List Le} {s : Int} {n : Nat} (h : l.length ≤ n) : hitL l s n = false := by
  unfold hitL; rw [List.getElem?_eq_none h]
set_option maxRecDepth 100000 in
set_option maxHeartbeats 4000000 in
theorem lsearch_any (l : List Le) (v : Value) (s : Int) (n : Nat) (w : World) (hl : LesAt w.heap.size w l v) (hlen : l.length ≤ 2000) (hlow : LowL l s n) :
    Calls Try.prog 48 #[v, .int .i64 s, .func (.func 49) #[] #[]] w
      fun e w' => e = .returned (.tuple #[.int .i64 (n : Int), .bool (hitL l s n)]) ∧ Below w.heap.size w w' := by
  obtain ⟨oa, cap, rfl, hlm⟩ := hl.shape
  have HR := Lib.hid hl; have Hlen := Lib.hid hlen; have HLow := Lib.hid hlow
  clear hl hlm hlow
  have bl : (l.length : Int) ≤ 2000 := by omega
  clear hlen
  go_enter Try.func48, Try.ntmps48
  go_wp2_with fail
  go_loopw [9, 10] (fun vi vj wr => FiRel n l.length w vi vj wr) (fun vi vj _ => (intOf vj - intOf vi).toNat)
  case atStart => exact ⟨0, l.length, by omega, HLow.out.1, by omega, rfl, rfl, Below.refl _ _⟩
  case round =>
    obtain ⟨i, j, hi, hj, hjl, rfl, rfl, hb⟩ := hrel
    have HB := Lib.hid hb
    clear hb
    have bi : (i : Int) ≤ 2000 := by omega
    have bj : (j : Int) ≤ 2000 := by omega
    by_cases hlt : i < j
    · have tij : decide ((i : Int) < (j : Int)) = true := by simp; omega
      have tij' : decide (i < j) = true := by simp; omega
      obtain ⟨h, hh⟩ : ∃ h, (i + j) / 2 = h := ⟨_, rfl⟩
      obtain ⟨q, hs⟩ : ∃ s, i + j = s := ⟨_, rfl⟩
      rw [hs] at hh
      have e1 : (i : Int) + (j : Int) = (q : Int) := by omega
      have e3 : (q : Int) / 2 = (h : Int) := by omega
      have e4 : (q : Int).tdiv 2 = (h : Int) := by rw [← hh]; rw [Int.ofNat_tdiv]; rfl
      have bs : (q : Int) ≤ 4000 := by omega
      have hhl : h < l.length := by omega
      have th : decide ((h : Int) < (l.length : Int)) = true := by simp; omega
      have th' : (h : Int) < (l.length : Int) := by omega
      have bh : (h : Int) ≤ 2000 := by omega
      obtain ⟨x, hr⟩ : ∃ x, l[h]? = some x := ⟨_, List.getElem?_eq_getElem hhl⟩
      obtain ⟨b, off, rfl, _, hat⟩ := (HR.out.ext HB.out).at hhl
      obtain ⟨c0, c1, c2, c3, c4⟩ := five_of (hat h x hr)
      have hlo := HLow.out.2 h x hr
      have Hlo := Lib.hid hlo
      have Hh := Lib.hid hh; have Hs := Lib.hid hs; have Hi := Lib.hid hi; have Hj := Lib.hid hj; have Hjl := Lib.hid hjl; have Hlt := Lib.hid hlt; have Hhl := Lib.hid hhl
      clear hat hlo hr hh hs hi hj hjl hlt hhl
      change wr.cell? ⟨b, off + h * 5, none⟩ = _ at c0
      change wr.cell? ⟨b, off + h * 5 + 1, none⟩ = _ at c1
      change wr.cell? ⟨b, off + h * 5 + 2, none⟩ = _ at c2
      change wr.cell? ⟨b, off + h * 5 + 3, none⟩ = _ at c3
      change wr.cell? ⟨b, off + h * 5 + 4, none⟩ = _ at c4
      obtain ⟨z, hz⟩ : ∃ z, cmpZ x.sl s = z := ⟨_, rfl⟩
      have Hz := Lib.hid hz
      rw [hz] at Hlo
      clear hz
      obtain ⟨tz, htz⟩ : ∃ t, decide (z < 0) = t := ⟨_, rfl⟩
      rw [htz] at Hlo
      cases tz
      · have hge : Hid (n ≤ h) := by show _ ≤ _; have := Hlo.out; simp at this; omega
        go_wp2_with (go_at_call 49; refine (find1_any x s _).mono ?_; rw [Hz.out]; rintro e w7 ⟨rfl, hb7⟩)
        have HB2 := Lib.hid (below_ext HB.out hb7)
        go_roundw
        case rel => exact ⟨i, h, Hi.out, hge.out, by have := Hhl.out; omega, rfl, rfl, HB2.out⟩
        case measure => simp [intOf]; have := Hh.out; have := Hs.out; have := Hlt.out; omega
      · have hle : Hid (h + 1 ≤ n) := by show _ ≤ _; have := Hlo.out; simp at this; omega
        go_wp2_with (go_at_call 49; refine (find1_any x s _).mono ?_; rw [Hz.out]; rintro e w7 ⟨rfl, hb7⟩)
        have HB2 := Lib.hid (below_ext HB.out hb7)
        go_roundw
        case rel => exact ⟨h + 1, j, hle.out, Hj.out, Hjl.out, by go_num, rfl, HB2.out⟩
        case measure => simp [intOf]; have := Hh.out; have := Hs.out; have := Hlt.out; omega
    · obtain rfl : i = n := by omega
      obtain rfl : i = j := by omega
      have tij : decide ((i : Int) < (i : Int)) = false := by simp
      by_cases hil : i < l.length
      · have tl : decide ((i : Int) < (l.length : Int)) = true := by simp; omega
        have tl' : decide (i < l.length) = true := by simp; omega
        have tl2 : (i : Int) < (l.length : Int) := by omega
        obtain ⟨x, hr⟩ : ∃ x, l[i]? = some x := ⟨_, List.getElem?_eq_getElem hil⟩
        obtain ⟨b, off, rfl, _, hat⟩ := (HR.out.ext HB.out).at hil
        obtain ⟨c0, c1, c2, c3, c4⟩ := five_of (hat i x hr)
        have hhit := Lib.hid (hitL_some (s := s) hr)
        obtain ⟨z, hz⟩ : ∃ z, cmpZ x.sl s = z := ⟨_, rfl⟩
        have Hz := Lib.hid hz
        rw [hz] at hhit
        clear hz hat hr hil hi hj hjl hlt
        change wr.cell? ⟨b, off + i * 5, none⟩ = _ at c0
        change wr.cell? ⟨b, off + i * 5 + 1, none⟩ = _ at c1
        change wr.cell? ⟨b, off + i * 5 + 2, none⟩ = _ at c2
        change wr.cell? ⟨b, off + i * 5 + 3, none⟩ = _ at c3
        change wr.cell? ⟨b, off + i * 5 + 4, none⟩ = _ at c4
        go_wp2_with (go_at_call 49; refine (find1_any x s _).mono ?_; rw [Hz.out]; rintro e w7 ⟨rfl, hb7⟩)
        have HB2 := Lib.hid (below_ext HB.out hb7)
        go_ret2
        exact ⟨by rw [hhit.out]; rfl, HB2.out⟩
      · have tl : decide ((i : Int) < (l.length : Int)) = false := by simp; omega
        have tl' : decide (i < l.length) = false := by simp; omega
        have hhit := Lib.hid (hitL_none (l := l) (s := s) (n := i) (by omega))
        clear hil hi hj hjl hlt
        go_wp2_with fail
        go_ret2
        exact ⟨by rw [hhit.out]; rfl, HB.out⟩
theorem find_any (l : List Le) (v : Value) (s : Int) (n : Nat) (w : World) (hl : LesAt w.heap.size w l v) (hlen : l.length ≤ 2000) (hlow : LowL l s n) :
    Calls Try.prog 34 #[v, .int .i64 s] w fun e w' => e = .returned (.tuple #[.int .i64 (n : Int), .bool (hitL l s n)]) ∧ Below w.heap.size w w' := by
  obtain ⟨H, hH⟩ : ∃ H, hitL l s n = H := ⟨_, rfl⟩
  have hc := lsearch_any l v s n w hl hlen hlow
  rw [hH] at hc ⊢
  have Hc := Lib.hid hc
  clear hc hl hlen hlow hH
  go_enter Try.func34, Try.ntmps34
  go_wp2_with (go_at_call 48; refine Hc.out.mono ?_; rintro e w7 ⟨rfl, hb7⟩)
  go_ret2
  exact ⟨rfl, hb7⟩
end Go.Proofs.Ytlocilbcmcfmaaa
/- a step of a drawn region walked by hand. -/
namespace Go.Proofs.Ytlocilbcmcfmaaa
open Go.RowKit
theorem take_dst {P : Program} {md : Region.Mode} {ops : Array Oper} {Q : Exit → Act → World → Prop} {S : World → Prop} (d : Option Tmp) {i : Nat} {oi : Oper} {v : Value} {fuel : Nat} {listed : Array Bool} {a : Act} {w : World} (hi : ops[i]? = some oi) (hd : oi.dst = d)
    (hs : Region.noSelect ops = true) (hf : Region.free md ops listed i = true) (hr : (Region.ready md ops listed).contains i = true)
    (hQ : ∀ c a w, Q (.panic c) (a.put d v) w → Q (.panic c) a w) (hy : YieldsIf P ops S oi v a) (hS : S w)
    (h : wpAnyH P md ops Q S fuel (listed.setIfInBounds i true) (a.put d v) w) : wpAnyH P md ops Q S (fuel + 1) listed a w := by
  subst hd
  exact wpAnyH_take hi hs hf hr hQ hy hS h
end Go.Proofs.Ytlocilbcmcfmaaa
/- lease: the state's next and held. -/
namespace Go.Proofs.Ytlocilbcmcfmaaa
open Go.RowKit
/-- a command -/
structure Cm where
  kd : Int
  sl : Int
  ai : Int
  fl : Int
  tk : Int
deriving DecidableEq
def Cm.cells (x : Cm) : List Value := [.int .i64 x.kd, .int .i64 x.sl, .int .i64 x.ai, .int .i64 x.fl, .int .i64 x.tk]
def Cm.v (x : Cm) : Value := .agg x.cells.toArray
abbrev StCB (w : World) (S : Nat) (tk : Int) (v : Value) : Prop := CB w S 72 [.int .i64 tk, v]
theorem next_ok (S : Nat) (tk : Int) (v : Value) (w : World) (h : StCB w S tk v) (ht : tk < 1048576) (h0 : 0 ≤ tk) :
    Calls Try.prog 36 #[.pointer (some ⟨S, 0, none⟩)] w fun e w' => e = .returned (.int .i64 (tk + 1)) ∧ w' = w.setCell ⟨S, 0, none⟩ (.int .i64 (tk + 1)) := by
  have c0 : w.cell? ⟨S, 0, none⟩ = some (.int .i64 tk) := h.cell 0
  have z0 : w.frozen? ⟨S, 0, none⟩ = false := h.frozen _
  have t1 : decide (tk < 1048576) = true := decide_eq_true ht
  have e1 : IntKind.i64.wrap (tk + 1) = tk + 1 := IntWalk.i64_in _ (by omega)
  clear h ht h0
  go_enter Try.func36, Try.ntmps36
  go_wp2_with (go_at_call 27; refine (demand_true _ _).mono ?_; rintro e w' ⟨rfl, rfl⟩)
  go_ret
  exact ⟨rfl, rfl⟩
theorem next_bad (S : Nat) (tk : Int) (v : Value) (w : World) (h : StCB w S tk v) (ht : ¬ tk < 1048576) :
    Calls Try.prog 36 #[.pointer (some ⟨S, 0, none⟩)] w fun e w' => e = .panicked (failChain 2) ∧ w = w' := by
  have c0 : w.cell? ⟨S, 0, none⟩ = some (.int .i64 tk) := h.cell 0
  have t1 : decide (tk < 1048576) = false := decide_eq_false ht
  clear h ht
  go_enter Try.func36, Try.ntmps36
  go_wp2_with (go_at_call 27; refine (demand_false _ _).mono ?_; rintro e w' ⟨rfl, rfl⟩)
  exact ⟨rfl, rfl, rfl⟩
theorem demand_q (e : Int) (w : World) : Calls Try.prog 27 #[.bool true, .int .i64 e] w fun r w' => r = .returned (.tuple #[]) ∧ w' = w := by
  refine (demand_true e w).mono ?_
  rintro e w' ⟨rfl, rfl⟩
  exact ⟨rfl, rfl⟩
/-- what held answers: an error, or the place -/
def heldE (l : List Le) (c : Cm) (n : Nat) : Option Int :=
  match l[n]? with
  | none => some 350
  | some x => if x.sl ≠ c.sl then some 350 else if x.tk ≠ c.tk then some 351 else if x.us then some 350 else none
def HeldPost (l : List Le) (c : Cm) (n : Nat) (oa : Option Addr) (w : World) (e : Ending) (w' : World) : Prop :=
  Below w.heap.size w w' ∧ match heldE l c n with
    | some k => e = .panicked (failChain k)
    | none => ∃ b off, oa = some ⟨b, off, none⟩ ∧ e = .returned (.pointer (some ⟨b, off + n * 5, none⟩))
theorem cmpZ_zero {a b : Int} : cmpZ a b = 0 ↔ a = b := by
  unfold cmpZ
  by_cases h1 : a < b
  · rw [if_pos h1]; omega
  · rw [if_neg h1]
    by_cases h2 : b < a
    · rw [if_pos h2]; omega
    · rw [if_neg h2]; omega
theorem held_1 {l : List Le} {c : Cm} {n : Nat} (h : hitL l c.sl n = false) : heldE l c n = some 350 := by
  unfold heldE hitL at *
  cases hx : l[n]? with
  | none => rfl
  | some x =>
    rw [hx] at h
    have : ¬ x.sl = c.sl := fun e => of_decide_eq_false h (cmpZ_zero.2 e)
    simp [this]
theorem held_2 {l : List Le} {c : Cm} {n : Nat} {x : Le} (h : hitL l c.sl n = true) (hx : l[n]? = some x) : heldE l c n = if x.tk ≠ c.tk then some 351 else if x.us then some 350 else none := by
  unfold heldE hitL at *
  rw [hx] at h ⊢
  have : x.sl = c.sl := cmpZ_zero.1 (of_decide_eq_true h)
  simp [this]
theorem hit_lt {l : List Le} {s : Int} {n : Nat} (h : hitL l s n = true) : n < l.length := by
  unfold hitL at h
  cases hx : l[n]? with
  | none => rw [hx] at h; cases h
  | some x => exact (List.getElem?_eq_some_iff.1 hx).1
set_option maxRecDepth 100000 in
set_option maxHeartbeats 4000000 in
theorem held_any (S : Nat) (tk : Int) (l : List Le) (v : Value) (c : Cm) (n : Nat) (w : World) (hS : StCB w S tk v) (hl : LesAt w.heap.size w l v) (hlen : l.length ≤ 2000) (hlow : LowL l c.sl n) :
    ∃ oa cap, v = .slice oa l.length cap ∧ Calls Try.prog 37 #[.pointer (some ⟨S, 0, none⟩), c.v] w (HeldPost l c n oa w) := by
  obtain ⟨oa, cap, rfl, hlm⟩ := hl.shape
  refine ⟨oa, cap, rfl, ?_⟩
  have HS := Lib.hid hS; have HR := Lib.hid hl; have Hlen := Lib.hid hlen; have HLow := Lib.hid hlow
  clear hS hl hlen hlow hlm
  obtain ⟨H, hH⟩ : ∃ H, hitL l c.sl n = H := ⟨_, rfl⟩
  have HH := Lib.hid hH; clear hH
  obtain ⟨kd, sl, ai, fl, ct⟩ := c
  have hb0 := Lib.hid ((Below.refl w.heap.size w).alloc (Nat.le_refl _) (.cells #[.int .i64 kd, .int .i64 sl, .int .i64 ai, .int .i64 fl, .int .i64 ct] 33))
  have hcb0 : Hid (CB (w.alloc (.cells #[.int .i64 kd, .int .i64 sl, .int .i64 ai, .int .i64 fl, .int .i64 ct] 33)) w.heap.size 33 [.int .i64 kd, .int .i64 sl, .int .i64 ai, .int .i64 fl, .int .i64 ct]) := CB.new w _ _
  have hS0 := Lib.hid (HS.out.alloc (.cells #[.int .i64 kd, .int .i64 sl, .int .i64 ai, .int .i64 fl, .int .i64 ct] 33))
  have HR0 := Lib.hid (HR.out.ext hb0.out)
  change Calls Try.prog 37 #[.pointer (some ⟨S, 0, none⟩), .agg #[.int .i64 kd, .int .i64 sl, .int .i64 ai, .int .i64 fl, .int .i64 ct]] w _
  go_enter Try.func37, Try.ntmps37
  go_upto_region 1 with fail
  generalize w.alloc (.cells #[.int .i64 kd, .int .i64 sl, .int .i64 ai, .int .i64 fl, .int .i64 ct] 33) = w0 at *
  have c0 : w0.cell? ⟨S, 1, none⟩ = some (.slice oa l.length cap) := hS0.out.cell 1
  have c1 : w0.cell? ⟨w.heap.size, 1, none⟩ = some (.int .i64 sl) := hcb0.out.cell 1
  have hbS := (Below.refl w0.heap.size w0).drew
  go_region_held3 (fun w' => w'.cell? ⟨S, 1, none⟩ = some (.slice oa l.length cap) ∧ w'.cell? ⟨w.heap.size, 1, none⟩ = some (.int .i64 sl))
    (first | exact ⟨cell_ext hbS (hS0.out.cell 1), cell_ext hbS (hcb0.out.cell 1)⟩ | go_keep)
    ((go_at_call 34; refine (find_any l _ sl n _ (HR0.out.ext hbS) Hlen.out HLow.out).mono ?_; rw [HH.out]; rintro e w7 ⟨rfl, hb7⟩; have hbS : Below w0.heap.size w0 w7 := by (first | exact below_ext hbS hb7 | exact below_undrew' hb7)))
  have HB1 := Lib.hid (below_ext hb0.out hbS)
  have HS1 := Lib.hid (hS0.out.ext hbS)
  have HC1 := Lib.hid (hcb0.out.ext hbS)
  have HR1 := Lib.hid (HR0.out.ext hbS)
  clear hbS hb7
  cases H
  case false =>
    have hp := Lib.hid (held_1 (c := ⟨kd, sl, ai, fl, ct⟩) HH.out)
    go_wp2_with (go_at_call 27; refine (demand_false _ _).mono ?_; rintro e w' ⟨rfl, rfl⟩)
    exact ⟨rfl, HB1.out, by rw [hp.out]⟩
  case true =>
    have hn := Lib.hid (hit_lt HH.out)
    have hn1 : (n : Int) < (l.length : Int) := by have := hn.out; omega
    have bn : (n : Int) ≤ 2000 := by have := hn.out; have := Hlen.out; omega
    obtain ⟨x, hx⟩ : ∃ x, l[n]? = some x := ⟨_, List.getElem?_eq_getElem hn.out⟩
    have hp := Lib.hid (held_2 (c := ⟨kd, sl, ai, fl, ct⟩) HH.out hx)
    obtain ⟨b, off, rfl, _, hat⟩ := HR1.out.at hn.out
    obtain ⟨x0, x1, x2, x3, x4⟩ := five_of (hat n x hx)
    change w7.cell? ⟨b, off + n * 5, none⟩ = _ at x0
    change w7.cell? ⟨b, off + n * 5 + 1, none⟩ = _ at x1
    change w7.cell? ⟨b, off + n * 5 + 2, none⟩ = _ at x2
    change w7.cell? ⟨b, off + n * 5 + 3, none⟩ = _ at x3
    change w7.cell? ⟨b, off + n * 5 + 4, none⟩ = _ at x4
    clear hat hx x0 x1 x2
    have d1 : w7.cell? ⟨S, 1, none⟩ = some (.slice (some ⟨b, off, none⟩) l.length cap) := HS1.out.cell 1
    have d4 : w7.cell? ⟨w.heap.size, 4, none⟩ = some (.int .i64 ct) := HC1.out.cell 4
    obtain ⟨xs, xa, xf, xt, us⟩ := x
    obtain ⟨q, hq⟩ : ∃ q, (xt == ct) = q := ⟨_, rfl⟩
    have Hq := Lib.hid hq
    cases q
    case false =>
      have hp2 : Hid (heldE l ⟨kd, sl, ai, fl, ct⟩ n = some 351) := by
        show _ = _
        rw [hp.out, if_pos (by simpa using Hq.out)]
      go_wp2_with (go_at_call 27; refine (demand_true _ _).mono ?_; rintro e w' ⟨rfl, rfl⟩)
      refine wp_region_held_drew (S := fun w' => w'.cell? ⟨b, off + n * 5 + 3, none⟩ = some (.int .i64 xt) ∧ w'.cell? ⟨w.heap.size, 4, none⟩ = some (.int .i64 ct)) (by kernel_rfl) ⟨x3, d4⟩ (fun hHeld => ?_)
      refine take_dst (some 28) (i := 0) (v := ?vA0) rfl rfl (by kernel_rfl) (by kernel_rfl) (by kernel_rfl) (fun _ _ _ h => h) (Or.inl ⟨by rfl, fun wS hSw => ?hyA0⟩) (by assumption) ?restA0
      case hyA0 => (obtain ⟨s0, s1⟩ := hSw; go_simp; first | done | with_reducible rfl)
      try simp only [Act.put, List.setIfInBounds_toArray, List.set_cons_zero, List.set_cons_succ]
      refine take_dst (some 29) (i := 1) (v := ?vA1) rfl rfl (by kernel_rfl) (by kernel_rfl) (by kernel_rfl) (fun _ _ _ h => h) (Or.inl ⟨by rfl, fun wS hSw => ?hyA1⟩) (by assumption) ?restA1
      case hyA1 => (obtain ⟨s0, s1⟩ := hSw; go_simp; first | done | with_reducible rfl)
      try simp only [Act.put, List.setIfInBounds_toArray, List.set_cons_zero, List.set_cons_succ]
      refine take_dst (some 30) (i := 2) (v := ?vA2) rfl rfl (by kernel_rfl) (by kernel_rfl) (by kernel_rfl) (fun _ _ _ h => h) (Or.inl ⟨by rfl, fun wS hSw => ?hyA2⟩) (by assumption) ?restA2
      case hyA2 => (obtain ⟨s0, s1⟩ := hSw; go_simp; first | done | with_reducible rfl)
      try simp only [Act.put, List.setIfInBounds_toArray, List.set_cons_zero, List.set_cons_succ]
      refine take_dst (some 31) (i := 3) (v := ?vA3) rfl rfl (by kernel_rfl) (by kernel_rfl) (by kernel_rfl) (fun _ _ _ h => h) (Or.inl ⟨by rfl, fun wS hSw => ?hyA3⟩) (by assumption) ?restA3
      case hyA3 => (obtain ⟨s0, s1⟩ := hSw; go_simp; first | done | with_reducible rfl)
      try simp only [Act.put, List.setIfInBounds_toArray, List.set_cons_zero, List.set_cons_succ]
      refine take_dst (some 32) (i := 4) (v := ?vA4) rfl rfl (by kernel_rfl) (by kernel_rfl) (by kernel_rfl) (fun _ _ _ h => h) (Or.inl ⟨by rfl, fun wS hSw => ?hyA4⟩) (by assumption) ?restA4
      case hyA4 => (obtain ⟨s0, s1⟩ := hSw; go_simp; first | done | with_reducible rfl)
      try simp only [Act.put, List.setIfInBounds_toArray, List.set_cons_zero, List.set_cons_succ]
      refine take_dst (some 33) (i := 5) (v := ?vA5) rfl rfl (by kernel_rfl) (by kernel_rfl) (by kernel_rfl) (fun _ _ _ h => h) (Or.inl ⟨by rfl, fun wS hSw => ?hyA5⟩) (by assumption) ?restA5
      case hyA5 => (obtain ⟨s0, s1⟩ := hSw; go_simp; first | done | with_reducible rfl)
      try simp only [Act.put, List.setIfInBounds_toArray, List.set_cons_zero, List.set_cons_succ]
      refine take_dst (some 34) (i := 6) (v := ?vA6) rfl rfl (by kernel_rfl) (by kernel_rfl) (by kernel_rfl) (fun _ _ _ h => h) (Or.inl ⟨by rfl, fun wS hSw => ?hyA6⟩) (by assumption) ?restA6
      case hyA6 => (obtain ⟨s0, s1⟩ := hSw; go_simp; first | done | with_reducible rfl)
      try simp only [Act.put, List.setIfInBounds_toArray, List.set_cons_zero, List.set_cons_succ]
      refine wpAnyH_ready (rs := [7]) (by kernel_rfl) (by simp) ?_
      refine AllReadyH.cons rfl (fun K hK => ?_) AllReadyH.nil
      go_simp
      refine (demand_false _ _).mono ?_
      rintro e w8 ⟨rfl, rfl⟩
      exact ⟨rfl, HB1.out.drew, by rw [hp2.out]⟩
    case true =>
      have hp2 : Hid (heldE l ⟨kd, sl, ai, fl, ct⟩ n = if us then some 350 else none) := by
        show _ = _
        rw [hp.out, if_neg (by simpa using Hq.out)]
      go_wp2_with (go_at_call 27; refine (demand_true _ _).mono ?_; rintro e w' ⟨rfl, rfl⟩)
      go_quiet ((go_at_call 27; exact Calls.quiet_of_same (demand_q _ _)))
      cases us
      case true =>
        go_wp2_with (go_at_call 27; refine (demand_false _ _).mono ?_; rintro e w' ⟨rfl, rfl⟩)
        exact ⟨rfl, below_drewN'' HB1.out _, by rw [hp2.out]; rfl⟩
      case false =>
        go_wp2_with (go_at_call 27; refine (demand_true _ _).mono ?_; rintro e w' ⟨rfl, rfl⟩)
        go_ret
        exact ⟨below_drewN'' HB1.out _, by rw [hp2.out]; exact ⟨b, off, rfl, rfl⟩⟩
end Go.Proofs.Ytlocilbcmcfmaaa
/- slices.Insert of one lease. -/
namespace Go.Proofs.Ytlocilbcmcfmaaa
open Go.RowKit
theorem le_one (r : Le) : ∀ u ∈ r.cells, u.oneCell' = true := leK.one r
theorem le_cells_len (r : Le) : r.cells.length = 5 := rfl
theorem lflat_len (l : List Le) : (leK.flat l).length = l.length * 5 := leK.flat_len l
theorem lins_cells (l : List Le) (i : Nat) (r : Le) : leK.flat (insG l i r) = leK.flat (l.take i) ++ r.cells ++ leK.flat (l.drop i) := insG_cells leK l i r
theorem lcur_take {l : List Le} {i : Nat} {cur : Array Value} (hi : i ≤ l.length) (ht : cur.toList.take (l.length * 5) = leK.flat l) : cur.toList.take (i * 5) = leK.flat (l.take i) := cur_takeG leK hi ht
theorem lown_mk {w : World} {base g cap n : Nat} {cur : Array Value} {x : List Le} (hl : x.length = n) (hb : base ≤ g) (hg : w.heap[g]? = some (.cells cur 36 (0, 0))) (hn : n ≤ cap) (hm : cap ≤ maxLen) (hcs : cur.size = cap * 5) (ht : cur.toList.take (n * 5) = leK.flat x) :
    OwnLe w base (.slice (some ⟨g, 0, none⟩) n cap) x := OwnK.mk (K := leK) hl hb hg hn hm hcs ht
set_option maxRecDepth 100000 in
set_option maxHeartbeats 4000000 in
theorem linsert_end (l : List Le) (oa : Option Addr) (cap base : Nat) (r : Le) (vb : Nat) (w : World) (HO : Hid (OwnLe w base (.slice oa l.length cap) l)) (Hbase : Hid (base ≤ w.heap.size)) (Hlen : Hid (l.length ≤ 2000)) (hr : CB w vb 36 r.cells) :
    Calls Try.prog 35 #[.slice oa l.length cap, .int .i64 (l.length : Int), .slice (some ⟨vb, 0, none⟩) 1 1] w fun e w' => ∃ v', e = .returned v' ∧ OwnLe w' base v' (insG l l.length r) ∧ w.grownBy w' (Value.slice oa l.length cap).ownBlock := by
  have hrsrc : ∀ j u, r.cells[j]? = some u → w.cell? ((⟨vb, 0, none⟩ : Addr).add j) = some u := fun j u hu => by rw [add0, Nat.zero_add, hr.cell]; exact hu
  have hsrc : Hid (Src Try.prog 5 24 (.slice (some ⟨vb, 0, none⟩) 1 1) 1 r.cells w) := Src.ofSlice w Try.underlying24 ⟨vb, 0, none⟩ 1 1 _ rfl hrsrc (le_one r)
  have bl : (l.length : Int) ≤ 9223372036854775807 := by have := Hlen.out; omega
  clear hrsrc hr
  go_enter Try.func35, Try.ntmps35
  go_wp2_with (at_builtin; refine wpList_append_x (e := 36) (z := (.agg #[.int .i64 0, .int .i64 0, .int .i64 0, .int .i64 0, .bool false])) (size := 5) (bytes := 40) Try.underlying24 le_info rfl rfl _ _ rfl base (.slice oa l.length cap) l.length (leK.flat l) rfl HO.out _ 1 r.cells rfl hsrc.out (by have := Hlen.out; unfold maxLen; omega) (by have := Hlen.out; omega) Hbase.out ?_; intro v5 w5 ho5 hg5 hn5)
  all_goals
    have HG5 : ∀ c, Hid (w.grownBy w5 (Value.slice oa l.length c).ownBlock) := fun c => by
      show w.grownBy _ _
      rw [show (Value.slice oa l.length c).ownBlock = (Value.slice oa l.length cap).ownBlock by cases oa <;> rfl]; exact hg5
    have HO5 : Hid (OwnLe w5 base v5 (insG l l.length r)) := by
      show w5.ownsRow _ _ _ _ _ _
      rw [insG_end, leK.flat_append, List.length_append]
      simpa [EK.flat, leK] using ho5
    clear ho5 hg5 hn5
    go_ret
    exact ⟨v5, rfl, HO5.out, (HG5 _).out⟩
set_option maxRecDepth 100000 in
set_option maxHeartbeats 4000000 in
theorem linsert_room (l : List Le) (g cap base n i vb : Nat) (cur : Array Value) (r : Le) (w : World) (hln : l.length = n) (hb : base ≤ g) (hg : w.heap[g]? = some (.cells cur 36 (0, 0))) (hm : cap ≤ maxLen) (hcs : cur.size = cap * 5) (ht : cur.toList.take (l.length * 5) = leK.flat l)
    (hi : i < n) (hroom : n + 1 ≤ cap) (hr : CB w vb 36 r.cells) (hne : vb ≠ g) :
    Calls Try.prog 35 #[.slice (some ⟨g, 0, none⟩) n cap, .int .i64 (i : Int), .slice (some ⟨vb, 0, none⟩) 1 1] w fun e w' => ∃ v', e = .returned v' ∧ OwnLe w' base v' (insG l i r) ∧ w.grownBy w' (some g) := by
  have hrsrc : ∀ j u, r.cells[j]? = some u → w.cell? ((⟨vb, 0, none⟩ : Addr).add j) = some u := fun j u hu => by rw [add0, Nat.zero_add, hr.cell]; exact hu
  have hdl : (leK.flat (l.drop i)).length = (n - i) * 5 := by rw [lflat_len, List.length_drop, hln]
  have hct := lcur_take (i := i) (by omega) ht
  have hdrop : ∀ j u, (leK.flat (l.drop i))[j]? = some u → w.cell? ⟨g, i * 5 + j, none⟩ = some u := fun j u hu => by
    have h2 := leK.flat_drop (i := i) (by omega) hu
    rw [cell_row hg, ← Array.getElem?_toList]
    rw [← ht, List.getElem?_take] at h2
    split at h2
    · exact h2
    · cases h2
  have hfit : i * 5 + r.cells.length + (leK.flat (l.drop i)).length ≤ cur.toList.length := by rw [hdl, le_cells_len, Array.length_toList, hcs]; omega
  have hov : ∀ lb cb o, (callFunc 51 #[.slice (some ⟨vb, 0, none⟩) 1 1, .slice (some ⟨g, o, none⟩) lb cb]).run Try.prog w = .ok (.value (.bool false)) w := fun lb cb o => by
    rw [run_callFunc_extern Try.func51 (by kernel_rfl) (by kernel_rfl) (by kernel_rfl) (e := Extern.SlicesOverlaps.overlaps #[24, 24] #[4]) (by kernel_rfl),
      Lib.run_overlaps_apart w 24 4 36 Try.underlying24 5 le_sizeOf ⟨vb, 0, none⟩ ⟨g, o, none⟩ 1 1 lb cb hne 36 36 5 cur.size (by unfold CB at hr; simp [World.shape?, hr, Le.cells]) (by simp [World.shape?, hg]) (by omega) (hr.frozen _) (hr.frozen _)]
    rfl
  obtain ⟨c1, hc1⟩ : ∃ c1, putL cur.toList (i * 5 + r.cells.length) (leK.flat (l.drop i)) = c1 := ⟨_, rfl⟩
  have hc1l : c1.length = cur.size := by rw [← hc1, putL_len (by omega), Array.length_toList]
  have hcp1 : ∀ ty dc sc o p a b, o = (i + 1) * 5 → p = i * 5 → a = n - i → b = n + 1 - i → (Builtin.copy_ #[24, 24] ty #[.slice (some ⟨g, o, none⟩) a dc, .slice (some ⟨g, p, none⟩) b sc]).run Try.prog w.drew = .ok (goInt ((n - i : Nat) : Int)) (w.drew.setRow g c1.toArray) := fun ty dc sc o p a b ho hp ha hb => by
    subst ho hp ha hb
    rw [← hc1, le_cells_len, show i * 5 + 5 = (i + 1) * 5 by omega]
    exact run_copy_put w.drew _ _ ty 36 5 g ((i + 1) * 5) (n - i) dc cur ⟨g, i * 5, none⟩ (n + 1 - i) sc (n - i) (leK.flat (l.drop i)) Try.underlying24 le_size (by simp only [Nat.min_def]; split <;> omega) hdl (fun j v hj => by rw [add0]; exact hdrop j v hj) hg (by rw [hdl, hcs]; omega) (leK.flat_one _)
  obtain ⟨w1, hw1⟩ : ∃ w1, w.drew.setRow g c1.toArray = w1 := ⟨_, rfl⟩
  have hg1 : w1.heap[g]? = some (.cells c1.toArray 36 (0, 0)) := by rw [← hw1]; exact row_set (w := w.drew) hg _
  have hgr1 : w.grownBy w1 (some g) := by rw [← hw1]; exact grown_setRow' (grown_drew' (grown_refl w (some g))) _
  have hr1 : CB w1 vb 36 r.cells := hr.keep (hgr1.block _ hr.lt (by simpa using hne))
  rw [hw1] at hcp1
  obtain ⟨c2, hc2⟩ : ∃ c2, putL c1 (i * 5) r.cells = c2 := ⟨_, rfl⟩
  have hc2l : c2.length = cur.size := by rw [← hc2, putL_len (by rw [hc1l, le_cells_len, hcs]; omega), hc1l]
  have hcp2 : ∀ ty dc o a, o = i * 5 → a = n + 1 - i → (Builtin.copy_ #[24, 24] ty #[.slice (some ⟨g, o, none⟩) a dc, .slice (some ⟨vb, 0, none⟩) 1 1]).run Try.prog w1 = .ok (goInt 1) (w1.setRow g c2.toArray) := fun ty dc o a ho ha => by
    subst ho ha
    rw [← hc2]
    exact run_copy_put w1 _ _ ty 36 5 g (i * 5) (n + 1 - i) dc c1.toArray ⟨vb, 0, none⟩ 1 1 1 r.cells Try.underlying24 le_size (by simp only [Nat.min_def]; split <;> omega) rfl (fun j v hj => by rw [add0, Nat.zero_add, hr1.cell]; exact hj) hg1 (by simp only [List.size_toArray, hc1l, le_cells_len, hcs]; omega) (le_one r)
  have hfin : Hid (OwnLe (w1.setRow g c2.toArray) base (.slice (some ⟨g, 0, none⟩) (n + 1) cap) (insG l i r)) := by
    refine lown_mk (cur := c2.toArray) (by rw [insG_len r (by omega), hln]) hb (row_set hg1 _) hroom hm (by simp only [List.size_toArray, hc2l, hcs]) ?_
    show List.take _ c2 = _
    rw [← hc2, ← hc1, lins_cells, ← hct, ← put_back rfl hfit, show (n + 1) * 5 = i * 5 + r.cells.length + (leK.flat (l.drop i)).length by rw [hdl, le_cells_len]; omega]
  have hgr2 := Lib.hid (grown_setRow' hgr1 c2.toArray)
  have Hcp1 := Lib.hid hcp1; have Hcp2 := Lib.hid hcp2
  have bcap : (cap : Int) ≤ 9223372036854775807 := by unfold maxLen at hm; omega
  have mixed : Try.prog.follows Departure.mixedOrders = true := by kernel_rfl
  have e1 : IntKind.i64.wrap ((i : Int) + 1) = (i : Int) + 1 := IntWalk.i64_in _ (by omega)
  have e2 : IntKind.i64.wrap ((n : Int) + 1) = (n : Int) + 1 := IntWalk.i64_in _ (by omega)
  have t1 : decide ((cap : Int) < (n : Int) + 1) = false := by simp; omega
  have hb1 : (0 : Int) ≤ (i : Int) + 1 := by omega
  have hb3 : (i : Int) ≤ (n : Int) + 1 := by omega
  have htn : ((i : Int) + 1).toNat = i + 1 := by omega
  have t2 : decide ((i : Int) = (n : Int)) = false := by simp; omega
  have t2' : ((i : Int) == (n : Int)) = false := by rw [beq_eq_false_iff_ne]; omega
  have hin : i ≤ n := by omega
  have hb2 : ¬ (cap = i + 1) := by omega
  have hb4 : ¬ (cap = i) := by omega
  clear hcp1 hcp2 hc1 hc2 hc1l hc2l hr1 hgr1 hg1 hrsrc hdl hct hdrop hfit hr hg ht hcs
  go_enter Try.func35, Try.ntmps35
  go_wp2_with (simp only [hov])
  go_region_law_o (refine step_copy_h rfl _ _ 24 24 rfl (.slice (some ⟨g, (i + 1) * 5, none⟩) (n - i) (cap - (i + 1))) (.slice (some ⟨g, i * 5, none⟩) (n + 1 - i) (cap - i)) (by simp [Act.eval, Act.put]) (by simp [Act.eval, Act.put]) (Hcp1.out _ _ _ _ _ _ _ rfl rfl rfl rfl) ?_)
  go_wp2_with (refine wpList_copy_h _ rfl _ _ 24 24 rfl _ _ rfl rfl (Hcp2.out _ _ _ _ (by omega) (by omega)) ?_)
  go_ret
  exact ⟨_, rfl, hfin.out, hgr2.out⟩
set_option maxRecDepth 100000 in
set_option maxHeartbeats 4000000 in
theorem linsert_grow (l : List Le) (g cap base n i vb : Nat) (cur : Array Value) (r : Le) (w : World) (hln : l.length = n) (hbase : base ≤ w.heap.size) (hg : w.heap[g]? = some (.cells cur 36 (0, 0))) (hnc : n ≤ cap) (hcs : cur.size = cap * 5) (ht : cur.toList.take (l.length * 5) = leK.flat l)
    (hi : i < n) (hn2 : n ≤ 2000) (hroom : ¬ n + 1 ≤ cap) (hr : CB w vb 36 r.cells) :
    Calls Try.prog 35 #[.slice (some ⟨g, 0, none⟩) n cap, .int .i64 (i : Int), .slice (some ⟨vb, 0, none⟩) 1 1] w fun e w' => ∃ v', e = .returned v' ∧ OwnLe w' base v' (insG l i r) ∧ w.grownBy w' (some g) := by
  obtain rfl : cap = n := by omega
  have hgw : g < w.heap.size := (Array.getElem?_eq_some_iff.1 hg).1
  have hdl : (leK.flat (l.drop i)).length = (cap - i) * 5 := by rw [lflat_len, List.length_drop, hln]
  have htl : (leK.flat (l.take i)).length = i * 5 := by rw [lflat_len, List.length_take, Nat.min_eq_left (by omega)]
  have hct := lcur_take (i := i) (by omega) ht
  have hdrop : ∀ (W : World), W.heap[g]? = w.heap[g]? → ∀ j u, (leK.flat (l.drop i))[j]? = some u → W.cell? ⟨g, i * 5 + j, none⟩ = some u := fun W hW j u hu => by
    have h2 := leK.flat_drop (i := i) (by omega) hu
    rw [cell_row (hW.trans hg), ← Array.getElem?_toList]
    rw [← ht, List.getElem?_take] at h2
    split at h2
    · exact h2
    · cases h2
  obtain ⟨i0, hi0, hz0, hz1, hz2⟩ := info_parts le_info
  have hold : (Builtin.firstCells i0.size i (.slice (some ⟨g, 0, none⟩) i cap)).run Try.prog w.drew = .ok (leK.flat (l.take i)).toArray w.drew := by
    rw [hz1]
    exact run_firstCells_some w.drew 5 i ⟨g, 0, none⟩ i cap _ (by rw [htl]) (fun j v hj => by
      rw [add0, Nat.zero_add, cell_row (w := w.drew) hg, ← Array.getElem?_toList]
      rw [← hct, List.getElem?_take] at hj
      split at hj
      · exact hj
      · cases hj)
  have hik : i + (cap + 1 - i) = cap + 1 := by omega
  obtain ⟨G, hG⟩ : ∃ G, grownCap w (cap + 1) cap 36 = G := ⟨_, rfl⟩
  have hGn : cap + 1 ≤ G := by rw [← hG]; exact grownCap_ge w _ _ _
  have hGm : G ≤ maxLen := by rw [← hG]; exact grownCap_le_maxLen w _ _ _ (by unfold maxLen; omega)
  obtain ⟨ROW, hROW⟩ : ∃ R : Array Value, (leK.flat (l.take i)).toArray ++ Builtin.zeroCells (Value.agg #[.int .i64 0, .int .i64 0, .int .i64 0, .int .i64 0, .bool false]).cells (cap + 1 - i) ++ Builtin.zeroCells (Value.agg #[.int .i64 0, .int .i64 0, .int .i64 0, .int .i64 0, .bool false]).cells (G - (cap + 1)) = R := ⟨_, rfl⟩
  have hRs : ROW.size = G * 5 := by
    rw [← hROW]; simp only [Array.size_append, List.size_toArray, htl, size_zeroCells, Value.cells]; show i * 5 + (cap + 1 - i) * 5 + (G - (cap + 1)) * 5 = _; omega
  have hRt : ROW.toList.take (i * 5) = leK.flat (l.take i) := by
    rw [← hROW]; simp only [Array.toList_append, List.append_assoc]
    exact take_len_append htl.symm
  have hrz : ∀ ty (k : Int), k = ((cap + 1 - i : Nat) : Int) → (Builtin.append_ #[24, 3] ty #[.slice (some ⟨g, 0, none⟩) i cap, .int .i64 k]).run Try.prog w = .ok (.slice (some ⟨w.heap.size, 0, none⟩) (cap + 1) G) (w.drew.alloc (.cells ROW 36)) := fun ty k hk => by
    subst hk
    have h := Lib.run_append_grow_zeros w 24 3 ty 36 i0 _ .i64 .i64 Try.underlying24 Try.underlying3 hi0 hz0 (some ⟨g, 0, none⟩) i cap (leK.flat (l.take i)) hold (cap + 1 - i) (by omega) (by rw [hz1]; omega) (by omega) (by omega) (by rw [hz2]; omega) (by rw [hz2, hik]; exact growslice_fits (by omega) (by omega))
    rw [hik, hG, hROW] at h
    exact h
  obtain ⟨w1, hw1⟩ : ∃ w1, w.drew.alloc (.cells ROW 36) = w1 := ⟨_, rfl⟩
  have hg1 : w1.heap[w.heap.size]? = some (.cells ROW 36 (0, 0)) := by rw [← hw1]; exact heap_alloc_new w.drew _
  have hgr1 : w.grownBy w1 (some g) := by rw [← hw1]; exact grown_alloc (grown_drew' (grown_refl w _)) _
  have hk1 : ∀ k, k < w.heap.size → w1.heap[k]? = w.heap[k]? := fun k hk => by rw [← hw1]; exact Below.heap_alloc w.drew _ k hk
  have hr1 : CB w1 vb 36 r.cells := hr.keep (hk1 _ hr.lt)
  rw [hw1] at hrz
  obtain ⟨c1, hc1⟩ : ∃ c1, putL ROW.toList (i * 5) r.cells = c1 := ⟨_, rfl⟩
  have hc1l : c1.length = ROW.size := by rw [← hc1, putL_len (by rw [le_cells_len, Array.length_toList, hRs]; omega), Array.length_toList]
  have hcp1 : ∀ ty dc o a, o = i * 5 → a = cap + 1 - i → (Builtin.copy_ #[24, 24] ty #[.slice (some ⟨w.heap.size, o, none⟩) a dc, .slice (some ⟨vb, 0, none⟩) 1 1]).run Try.prog w1 = .ok (goInt 1) (w1.setRow w.heap.size c1.toArray) := fun ty dc o a ho ha => by
    subst ho ha
    rw [← hc1]
    exact run_copy_put w1 _ _ ty 36 5 w.heap.size (i * 5) (cap + 1 - i) dc ROW ⟨vb, 0, none⟩ 1 1 1 r.cells Try.underlying24 le_size (by simp only [Nat.min_def]; split <;> omega) rfl (fun j v hj => by rw [add0, Nat.zero_add, hr1.cell]; exact hj) hg1 (by rw [le_cells_len, hRs]; omega) (le_one r)
  obtain ⟨w2, hw2⟩ : ∃ w2, w1.setRow w.heap.size c1.toArray = w2 := ⟨_, rfl⟩
  have hg2 : w2.heap[w.heap.size]? = some (.cells c1.toArray 36 (0, 0)) := by rw [← hw2]; exact row_set hg1 _
  have hgr2 : w.grownBy w2 (some g) := by rw [← hw2]; exact grown_setRow_new hgr1 (Nat.le_refl _) _
  have hk2 : w2.heap[g]? = w.heap[g]? := by rw [← hw2, setRow_other _ _ _ _ (by omega)]; exact hk1 _ hgw
  rw [hw2] at hcp1
  obtain ⟨c2, hc2⟩ : ∃ c2, putL c1 (i * 5 + r.cells.length) (leK.flat (l.drop i)) = c2 := ⟨_, rfl⟩
  have hc2l : c2.length = ROW.size := by rw [← hc2, putL_len (by rw [hc1l, le_cells_len, hdl, hRs]; omega), hc1l]
  have hcp2 : ∀ ty dc sc o p a b, o = (i + 1) * 5 → p = i * 5 → a = cap - i → b = cap - i → (Builtin.copy_ #[24, 24] ty #[.slice (some ⟨w.heap.size, o, none⟩) a dc, .slice (some ⟨g, p, none⟩) b sc]).run Try.prog w2.drew = .ok (goInt ((cap - i : Nat) : Int)) (w2.drew.setRow w.heap.size c2.toArray) := fun ty dc sc o p a b ho hp ha hb => by
    subst ho hp ha hb
    rw [← hc2, le_cells_len, show i * 5 + 5 = (i + 1) * 5 by omega]
    exact run_copy_put w2.drew _ _ ty 36 5 w.heap.size ((i + 1) * 5) (cap - i) dc c1.toArray ⟨g, i * 5, none⟩ (cap - i) sc (cap - i) (leK.flat (l.drop i)) Try.underlying24 le_size (Nat.min_self _) hdl (fun j v hj => by rw [add0]; exact hdrop w2.drew hk2 j v hj) hg2 (by simp only [List.size_toArray, hc1l, hdl, hRs]; omega) (leK.flat_one _)
  have hfin : Hid (OwnLe (w2.drew.setRow w.heap.size c2.toArray) base (.slice (some ⟨w.heap.size, 0, none⟩) (cap + 1) G) (insG l i r)) := by
    refine lown_mk (cur := c2.toArray) (by rw [insG_len r (by omega), hln]) hbase (row_set (w := w2.drew) hg2 _) hGn hGm (by simp only [List.size_toArray, hc2l, hRs]) ?_
    show List.take _ c2 = _
    rw [← hc2, ← hc1, lins_cells, ← hRt, ← put_forth rfl (by rw [hdl, le_cells_len, Array.length_toList, hRs]; omega), show (cap + 1) * 5 = i * 5 + r.cells.length + (leK.flat (l.drop i)).length by rw [hdl, le_cells_len]; omega]
  have hgr3 := Lib.hid (grown_setRow_new (grown_drew' hgr2) (Nat.le_refl _) c2.toArray)
  have Hcp1 := Lib.hid hcp1; have Hcp2 := Lib.hid hcp2; have Hrz := Lib.hid hrz
  have bG : (G : Int) ≤ 9223372036854775807 := by unfold maxLen at hGm; omega
  have bcap : (cap : Int) ≤ 2000 := by omega
  have mixed : Try.prog.follows Departure.mixedOrders = true := by kernel_rfl
  have e1 : IntKind.i64.wrap ((i : Int) + 1) = (i : Int) + 1 := IntWalk.i64_in _ (by omega)
  have e2 : IntKind.i64.wrap ((cap : Int) + 1) = (cap : Int) + 1 := IntWalk.i64_in _ (by omega)
  have e3 : IntKind.i64.wrap ((cap : Int) + 1 - (i : Int)) = (cap : Int) + 1 - (i : Int) := IntWalk.i64_in _ (by omega)
  have t1 : decide ((cap : Int) < (cap : Int) + 1) = true := by simp; omega
  have hz3 : (cap : Int) < (cap : Int) + 1 := by omega
  have hb0 : (0 : Int) ≤ (i : Int) + 1 := by omega
  have hb3 : (i : Int) ≤ (cap : Int) := by omega
  have htn : ((i : Int) + 1).toNat = i + 1 := by omega
  have t2' : ((i : Int) == (cap : Int)) = false := by rw [beq_eq_false_iff_ne]; omega
  have hin : i ≤ cap := by omega
  have hb1 : ¬ (cap = i) := by omega
  have hb2 : ¬ (G = i + 1) := by omega
  have hb4 : ¬ (G = i) := by omega
  clear hcp1 hcp2 hrz hc1 hc2 hc1l hc2l hr1 hgr1 hgr2 hg1 hg2 hdl htl hct hdrop hr hg ht hcs hi0 hz0 hz1 hz2 hold hik hG hROW hRs hRt hk1 hk2 hw1 hw2 hroom hnc
  go_enter Try.func35, Try.ntmps35
  go_wp2_with (first
    | (at_builtin; refine wpList_append_h _ rfl _ _ _ _ rfl _ _ rfl rfl (Hrz.out _ _ (by omega)) ?_)
    | (refine wpList_copy_h _ rfl _ _ _ _ rfl _ _ rfl rfl (Hcp1.out _ _ _ _ (by omega) (by omega)) ?_))
  go_region_law_o (refine step_copy_h rfl _ _ 24 24 rfl (.slice (some ⟨w.heap.size, (i + 1) * 5, none⟩) (cap - i) (G - (i + 1))) (.slice (some ⟨g, i * 5, none⟩) (cap - i) (cap - i)) (by simp [Act.eval, Act.put]) (by simp [Act.eval, Act.put]) (Hcp2.out _ _ _ _ _ _ _ rfl rfl rfl rfl) ?_)
  go_wp2
  go_ret
  exact ⟨_, rfl, hfin.out, hgr3.out⟩
/-- slices.Insert of one report, into a row of the own -/
theorem linsert_any (l : List Le) (v : Value) (base : Nat) (r : Le) (i vb : Nat) (w : World) (hO : OwnLe w base v l) (hbase : base ≤ w.heap.size) (hi : i ≤ l.length) (hlen : l.length ≤ 2000) (hr : CB w vb 36 r.cells) (hne : v.ownBlock ≠ some vb) :
    Calls Try.prog 35 #[v, .int .i64 (i : Int), .slice (some ⟨vb, 0, none⟩) 1 1] w fun e w' => ∃ v', e = .returned v' ∧ OwnLe w' base v' (insG l i r) ∧ w.grownBy w' v.ownBlock := by
  by_cases hin : i = l.length
  · obtain ⟨oa, cap, rfl, hlm⟩ := hO.rd.shape
    subst hin
    exact linsert_end l oa cap base r vb w hO hbase hlen hr
  · rcases hO.2 with ⟨rfl, h0⟩ | ⟨g, cap, cur, rfl, hbg, hg, hnc, hm, hcs, ht⟩
    · omega
    · by_cases hroom : l.length + 1 ≤ cap
      · exact linsert_room l g cap base l.length i vb cur r w rfl hbg hg hm hcs ht (by omega) hroom hr (fun h => hne (by rw [h]; rfl))
      · exact linsert_grow l g cap base l.length i vb cur r w rfl hbase hg hnc hcs ht (by omega) hlen hroom hr
end Go.Proofs.Ytlocilbcmcfmaaa
/- lease: use, give, grant. -/
namespace Go.Proofs.Ytlocilbcmcfmaaa
open Go.RowKit
section
variable {α : Type} {K : EK α}
theorem flat_set {a b : α} {j : Nat} {u : Value} (hb : K.cells b = (K.cells a).set j u) (hj : j < K.n) : ∀ (l : List α) (i : Nat), l[i]? = some a → K.flat (l.set i b) = (K.flat l).set (i * K.n + j) u
  | [], i, h => by simp at h
  | c :: r, 0, h => by
    simp at h; subst h
    rw [List.set_cons_zero, K.flat_cons, K.flat_cons, hb, Nat.zero_mul, Nat.zero_add, List.set_append_left _ _ (by rw [K.len]; exact hj)]
  | c :: r, i + 1, h => by
    rw [List.set_cons_succ, K.flat_cons, K.flat_cons, flat_set hb hj r i (by simpa using h), List.set_append_right _ _ (by rw [K.len, Nat.add_mul]; omega), K.len]
    congr 2
    rw [Nat.add_mul]; omega
/-- one cell of an element of the own is stored -/
theorem OwnK.put {e : TypeId} {w : World} {base g n cap i j : Nat} {l : List α} {a b : α} {u : Value} (h : OwnK K e w base (.slice (some ⟨g, 0, none⟩) n cap) l) (ha : l[i]? = some a) (hb : K.cells b = (K.cells a).set j u) (hj : j < K.n) :
    OwnK K e (w.setCell ⟨g, i * K.n + j, none⟩ u) base (.slice (some ⟨g, 0, none⟩) n cap) (l.set i b) := by
  rcases h.2 with ⟨h0, _⟩ | ⟨g', cap', cur, h1, hbg, hg, hn, hm, hcs, ht⟩
  · cases h0
  · injection h1 with h1 h2 h3
    injection h1 with h1
    injection h1 with h1
    subst h1 h2 h3
    have hc : CB w g e cur.toList := hg
    have hc2 := hc.set (i * K.n + j) u
    refine OwnK.mk (K := K) (cur := (cur.toList.set (i * K.n + j) u).toArray) (by rw [List.length_set]) hbg hc2 hn hm (by simp [hcs]) ?_
    show List.take _ (cur.toList.set _ _) = _
    rw [List.take_set, ht, flat_set hb hj l i ha]
theorem OwnK.ext {e : TypeId} {w w' : World} {base : Nat} {v : Value} {l : List α} (h : OwnK K e w base v l) (hb : Below w.heap.size w w') : OwnK K e w' base v l := by
  have hlt := h.lt
  rcases h with ⟨h1, h2⟩
  refine ⟨h1, ?_⟩
  rcases h2 with h2 | ⟨g, cap, cur, rfl, hb1, hg, r⟩
  · exact .inl h2
  · exact .inr ⟨g, cap, cur, rfl, hb1, (hb.block g (hlt g rfl).2).trans hg, r⟩
theorem OwnK.free {e : TypeId} {w : World} {base g n cap : Nat} {l : List α} (h : OwnK K e w base (.slice (some ⟨g, 0, none⟩) n cap) l) (o : Nat) : w.frozen? ⟨g, o, none⟩ = false := by
  rcases h.2 with ⟨h0, _⟩ | ⟨g', cap', cur, h1, hbg, hg, _⟩
  · cases h0
  · injection h1 with h1
    injection h1 with h1
    injection h1 with h1
    subst h1
    exact CB.frozen (cs := cur.toList) hg o
end
/-- what an operation answers: an error, or the state behind it -/
def OpPost (S base : Nat) (R : Int ⊕ (Int × List Le)) (w : World) (e : Ending) (w' : World) : Prop :=
  Below base w w' ∧ match R with
    | .inl k => e = .panicked (failChain k)
    | .inr (tk', l') => e = .returned (.tuple #[]) ∧ ∃ v', StCB w' S tk' v' ∧ OwnLe w' base v' l' ∧ v'.ownBlock ≠ some S
def useR (tk : Int) (l : List Le) (c : Cm) (n : Nat) : Int ⊕ (Int × List Le) :=
  match heldE l c n with
  | some k => .inl k
  | none => match l[n]? with
    | none => .inl 350
    | some x => if x.fl ≠ c.fl then .inl 350 else .inr (tk, l.set n { x with us := true })
theorem below_mono {B B' : Nat} {w w' : World} (h : Below B w w') (hB : B' ≤ B) : Below B' w w' := ⟨h.os, h.tape, h.output, h.size, fun k hk => h.block k (Nat.lt_of_lt_of_le hk hB)⟩
theorem held_some {l : List Le} {c : Cm} {n : Nat} (h : heldE l c n = none) : ∃ x, l[n]? = some x := by
  unfold heldE at h
  cases hx : l[n]? with
  | none => rw [hx] at h; cases h
  | some x => exact ⟨x, rfl⟩
theorem held_err {S : Nat} {tk : Int} {l : List Le} {v : Value} {c : Cm} {n : Nat} {w : World} {k : Int} (hS : StCB w S tk v) (hl : LesAt w.heap.size w l v) (hlen : l.length ≤ 2000) (hlow : LowL l c.sl n) (hk : heldE l c n = some k) :
    Calls Try.prog 37 #[.pointer (some ⟨S, 0, none⟩), c.v] w fun e w' => e = .panicked (failChain k) ∧ Below w.heap.size w w' := by
  obtain ⟨oa, cap, rfl, h⟩ := held_any S tk l v c n w hS hl hlen hlow
  refine h.mono ?_
  rintro e w' ⟨h1, h2⟩
  rw [hk] at h2
  exact ⟨h2, h1⟩
theorem held_good {S base : Nat} {tk : Int} {l : List Le} {v : Value} {c : Cm} {n : Nat} {w : World} (hS : StCB w S tk v) (hO : OwnLe w base v l) (hlen : l.length ≤ 2000) (hlow : LowL l c.sl n) (hk : heldE l c n = none) :
    ∃ g cap, v = .slice (some ⟨g, 0, none⟩) l.length cap ∧ Calls Try.prog 37 #[.pointer (some ⟨S, 0, none⟩), c.v] w fun e w' => e = .returned (.pointer (some ⟨g, n * 5, none⟩)) ∧ Below w.heap.size w w' := by
  obtain ⟨oa, cap, hv, h⟩ := held_any S tk l v c n w hS hO.rd hlen hlow
  obtain ⟨x, hx⟩ := held_some hk
  rcases hO.2 with ⟨h1, h0⟩ | ⟨g, cp, cur, h1, _⟩
  · rw [List.eq_nil_of_length_eq_zero h0] at hx; simp at hx
  · refine ⟨g, cp, h1, h.mono ?_⟩
    rintro e w' ⟨h3, h2⟩
    rw [hk] at h2
    obtain ⟨b, off, hoa, rfl⟩ := h2
    rw [hv, hoa] at h1
    injection h1 with h1
    injection h1 with h1
    injection h1 with h4 h5
    subst h4 h5
    exact ⟨by rw [Nat.zero_add], h3⟩
set_option maxRecDepth 100000 in
set_option maxHeartbeats 4000000 in
theorem use_any (S base : Nat) (tk : Int) (l : List Le) (v : Value) (c : Cm) (n : Nat) (w : World) (hS : StCB w S tk v) (hO : OwnLe w base v l) (hne : v.ownBlock ≠ some S) (hbS : base ≤ S) (hlen : l.length ≤ 2000) (hlow : LowL l c.sl n) :
    Calls Try.prog 26 #[.pointer (some ⟨S, 0, none⟩), c.v] w (OpPost S base (useR tk l c n) w) := by
  have HS := Lib.hid hS; have HO := Lib.hid hO; have Hne := Lib.hid hne; have HbS := Lib.hid hbS; have Hlow := Lib.hid hlow; have Hlen := Lib.hid hlen
  have hbw := Lib.hid (Nat.le_of_lt (Nat.lt_of_le_of_lt hbS hS.lt))
  clear hS hO hne hbS hlow hlen
  obtain ⟨kd, sl, ai, fl, ct⟩ := c
  have hb0 := Lib.hid ((Below.refl w.heap.size w).alloc (Nat.le_refl _) (.cells #[.int .i64 kd, .int .i64 sl, .int .i64 ai, .int .i64 fl, .int .i64 ct] 33))
  have hcb0 : Hid (CB (w.alloc (.cells #[.int .i64 kd, .int .i64 sl, .int .i64 ai, .int .i64 fl, .int .i64 ct] 33)) w.heap.size 33 [.int .i64 kd, .int .i64 sl, .int .i64 ai, .int .i64 fl, .int .i64 ct]) := CB.new w _ _
  have hS0 := Lib.hid (HS.out.alloc (.cells #[.int .i64 kd, .int .i64 sl, .int .i64 ai, .int .i64 fl, .int .i64 ct] 33))
  have hO0 := Lib.hid (HO.out.ext hb0.out)
  change Calls Try.prog 26 #[.pointer (some ⟨S, 0, none⟩), .agg #[.int .i64 kd, .int .i64 sl, .int .i64 ai, .int .i64 fl, .int .i64 ct]] w _
  obtain ⟨R, hR⟩ : ∃ R, useR tk l ⟨kd, sl, ai, fl, ct⟩ n = R := ⟨_, rfl⟩
  rw [hR]
  have HR := Lib.hid hR; clear hR
  go_enter Try.func26, Try.ntmps26
  go_upto_region 1 with fail
  generalize w.alloc (.cells #[.int .i64 kd, .int .i64 sl, .int .i64 ai, .int .i64 fl, .int .i64 ct] 33) = w0 at *
  have c0 : w0.cell? ⟨w.heap.size, 0, none⟩ = some (.int .i64 kd) := hcb0.out.cell 0
  have c1 : w0.cell? ⟨w.heap.size, 1, none⟩ = some (.int .i64 sl) := hcb0.out.cell 1
  have c2 : w0.cell? ⟨w.heap.size, 2, none⟩ = some (.int .i64 ai) := hcb0.out.cell 2
  have c3 : w0.cell? ⟨w.heap.size, 3, none⟩ = some (.int .i64 fl) := hcb0.out.cell 3
  have c4 : w0.cell? ⟨w.heap.size, 4, none⟩ = some (.int .i64 ct) := hcb0.out.cell 4
  cases hh : heldE l ⟨kd, sl, ai, fl, ct⟩ n with
  | some k =>
    have Hcall := Lib.hid (held_err hS0.out hO0.out.rd Hlen.out Hlow.out hh)
    have hRe : Hid (R = .inl k) := by show _ = _; rw [← HR.out]; unfold useR; rw [hh]
    clear hh
    go_wp2_with (go_at_call 37; refine Hcall.out.mono ?_; rintro e w1 ⟨rfl, hb1⟩)
    exact ⟨rfl, below_mono (below_ext hb0.out hb1) hbw.out, by rw [hRe.out]⟩
  | none =>
    obtain ⟨x, hx⟩ := held_some hh
    obtain ⟨g, cap, rfl, hcall⟩ := held_good hS0.out hO0.out Hlen.out Hlow.out hh
    have Hcall := Lib.hid hcall
    have hR0 : Hid (R = if x.fl ≠ fl then .inl 350 else .inr (tk, l.set n { x with us := true })) := by show _ = _; rw [← HR.out]; unfold useR; rw [hh, hx]
    have Hx := Lib.hid hx
    clear hh hcall hx
    go_upto_region 2 with (go_at_call 37; refine Hcall.out.mono ?_; rintro e w1 ⟨rfl, hb1⟩)
    have HB1 := Lib.hid (below_ext hb0.out hb1)
    have HS1 := Lib.hid (hS0.out.ext hb1)
    have HC1 := Lib.hid (hcb0.out.ext hb1)
    have HO1 := Lib.hid (hO0.out.ext hb1)
    clear hb1 c0 c1 c2 c3 c4
    obtain ⟨b, off, hbo, _, hat⟩ := HO1.out.rd.at (k := n) (List.getElem?_eq_some_iff.1 Hx.out).1
    injection hbo with hbo
    injection hbo with hbo1 hbo2
    subst hbo1 hbo2
    obtain ⟨y0, y1, y2, y3, y4⟩ := five_of (hat n x Hx.out)
    have x2 : w1.cell? ⟨g, n * 5 + 2, none⟩ = some (.int .i64 x.fl) := by rw [← Nat.zero_add (n * 5)]; exact y2
    have d3 : w1.cell? ⟨w.heap.size, 3, none⟩ = some (.int .i64 fl) := HC1.out.cell 3
    have x4 : w1.cell? ⟨g, n * 5 + 4, none⟩ = some (.bool x.us) := by rw [← Nat.zero_add (n * 5)]; exact y4
    have z4 : w1.frozen? ⟨g, n * 5 + 4, none⟩ = false := HO1.out.free _
    have hbg := Lib.hid (HO1.out.lt g rfl).1
    clear hat y0 y1 y2 y3 y4
    obtain ⟨xs, xa, xf, xt, us⟩ := x
    obtain ⟨q, hq⟩ : ∃ q, (xf == fl) = q := ⟨_, rfl⟩
    have Hq := Lib.hid hq
    cases q
    case false =>
      have hRe : Hid (R = .inl 350) := by show _ = _; rw [hR0.out, if_pos (by simpa using Hq.out)]
      refine wp_region_held_drew (S := fun w' => w'.cell? ⟨g, n * 5 + 2, none⟩ = some (.int .i64 xf) ∧ w'.cell? ⟨w.heap.size, 3, none⟩ = some (.int .i64 fl)) (by kernel_rfl) ⟨x2, d3⟩ (fun hHeld => ?_)
      refine take_dst (some 8) (i := 0) (v := ?vA0) rfl rfl (by kernel_rfl) (by kernel_rfl) (by kernel_rfl) (fun _ _ _ h => h) (Or.inl ⟨by rfl, fun wS hSw => ?hyA0⟩) (by assumption) ?restA0
      case hyA0 => (obtain ⟨s0, s1⟩ := hSw; go_simp; first | done | with_reducible rfl)
      try simp only [Act.put, List.setIfInBounds_toArray, List.set_cons_zero, List.set_cons_succ]
      refine take_dst (some 9) (i := 1) (v := ?vA1) rfl rfl (by kernel_rfl) (by kernel_rfl) (by kernel_rfl) (fun _ _ _ h => h) (Or.inl ⟨by rfl, fun wS hSw => ?hyA1⟩) (by assumption) ?restA1
      case hyA1 => (obtain ⟨s0, s1⟩ := hSw; go_simp; first | done | with_reducible rfl)
      try simp only [Act.put, List.setIfInBounds_toArray, List.set_cons_zero, List.set_cons_succ]
      refine take_dst (some 10) (i := 2) (v := ?vA2) rfl rfl (by kernel_rfl) (by kernel_rfl) (by kernel_rfl) (fun _ _ _ h => h) (Or.inl ⟨by rfl, fun wS hSw => ?hyA2⟩) (by assumption) ?restA2
      case hyA2 => (obtain ⟨s0, s1⟩ := hSw; go_simp; first | done | with_reducible rfl)
      try simp only [Act.put, List.setIfInBounds_toArray, List.set_cons_zero, List.set_cons_succ]
      refine take_dst (some 11) (i := 3) (v := ?vA3) rfl rfl (by kernel_rfl) (by kernel_rfl) (by kernel_rfl) (fun _ _ _ h => h) (Or.inl ⟨by rfl, fun wS hSw => ?hyA3⟩) (by assumption) ?restA3
      case hyA3 => (obtain ⟨s0, s1⟩ := hSw; go_simp; first | done | with_reducible rfl)
      try simp only [Act.put, List.setIfInBounds_toArray, List.set_cons_zero, List.set_cons_succ]
      refine take_dst (some 12) (i := 4) (v := ?vA4) rfl rfl (by kernel_rfl) (by kernel_rfl) (by kernel_rfl) (fun _ _ _ h => h) (Or.inl ⟨by rfl, fun wS hSw => ?hyA4⟩) (by assumption) ?restA4
      case hyA4 => (obtain ⟨s0, s1⟩ := hSw; go_simp; first | done | with_reducible rfl)
      try simp only [Act.put, List.setIfInBounds_toArray, List.set_cons_zero, List.set_cons_succ]
      refine take_dst (some 13) (i := 5) (v := ?vA5) rfl rfl (by kernel_rfl) (by kernel_rfl) (by kernel_rfl) (fun _ _ _ h => h) (Or.inl ⟨by rfl, fun wS hSw => ?hyA5⟩) (by assumption) ?restA5
      case hyA5 => (obtain ⟨s0, s1⟩ := hSw; go_simp; first | done | with_reducible rfl)
      try simp only [Act.put, List.setIfInBounds_toArray, List.set_cons_zero, List.set_cons_succ]
      refine take_dst (some 14) (i := 6) (v := ?vA6) rfl rfl (by kernel_rfl) (by kernel_rfl) (by kernel_rfl) (fun _ _ _ h => h) (Or.inl ⟨by rfl, fun wS hSw => ?hyA6⟩) (by assumption) ?restA6
      case hyA6 => (obtain ⟨s0, s1⟩ := hSw; go_simp; first | done | with_reducible rfl)
      try simp only [Act.put, List.setIfInBounds_toArray, List.set_cons_zero, List.set_cons_succ]
      refine wpAnyH_ready (rs := [7]) (by kernel_rfl) (by simp) ?_
      refine AllReadyH.cons rfl (fun K hK => ?_) AllReadyH.nil
      go_simp
      refine (demand_false _ _).mono ?_
      rintro e w8 ⟨rfl, rfl⟩
      exact ⟨rfl, (below_mono HB1.out hbw.out).drew, by rw [hRe.out]⟩
    case true =>
      have hRe : Hid (R = .inr (tk, l.set n ⟨xs, xa, xf, xt, true⟩)) := by show _ = _; rw [hR0.out, if_neg (by simpa using Hq.out)]
      go_quiet ((go_at_call 27; exact Calls.quiet_of_same (demand_q _ _)))
      go_wp2_with fail
      go_end0
      have hn : Below w1.heap.size w1 (w1.drewN nq) := below_drewN'' (Below.refl _ _) nq
      refine ⟨Below.setCell (below_drewN'' (below_mono HB1.out hbw.out) nq) hbg.out _, ?_⟩
      rw [hRe.out]
      refine ⟨rfl, _, (HS1.out.ext hn).far (fun e => Hne.out (by rw [e]; rfl)) _, (HO1.out.ext hn).put Hx.out rfl (by decide), Hne.out⟩
end Go.Proofs.Ytlocilbcmcfmaaa
