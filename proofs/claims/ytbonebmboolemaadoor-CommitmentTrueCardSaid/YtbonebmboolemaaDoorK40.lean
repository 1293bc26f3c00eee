/- Merged: Tpc Tvq Tlw. -/
import Derived.Test.YtbonebmboolemaaDoorK22
import Derived.Test.YtbonebmboolemaaDoorK32
import Derived.Test.YtbonebmboolemaaDoorK33
import Derived.Test.YtbonebmboolemaaDoorK34
import Derived.Test.YtbonebmboolemaaDoorK38
import Derived.Test.YtbonebmboolemaaDoorK39
import Derived.Deep.DeepCutAuto
/- the reference's Places (printed by gen36z.py). -/
namespace Go.Proofs.YtbonebmboolemaaDoor
open Go.RowKit
theorem own_ne {α : Type} {K : EK α} {e t : TypeId} {w : World} {base g : Nat} {v : Value} {l : List α} {cs : List Value} (h : OwnK K e w base v l) (hc : CB w g t cs) (hne : e ≠ t) : v.ownBlock ≠ some g := by
  rcases h.2 with ⟨rfl, _⟩ | ⟨g', cap, cur, rfl, _, hg, _⟩
  · intro e'; cases e'
  · intro e'
    have : g' = g := by simpa [Value.ownBlock] using e'
    subst this
    unfold CB at hc
    rw [hg] at hc
    injection hc with hc
    injection hc with _ hc _
    exact hne hc
theorem cb_app {α : Type} {K : EK α} {e t : TypeId} {w w' : World} {base g : Nat} {v : Value} {l : List α} {cs : List Value} (hc : CB w g t cs) (h : OwnK K e w base v l) (hg : w.grownBy w' v.ownBlock) (hne : e ≠ t) : CB w' g t cs :=
  hc.keep (hg.block g hc.lt (fun e' => own_ne h hc hne e'.symm))
theorem setRow_d {w : World} {g : Nat} {t : TypeId} {d : Dg} {cs : List Value} (h : CB w g t cs) : CB (w.setRow g (bcells d.1).toArray) g t (bcells d.1) ∧ w.grownBy (w.setRow g (bcells d.1).toArray) (some g) ∧ (w.setRow g (bcells d.1).toArray).heap.size = w.heap.size := by
  refine ⟨setRow_heap _ _ _ _ _ _ h, ⟨rfl, rfl, rfl, by rw [size_setRow]; exact Nat.le_refl _, fun k hk hne => ?_⟩, size_setRow _ _ _⟩
  have hkg : k ≠ g := fun e => hne (by rw [e])
  simp [World.setRow, Array.getElem?_modify, Ne.symm hkg]
theorem cb_rng0 {w : World} {g : Nat} {t : TypeId} {cs : List Value} (h : CB w g t cs) : w.rangeAt g 0 cs := fun i u hu => by rw [Nat.zero_add, h.cell]; exact hu
/-- a box with a digest, and a number: what 'x, e := f(..)' leaves -/
def CutX (z : Int) (x : Dg) (w0 : World) (vx ve : Value) (wx : World) : Prop :=
  ∃ gx : Nat, vx = .pointer (some ⟨gx, 0, none⟩) ∧ ve = .int .i64 z ∧ Below w0.heap.size w0 wx ∧ CB wx gx 29 (bcells x.1)
def intsN (l : List Nat) : List Int := l.map fun (x : Nat) => (x : Int)
theorem int_info : (Tryd.prog.info? 3).map (fun i => (i.zero, i.size, i.bytes)) = some (some (.int .i64 0), 1, 8) := by kernel_rfl
theorem places_succ (d : Dg) (T S : Nat) (p : Opn) (m : Nat) : placesN d T S p (m + 1) = placesN d T S p m ++ hitsN d T S p m := by
  unfold placesN; rw [List.range_succ, List.flatMap_append]; simp
theorem hits_no {d : Dg} {T S n : Nat} {p : Opn} (h : fitsB S p.slot.toNat (p.path.take n) = false) : hitsN d T S p n = [] := by
  unfold hitsN; rw [if_neg (by rw [h]; simp)]
theorem hits_len (d : Dg) (T S : Nat) (p : Opn) (n : Nat) : (hitsN d T S p n).length ≤ T := by
  unfold hitsN
  split
  · exact Nat.le_trans (List.length_filter_le _ _) (by simp)
  · simp
theorem places_len (d : Dg) (T S : Nat) (p : Opn) : ∀ m, (placesN d T S p m).length ≤ m * T
  | 0 => by simp [placesN]
  | m + 1 => by rw [places_succ, List.length_append, Nat.add_mul, Nat.one_mul]; have := places_len d T S p m; have := hits_len d T S p m; omega
/-- the tables ahead of one that are hit -/
def hitsU (d : Dg) (T : Nat) (x : Dg) (rest : List Dg) (a : Nat) : List Nat := (List.range a).filter (hitB d T x rest)
theorem hitsU_no {d x : Dg} {T a : Nat} {rest : List Dg} (h : hitB d T x rest a = false) : hitsU d T x rest (a + 1) = hitsU d T x rest a := by
  unfold hitsU; rw [List.range_succ, List.filter_append, List.filter_cons, if_neg (by rw [h]; simp), List.filter_nil, List.append_nil]
theorem hitsU_yes {d x : Dg} {T a : Nat} {rest : List Dg} (h : hitB d T x rest a = true) : hitsU d T x rest (a + 1) = hitsU d T x rest a ++ [a] := by
  unfold hitsU; rw [List.range_succ, List.filter_append, List.filter_cons, if_pos h, List.filter_nil]
theorem hitsU_len (d : Dg) (T : Nat) (x : Dg) (rest : List Dg) (a : Nat) : (hitsU d T x rest a).length ≤ a := Nat.le_trans (List.length_filter_le _ _) (by simp)
def partU (d : Dg) (T : Nat) (x : Dg) (rest : List Dg) (n q a : Nat) : Nat := if hitsU d T x rest a = [] then q else n
theorem hits_yes {d x : Dg} {T S n k : Nat} {p : Opn} (hk : p.slot.toNat = k) (hf : fitsB S k (p.path.take n) = true) (hx : riseD (ownD p) S p.slot.toNat (p.path.take n) = x) : hitsN d T S p n = hitsU d T x (p.path.drop n) T := by
  unfold hitsN hitsU; rw [hx, hk, if_pos hf]
structure PoRel (d ow : Dg) (r : Ob) (T S : Nat) (p : Opn) (w : World) (g : Nat) (vl vp vi : Value) (wr : World) : Prop where
  h : ∃ n : Nat, vi = .int .i64 (n : Int) ∧ vp = .int .i64 ((partN d T S p n : Nat) : Int) ∧ n ≤ p.path.length + 1 ∧ OwnK nuK 3 wr w.heap.size vl (intsN (placesN d T S p n)) ∧ CB wr w.heap.size 29 (bcells d.1) ∧ CB wr (w.heap.size + 1) 36 r.cells ∧ CB wr g 29 (bcells ow.1) ∧ Below w.heap.size w wr
structure PiRel (d x ow : Dg) (r : Ob) (T : Nat) (rest : List Dg) (pre : List Nat) (n q : Nat) (w : World) (g gx : Nat) (vl vp vi : Value) (wr : World) : Prop where
  h : ∃ a : Nat, vi = .int .i64 (a : Int) ∧ vp = .int .i64 ((partU d T x rest n q a : Nat) : Int) ∧ a ≤ T ∧ OwnK nuK 3 wr w.heap.size vl (intsN (pre ++ hitsU d T x rest a)) ∧ CB wr w.heap.size 29 (bcells d.1) ∧ CB wr (w.heap.size + 1) 36 r.cells ∧ CB wr g 29 (bcells ow.1) ∧ CB wr gx 29 (bcells x.1) ∧ Below w.heap.size w wr
def PlPost (d : Dg) (T S : Nat) (p : Opn) (w : World) (e : Ending) (w' : World) : Prop :=
  ∃ v, e = .returned (.tuple #[v, .int .i64 ((partN d T S p (p.path.length + 1) : Nat) : Int)]) ∧ OwnK nuK 3 w' w.heap.size v (intsN (allN d T S p)) ∧ Below w.heap.size w w'
set_option maxRecDepth 100000 in
set_option maxHeartbeats 8000000 in
theorem places_any (d : Dg) (T S k : Nat) (p : Opn) (r : Ob) (w : World) (hr : OpR w p r) (hI : OpI p) (hT : T ≤ 8) (hS : S ≤ 8) (hk : p.slot = (k : Int)) (hkS : k < S) (hl : p.path.length ≤ 64) :
    Calls Tryd.prog 20 #[dv d.1, .int .i64 (T : Int), .int .i64 (S : Int), r.v] w (PlPost d T S p w) := by
  have hb1 : Below w.heap.size w ((w.alloc (bD d)).alloc (bO r)) := (b_al (w := w) (bD d)).alloc (b_al (w := w) (bD d)).size _
  have hc0 : CB ((w.alloc (bD d)).alloc (bO r)) (w.heap.size + 1) 36 r.cells := by
    have := cb_one (w.alloc (bD d)) (bO r) 36 r.cells rfl
    rwa [World.size_alloc] at this
  have hd0 : CB ((w.alloc (bD d)).alloc (bO r)) w.heap.size 29 (bcells d.1) := (cb_one w (bD d) _ _ rfl).alloc _
  have HPt := Lib.hid hr.path
  have h64 : Hid (p.path.length ≤ 64) := hl
  have hd32 := Lib.hid d.2
  have hki : Hid (p.slot.toNat = k) := by show _ = _; omega
  have HIx := Lib.hid hI.four
  obtain ⟨c0, c1, c2, c3, q4, c5⟩ := ob_cell hc0
  obtain ⟨e1, e2, e3, e4, e5, -⟩ := hr
  rw [e1] at c0; rw [e2] at c1; rw [e3] at c2; rw [e4] at c3; rw [e5] at q4
  obtain ⟨po, pn, pc, hpv⟩ : ∃ a b c, r.pv = .slice a b c := ⟨_, _, _, rfl⟩
  rw [hpv] at c5 HPt
  have HPV := Lib.hid hpv; have HE3 := Lib.hid (e3.trans hk)
  obtain ⟨P, hP⟩ : ∃ P, P = p := ⟨_, rfl⟩
  have HPp := Lib.hid hP
  have hown : Hid (leafX p.salt [p.air, p.fl, p.slot, p.cost] = ownD P) := by show _ = _; rw [hP]; rfl
  rw [← hP] at hki
  have hPP := Lib.hid (congrArg Opn.path hP)
  rw [← hP]
  obtain ⟨ra, rf, ps, rc, sl, pp⟩ := p
  change ps = (k : Int) at hk
  subst hk
  change Hid (LsAt digK w.heap.size w pp (.slice po pn pc)) at HPt
  obtain ⟨hpn, hcp, hmx⟩ : pn = pp.length ∧ pp.length ≤ pc ∧ (pp.length : Int) ≤ 9223372036854775807 := by
    obtain ⟨_, _, he, h1, h2⟩ := HPt.out.shape2
    injection he with _ a2 a3
    subst a2 a3
    exact ⟨rfl, h1, by omega⟩
  subst hpn
  have HT8 := Lib.hid hT; have HS8 := Lib.hid hS; have HkS := Lib.hid hkS
  have HQ4 : Hid (((w.alloc (bD d)).alloc (bO r)).rangeAt (w.heap.size + 1) 4 (bcells sl.1)) := q4
  have Hsl : Hid (sl.1.length = 32) := sl.2
  change Hid (pp.length ≤ 64) at h64
  change Hid (P.path = pp) at hPP
  have bp : (pp.length : Int) ≤ 64 := by have := h64.out; omega
  have bT : (T : Int) ≤ 8 := by omega
  have hcp' : (pp.length : Int) ≤ (pc : Int) := by omega
  have HB0 := Lib.hid hb1; have HD0 := Lib.hid hd0; have HC0 := Lib.hid hc0
  change Hid (∀ y ∈ [ra, rf, (k : Int), rc], I64 y) at HIx
  clear hb1 hc0 hd0 hI hT hS hkS q4 hl hP hmx e1 e2 e3 e4 e5 hpv
  change Calls Tryd.prog 20 #[.agg (bcells d.1).toArray, _, _, .agg r.cells.toArray] w _
  have HRc : Hid (∀ (W : World) (g : Nat), CB W g 36 r.cells → W.cell? ⟨g, 2, none⟩ = some (.int .i64 (k : Int)) ∧ W.cell? ⟨g, 36, none⟩ = some (.slice po pp.length pc)) := fun W g h => by
    obtain ⟨-, -, h2, -, -, h5⟩ := ob_cell h
    rw [HE3.out] at h2; rw [HPV.out] at h5
    exact ⟨h2, h5⟩
  go_enter Tryd.func20, Tryd.ntmps20
  go_upto_region 1 with fail
  change Code.wp _ _ _ _ ((w.alloc (bD d)).alloc (bO r))
  generalize (w.alloc (bD d)).alloc (bO r) = w0 at *
  have hcl := Lib.hid (rleaf_any sl ra rf (k : Int) rc w0 HIx.out)
  rw [show leafX sl [ra, rf, (k : Int), rc] = ownD P from hown.out] at hcl
  obtain ⟨ow, how⟩ : ∃ x, ownD P = x := ⟨_, rfl⟩
  rw [how] at hcl
  have How := Lib.hid how
  have HowL := Lib.hid ow.2
  clear how
  go_upto_region 2 with (first
    | (with_reducible refine wpList_load_mid rfl 29 (.tmp 19) rfl (w.heap.size + 1) 4 rfl (bcells sl.1) _ HQ4.out Tryd.underlying29 rfl (by rw [bcells_length, Hsl.out]; exact dig_sz) ?_)
    | (go_at_call 44; refine hcl.out.mono ?_; go_loud (
        rintro e w2 ⟨rfl, hb2⟩
        have HB2 := Lib.hid (below_ext HB0.out hb2); have HD2 := Lib.hid (HD0.out.ext hb2); have HC2 := Lib.hid (HC0.out.ext hb2)
        have HZ : Hid ((w2.alloc ZD).heap[w2.heap.size]? = some (.cells (bcells dgZ.1).toArray 29 (0, 0))) := cb_one w2 ZD _ _ rfl
        clear hb2 HB0 HD0 HC0 hcl c0 c1 c2 c3 c5))
    | ((refine wpList_store_d (hgd := rfl) 29 (.tmp 10) (.tmp 29) rfl w2.heap.size ow.1 HowL.out rfl rfl 29 _ HZ.out rfl dig_sz ?_); go_loud (
        intro w3 hc3 hg3 hz3
        have hb3 : Below w2.heap.size w2 w3 := (b_al (w := w2) ZD).grown hg3.out (by rw [World.size_alloc]; omega) (fun k hk => by injection hk; omega)
        have HB3 := Lib.hid (below_ext HB2.out hb3); have HD3 := Lib.hid (HD2.out.ext hb3); have HC3 := Lib.hid (HC2.out.ext hb3)
        clear hb3 hg3 hz3 HB2 HD2 HC2 HZ)))
  generalize w2.heap.size = g at *
  obtain ⟨-, c5⟩ := HRc.out w3 _ HC3.out
  clear HQ4 HIx hown
  have hz1 : placesN d T S P 0 = [] := rfl
  go_wp2_with fail
  go_loopw [11, 12, 13] (fun vl vp vi wr => PoRel d ow r T S P w g vl vp vi wr) (fun _ _ vi _ => pp.length + 1 - natOf vi)
  case atStart => exact ⟨⟨0, rfl, rfl, by omega, OwnK.nil _ _ _, HD3.out, HC3.out, hc3.out, HB3.out⟩⟩
  case round =>
    obtain ⟨n, rfl, rfl, hn, hl, hd, hc, ho, hb⟩ := hrel.h
    have hn : n ≤ pp.length + 1 := by have := hPP.out; rw [this] at hn; exact hn
    have HLr := Lib.hid hl; have HDr := Lib.hid hd; have HCr := Lib.hid hc; have HOr := Lib.hid ho; have HBr := Lib.hid hb
    obtain ⟨vo, vc, rfl, _⟩ := hl.rd.shape
    clear hrel hl hd hc ho hb HB3 HD3 HC3 hc3 c5
    have hpl : Hid ((placesN d T S P n).length ≤ 65 * 8) := by
      show _ ≤ _
      refine Nat.le_trans (places_len d T S P n) (Nat.mul_le_mul ?_ HT8.out)
      have := h64.out; omega
    obtain ⟨pl, hpl2⟩ : ∃ x, placesN d T S P n = x := ⟨_, rfl⟩
    rw [hpl2] at HLr hpl ⊢
    have HPL := Lib.hid hpl2
    obtain ⟨q, hq⟩ : ∃ x, partN d T S P n = x := ⟨_, rfl⟩
    rw [hq]
    have HQ := Lib.hid hq
    clear hpl2 hq
    obtain ⟨c2, c5⟩ := HRc.out wr _ HCr.out
    by_cases hlt : n ≤ pp.length
    case neg =>
      obtain rfl : n = pp.length + 1 := by omega
      have t9 : decide (((pp.length + 1 : Nat) : Int) ≤ (pp.length : Int)) = false := decide_eq_false (by omega)
      have t9' : decide ((pp.length : Int) + 1 ≤ (pp.length : Int)) = false := decide_eq_false (by omega)
      have t9'' : decide (pp.length + 1 ≤ pp.length) = false := decide_eq_false (by omega)
      clear hlt hn
      go_wp2_with fail
      go_ret2
      exact ⟨.slice vo (intsN pl).length vc, by rw [hPP.out, HQ.out]; rfl, by unfold allN; rw [hPP.out, HPL.out]; exact HLr.out, HBr.out⟩
    case pos =>
    have t9 : decide ((n : Int) ≤ (pp.length : Int)) = true := decide_eq_true (by omega)
    have t9' : decide (n ≤ pp.length) = true := decide_eq_true hlt
    have n1 : (n : Int) ≤ (pp.length : Int) := by omega
    have n2 : (n : Int) ≤ (pc : Int) := by omega
    have n3 : n ≤ pc := by omega
    have Hnp := Lib.hid hlt
    clear hlt hn
    have HF1 : Hid (LsAt digK w.heap.size w (pp.take n) (.slice po n pc)) := by
      obtain ⟨_, _, he, h1, h2⟩ := HPt.out.shape2
      by_cases h0 : n = 0
      · subst h0; rw [List.take_zero]; exact .inl ⟨rfl, _, _, rfl⟩
      · obtain ⟨b, off, rfl, hb, hat⟩ := HPt.out.at (k := 0) (by have := Hnp.out; omega)
        exact HPt.out.takeS n (by intro e; have := Hnp.out; rw [e] at this; simp at this; omega) Hnp.out
    have HF2 : Hid (LsAt digK w.heap.size w (pp.drop n) (.slice (if pc = n then po else Option.map (fun x => x.add (n * 32)) po) (pp.length - n) (pc - n))) := HPt.out.dropG Hnp.out rfl rfl rfl
    obtain ⟨x, hx⟩ : ∃ x, climbD ow S k (pp.take n) = x := ⟨_, rfl⟩
    obtain ⟨z, hz⟩ : ∃ z, climbE S k (pp.take n) = z := ⟨_, rfl⟩
    have HCl : Hid (∀ W, Below wr.heap.size wr W → Calls Tryd.prog 45 #[dv ow.1, .int .i64 (k : Int), .int .i64 (S : Int), .slice po n pc] W fun e w' => e = .returned (.tuple #[dv x.1, .int .i64 z]) ∧ Below W.heap.size W w') := fun W hW => by
      have := rClimb_any ow k S (pp.take n) (.slice po n pc) W (HF1.out.ext (below_ext HBr.out hW)) (by have := HS8.out; omega) HkS.out
      rw [hx, hz] at this; exact this
    have HX := Lib.hid hx; have HZz := Lib.hid hz
    have HxL := Lib.hid x.2
    clear hx hz
    go_upto_region 7 with fail
    go_cut [14, 15] (fun vx ve wx => CutX z x wr vx ve wx)
    case first =>
      have hbw := Lib.hid (Below.refl wr.heap.size wr)
      have hbd := Lib.hid hbw.out.drew
      refine wp_region_held_drew (S := fun w' => w'.rangeAt g 0 (bcells ow.1) ∧ w'.cell? ⟨w.heap.size + 1, 2, none⟩ = some (.int .i64 (k : Int)) ∧ w'.cell? ⟨w.heap.size + 1, 36, none⟩ = some (.slice po pp.length pc)) (by kernel_rfl) ⟨cb_rng0 (HOr.out.ext hbd.out), cell_ext hbd.out c2, cell_ext hbd.out c5⟩ (fun hHeld => ?_)
      generalize wr.drew = wd at *
      refine take_dst (some 38) (i := 0) (v := dv ow.1) rfl rfl (by kernel_rfl) (by kernel_rfl) (by kernel_rfl) (fun _ _ _ h => h) (yieldsIf_load_mid (by rfl) 29 _ rfl g 0 rfl (bcells ow.1) _ (fun wS hSw => by obtain ⟨s1, s2, s3⟩ := hSw; exact s1) Tryd.underlying29 rfl (by rw [bcells_length, HowL.out]; exact dig_sz)) (by assumption) ?restS0
      try simp only [Act.put, List.setIfInBounds_toArray, List.set_cons_zero, List.set_cons_succ]
      refine take_dst (some 39) (i := 1) (v := ?vS1) rfl rfl (by kernel_rfl) (by kernel_rfl) (by kernel_rfl) (fun _ _ _ h => h) (Or.inl ⟨by rfl, fun wS hSw => ?hyS1⟩) (by assumption) ?restS1
      case hyS1 => (obtain ⟨s1, s2, s3⟩ := hSw; go_simp; first | done | with_reducible rfl)
      try simp only [Act.put, List.setIfInBounds_toArray, List.set_cons_zero, List.set_cons_succ]
      refine take_dst (some 40) (i := 2) (v := ?vS2) rfl rfl (by kernel_rfl) (by kernel_rfl) (by kernel_rfl) (fun _ _ _ h => h) (Or.inl ⟨by rfl, fun wS hSw => ?hyS2⟩) (by assumption) ?restS2
      case hyS2 => (obtain ⟨s1, s2, s3⟩ := hSw; go_simp; first | done | with_reducible rfl)
      try simp only [Act.put, List.setIfInBounds_toArray, List.set_cons_zero, List.set_cons_succ]
      refine take_dst (some 41) (i := 3) (v := ?vS3) rfl rfl (by kernel_rfl) (by kernel_rfl) (by kernel_rfl) (fun _ _ _ h => h) (Or.inl ⟨by rfl, fun wS hSw => ?hyS3⟩) (by assumption) ?restS3
      case hyS3 => (obtain ⟨s1, s2, s3⟩ := hSw; go_simp; first | done | with_reducible rfl)
      try simp only [Act.put, List.setIfInBounds_toArray, List.set_cons_zero, List.set_cons_succ]
      refine take_dst (some 42) (i := 4) (v := ?vS4) rfl rfl (by kernel_rfl) (by kernel_rfl) (by kernel_rfl) (fun _ _ _ h => h) (Or.inl ⟨by rfl, fun wS hSw => ?hyS4⟩) (by assumption) ?restS4
      case hyS4 => (obtain ⟨s1, s2, s3⟩ := hSw; go_simp; first | done | with_reducible rfl)
      try simp only [Act.put, List.setIfInBounds_toArray, List.set_cons_zero, List.set_cons_succ]
      refine take_dst (some 43) (i := 5) (v := ?vS5) rfl rfl (by kernel_rfl) (by kernel_rfl) (by kernel_rfl) (fun _ _ _ h => h) (Or.inl ⟨by rfl, fun wS hSw => ?hyS5⟩) (by assumption) ?restS5
      case hyS5 => (obtain ⟨s1, s2, s3⟩ := hSw; go_simp; first | done | with_reducible rfl)
      try simp only [Act.put, List.setIfInBounds_toArray, List.set_cons_zero, List.set_cons_succ]
      refine take_dst (some 44) (i := 6) (v := ?vS6) rfl rfl (by kernel_rfl) (by kernel_rfl) (by kernel_rfl) (fun _ _ _ h => h) (Or.inl ⟨by rfl, fun wS hSw => ?hyS6⟩) (by assumption) ?restS6
      case hyS6 => (obtain ⟨s1, s2, s3⟩ := hSw; go_simp; first | done | with_reducible rfl)
      try simp only [Act.put, List.setIfInBounds_toArray, List.set_cons_zero, List.set_cons_succ]
      refine take_dst (some 45) (i := 7) (v := ?vS7) rfl rfl (by kernel_rfl) (by kernel_rfl) (by kernel_rfl) (fun _ _ _ h => h) (Or.inl ⟨by rfl, fun wS hSw => ?hyS7⟩) (by assumption) ?restS7
      case hyS7 => (obtain ⟨s1, s2, s3⟩ := hSw; go_simp; first | done | with_reducible rfl)
      try simp only [Act.put, List.setIfInBounds_toArray, List.set_cons_zero, List.set_cons_succ]
      refine wpAnyH_ready (rs := [8, 12]) (by kernel_rfl) (by simp) ?_
      refine AllReadyH.cons rfl (fun K hK => ?_) (AllReadyH.cons rfl (fun K hK => ?_) AllReadyH.nil)
      · go_simp
        refine (HCl.out wd hbd.out).mono ?_
        rintro e w7 ⟨rfl, hb7⟩
        have hb7x := Lib.hid (below_ext hbd.out hb7)
        clear hb7
        refine hK.out _ _ ⟨cb_rng0 (HOr.out.ext hb7x.out), cell_ext hb7x.out c2, cell_ext hb7x.out c5⟩ (fun hHeldA => ?_)
        clear hK K
        try simp only [Act.put, List.setIfInBounds_toArray, List.set_cons_zero, List.set_cons_succ]
        refine take_dst (some 37) (i := 9) (v := ?vSx9) rfl rfl (by kernel_rfl) (by kernel_rfl) (by kernel_rfl) (fun _ _ _ h => h) (Or.inl ⟨by rfl, fun wS hSw => ?hySx9⟩) (by assumption) ?restSx9
        case hySx9 => (obtain ⟨s1, s2, s3⟩ := hSw; go_simp; first | done | with_reducible rfl)
        try simp only [Act.put, List.setIfInBounds_toArray, List.set_cons_zero, List.set_cons_succ]
        refine take_dst (some 47) (i := 10) (v := ?vSx10) rfl rfl (by kernel_rfl) (by kernel_rfl) (by kernel_rfl) (fun _ _ _ h => h) (Or.inl ⟨by rfl, fun wS hSw => ?hySx10⟩) (by assumption) ?restSx10
        case hySx10 => (obtain ⟨s1, s2, s3⟩ := hSw; go_simp; first | done | with_reducible rfl)
        try simp only [Act.put, List.setIfInBounds_toArray, List.set_cons_zero, List.set_cons_succ]
        refine take_dst (some 48) (i := 11) (v := ?vSx11) rfl rfl (by kernel_rfl) (by kernel_rfl) (by kernel_rfl) (fun _ _ _ h => h) (Or.inl ⟨by rfl, fun wS hSw => ?hySx11⟩) (by assumption) ?restSx11
        case hySx11 => (obtain ⟨s1, s2, s3⟩ := hSw; go_simp; first | done | with_reducible rfl)
        try simp only [Act.put, List.setIfInBounds_toArray, List.set_cons_zero, List.set_cons_succ]
        refine wpAnyH_ready (rs := [12]) (by kernel_rfl) (by simp) ?_
        refine AllReadyH.cons rfl (fun K hK => ?_) AllReadyH.nil
        go_simp
        change K _ (w7.alloc ZD)
        have HE8 : Hid (CB (w7.alloc ZD) w7.heap.size 29 (bcells dgZ.1)) := cb_one w7 _ _ _ rfl
        have hb8 := Lib.hid (below_ext hb7x.out (b_al ZD))
        have hEw := Lib.hid hb7x.out.size
        generalize hw8 : w7.alloc ZD = w8 at *
        clear hw8 hb7x
        generalize w7.heap.size = E at *
        refine hK.out _ _ ⟨cb_rng0 (HOr.out.ext hb8.out), cell_ext hb8.out c2, cell_ext hb8.out c5⟩ (fun hHeldB => ?_)
        clear hK K
        try simp only [Act.put, List.setIfInBounds_toArray, List.set_cons_zero, List.set_cons_succ]
        refine wpAnyH_ready (rs := [13]) (by kernel_rfl) (by simp) ?_
        refine AllReadyH.cons rfl (fun K hK => ?_) AllReadyH.nil
        rw [if_pos (by rfl)]
        refine wp_store_row 29 (.tmp 14) (.tmp 47) rfl E (bcells x.1).toArray rfl rfl 29 _ HE8.out (by rw [List.size_toArray, bcells_length, HxL.out]; exact dig_sz) (by rw [List.size_toArray, List.size_toArray, bcells_length, bcells_length, HxL.out, dgZ.2]) (dig_one _) ?_
        obtain ⟨HE9, hg9, hz9⟩ := setRow_d (d := x) HE8.out
        have hb9 : Hid (Below wr.heap.size wr (w8.setRow E (bcells x.1).toArray)) := hb8.out.grown hg9 hb8.out.size (fun q e => by injection e with e; have := hEw.out; omega)
        generalize w8.setRow E (bcells x.1).toArray = w9 at *
        refine hK.out _ _ ⟨cb_rng0 (HOr.out.ext hb9.out), cell_ext hb9.out c2, cell_ext hb9.out c5⟩ (fun hHeldZ => ?_)
        clear hK K
        try simp only [Act.put, List.setIfInBounds_toArray]
        refine take_dst (some 15) (i := 14) (v := ?vSAz14) rfl rfl (by kernel_rfl) (by kernel_rfl) (by kernel_rfl) (fun _ _ _ h => h) (Or.inl ⟨by rfl, fun wS hSw => ?hySAz14⟩) (by assumption) ?restSAz14
        case hySAz14 => (obtain ⟨s1, s2, s3⟩ := hSw; go_simp; first | done | with_reducible rfl)
        try simp only [Act.put]
        refine wpAnyH_done (by kernel_rfl) ?_ _
        go_wp2_with fail
        go_meet
        case rel => exact ⟨E, rfl, rfl, hb9.out, HE9⟩
      · go_simp
        change K _ (wd.alloc ZD)
        have HE6 : Hid (CB (wd.alloc ZD) wd.heap.size 29 (bcells dgZ.1)) := cb_one wd _ _ _ rfl
        have hba := Lib.hid (below_ext hbd.out (b_al ZD))
        have hEw := Lib.hid hbd.out.size
        generalize hwa : wd.alloc ZD = wa at *
        clear hwa hbd
        generalize wd.heap.size = E at *
        refine hK.out _ _ ⟨cb_rng0 (HOr.out.ext hba.out), cell_ext hba.out c2, cell_ext hba.out c5⟩ (fun hHeldA => ?_)
        clear hK K
        try simp only [Act.put, List.setIfInBounds_toArray, List.set_cons_zero, List.set_cons_succ]
        refine wpAnyH_ready (rs := [8]) (by kernel_rfl) (by simp) ?_
        refine AllReadyH.cons rfl (fun K hK => ?_) AllReadyH.nil
        go_simp
        refine (HCl.out wa hba.out).mono ?_
        rintro e w8 ⟨rfl, hb7⟩
        have hb8 := Lib.hid (below_ext hba.out hb7)
        have HE8 := Lib.hid (HE6.out.ext hb7)
        clear hb7
        refine hK.out _ _ ⟨cb_rng0 (HOr.out.ext hb8.out), cell_ext hb8.out c2, cell_ext hb8.out c5⟩ (fun hHeldB => ?_)
        clear hK K
        try simp only [Act.put, List.setIfInBounds_toArray, List.set_cons_zero, List.set_cons_succ]
        refine take_dst (some 37) (i := 9) (v := ?vSy9) rfl rfl (by kernel_rfl) (by kernel_rfl) (by kernel_rfl) (fun _ _ _ h => h) (Or.inl ⟨by rfl, fun wS hSw => ?hySy9⟩) (by assumption) ?restSy9
        case hySy9 => (obtain ⟨s1, s2, s3⟩ := hSw; go_simp; first | done | with_reducible rfl)
        try simp only [Act.put, List.setIfInBounds_toArray, List.set_cons_zero, List.set_cons_succ]
        refine take_dst (some 47) (i := 10) (v := ?vSy10) rfl rfl (by kernel_rfl) (by kernel_rfl) (by kernel_rfl) (fun _ _ _ h => h) (Or.inl ⟨by rfl, fun wS hSw => ?hySy10⟩) (by assumption) ?restSy10
        case hySy10 => (obtain ⟨s1, s2, s3⟩ := hSw; go_simp; first | done | with_reducible rfl)
        try simp only [Act.put, List.setIfInBounds_toArray, List.set_cons_zero, List.set_cons_succ]
        refine take_dst (some 48) (i := 11) (v := ?vSy11) rfl rfl (by kernel_rfl) (by kernel_rfl) (by kernel_rfl) (fun _ _ _ h => h) (Or.inl ⟨by rfl, fun wS hSw => ?hySy11⟩) (by assumption) ?restSy11
        case hySy11 => (obtain ⟨s1, s2, s3⟩ := hSw; go_simp; first | done | with_reducible rfl)
        try simp only [Act.put, List.setIfInBounds_toArray, List.set_cons_zero, List.set_cons_succ]
        refine wpAnyH_ready (rs := [13]) (by kernel_rfl) (by simp) ?_
        refine AllReadyH.cons rfl (fun K hK => ?_) AllReadyH.nil
        rw [if_pos (by rfl)]
        refine wp_store_row 29 (.tmp 14) (.tmp 47) rfl E (bcells x.1).toArray rfl rfl 29 _ HE8.out (by rw [List.size_toArray, bcells_length, HxL.out]; exact dig_sz) (by rw [List.size_toArray, List.size_toArray, bcells_length, bcells_length, HxL.out, dgZ.2]) (dig_one _) ?_
        obtain ⟨HE9, hg9, hz9⟩ := setRow_d (d := x) HE8.out
        have hb9 : Hid (Below wr.heap.size wr (w8.setRow E (bcells x.1).toArray)) := hb8.out.grown hg9 hb8.out.size (fun q e => by injection e with e; have := hEw.out; omega)
        generalize w8.setRow E (bcells x.1).toArray = w9 at *
        refine hK.out _ _ ⟨cb_rng0 (HOr.out.ext hb9.out), cell_ext hb9.out c2, cell_ext hb9.out c5⟩ (fun hHeldZ => ?_)
        clear hK K
        try simp only [Act.put, List.setIfInBounds_toArray]
        refine take_dst (some 15) (i := 14) (v := ?vSBz14) rfl rfl (by kernel_rfl) (by kernel_rfl) (by kernel_rfl) (fun _ _ _ h => h) (Or.inl ⟨by rfl, fun wS hSw => ?hySBz14⟩) (by assumption) ?restSBz14
        case hySBz14 => (obtain ⟨s1, s2, s3⟩ := hSw; go_simp; first | done | with_reducible rfl)
        try simp only [Act.put]
        refine wpAnyH_done (by kernel_rfl) ?_ _
        go_wp2_with fail
        go_meet
        case rel => exact ⟨E, rfl, rfl, hb9.out, HE9⟩
    case rest =>
      obtain ⟨gx, rfl, rfl, hbx, hcx⟩ := hcut
      have HBx := Lib.hid (below_ext HBr.out hbx); have HDx := Lib.hid (HDr.out.ext hbx); have HCx := Lib.hid (HCr.out.ext hbx); have HOx := Lib.hid (HOr.out.ext hbx); have HLx := Lib.hid (HLr.out.ext hbx); have HXx := Lib.hid hcx
      clear hbx hcx HBr HDr HCr HOr HLr HCl c2 c5
      obtain ⟨c2, c5⟩ := HRc.out wc _ HCx.out
      by_cases hfit : fitsB S k (pp.take n) = true
      case neg =>
        have hfit' : fitsB S k (pp.take n) = false := by simpa using hfit
        have hz1 : z = 1 := by rw [← HZz.out]; exact climb_unfit hfit'
        subst hz1
        have HH : Hid (hitsN d T S P n = []) := hits_no (by rw [hki.out, hPP.out]; exact hfit')
        clear hfit hfit'
        go_wp2_with fail
        go_roundw
        case rel => exact ⟨⟨n + 1, by go_num, by rw [partN, if_pos HH.out, HQ.out], by rw [hPP.out]; have := Hnp.out; omega, by rw [places_succ, HH.out, List.append_nil, HPL.out]; exact HLx.out, HDx.out, HCx.out, HOx.out, HBx.out⟩⟩
        case measure => simp [natOf]; have := Hnp.out; omega
      case pos =>
      obtain ⟨hf1, hf2⟩ := climb_fit (d := ow) hfit
      have hz0 : z = 0 := by rw [← HZz.out]; exact hf2
      subst hz0
      have HX2 : Hid (riseD (ownD P) S P.slot.toNat (P.path.take n) = x) := by show _ = _; rw [hki.out, hPP.out, How.out, ← hf1]; exact HX.out
      have HH : Hid (hitsN d T S P n = hitsU d T x (pp.drop n) T) := by
        have := hits_yes (d := d) (T := T) hki.out (by rw [hPP.out]; exact hfit) HX2.out
        rw [hPP.out] at this; exact this
      clear hf1 hf2 hfit
      obtain ⟨rest, hrest⟩ : ∃ x, pp.drop n = x := ⟨_, rfl⟩
      rw [hrest] at HF2 HH
      clear hrest
      generalize wr = wr0 at *
      go_wp2_with fail
      go_loopw [11, 12, 16] (fun vl vp vi wr => PiRel d x ow r T rest pl n q w g gx vl vp vi wr) (fun _ _ vi _ => T - natOf vi)
      case atStart => exact ⟨⟨0, rfl, rfl, by omega, by have := HLx.out; rw [show pl ++ hitsU d T x rest 0 = pl from List.append_nil _]; exact this, HDx.out, HCx.out, HOx.out, HXx.out, HBx.out⟩⟩
      case round =>
        obtain ⟨a, rfl, rfl, ha, hl, hd, hc, ho, hxx, hb⟩ := hrel.h
        have HLr := Lib.hid hl; have HDr := Lib.hid hd; have HCr := Lib.hid hc; have HOr := Lib.hid ho; have HXr := Lib.hid hxx; have HBr := Lib.hid hb
        obtain ⟨wo, wk, rfl, _⟩ := hl.rd.shape
        clear hrel hl hd hc ho hxx hb HLx HDx HCx HOx HXx HBx c2 c5
        have hal : Hid ((pl ++ hitsU d T x rest a).length ≤ 65 * 8 + 8) := by
          show _ ≤ _
          rw [List.length_append]
          have h1 := hpl.out; have h2 := hitsU_len d T x rest a; have h3 := HT8.out; omega
        obtain ⟨hu, hhu⟩ : ∃ y, pl ++ hitsU d T x rest a = y := ⟨_, rfl⟩
        rw [hhu] at HLr hal ⊢
        obtain ⟨qa, hqa⟩ : ∃ y, partU d T x rest n q a = y := ⟨_, rfl⟩
        rw [hqa]
        have HHU := Lib.hid hhu; have HQA := Lib.hid hqa
        clear hhu hqa
        obtain ⟨c2, c5⟩ := HRc.out wr _ HCr.out
        by_cases hat : a < T
        case neg =>
          obtain rfl : a = T := by omega
          have ta : decide ((a : Int) < (a : Int)) = false := by simp
          have hhu2 := HHU.out; have hqa2 := HQA.out
          have hpp2 : partN d a S P (n + 1) = qa := by rw [partN, HH.out, HQ.out, ← hqa2]; rfl
          have Hpp2 := Lib.hid hpp2
          have Hpl2 : Hid (placesN d a S P (n + 1) = hu) := by show _ = _; rw [places_succ, HPL.out, HH.out]; exact hhu2
          clear hat ha hhu2 hqa2 hpp2
          go_wp2_with fail
          go_roundw
          case rel => exact ⟨⟨n + 1, by go_num, by rw [Hpp2.out], by rw [hPP.out]; have := Hnp.out; omega, by rw [Hpl2.out]; exact HLr.out, HDr.out, HCr.out, HOr.out, HBr.out⟩⟩
          case measure => simp [natOf]; have := Hnp.out; omega
        case pos =>
        have ta : decide ((a : Int) < (T : Int)) = true := decide_eq_true (by omega)
        have ta' : decide (a < T) = true := decide_eq_true hat
        have ta1 : (a : Int) < (T : Int) := by omega
        have HAT := Lib.hid hat
        obtain ⟨y, hy⟩ : ∃ y, climbD x T a rest = y := ⟨_, rfl⟩
        obtain ⟨z2, hz2⟩ : ∃ z, climbE T a rest = z := ⟨_, rfl⟩
        have HCl : Hid (∀ W, Below wr.heap.size wr W → Calls Tryd.prog 45 #[dv x.1, .int .i64 (a : Int), .int .i64 (T : Int), .slice (if pc = n then po else Option.map (fun x => x.add (n * 32)) po) (pp.length - n) (pc - n)] W fun e w' => e = .returned (.tuple #[dv y.1, .int .i64 z2]) ∧ Below W.heap.size W w') := fun W hW => by
          have := rClimb_any x a T rest _ W (HF2.out.ext (below_ext HBr.out hW)) (by have := HT8.out; omega) HAT.out
          rw [hy, hz2] at this; exact this
        have HY := Lib.hid hy; have HZ2 := Lib.hid hz2
        have HyL := Lib.hid y.2
        have hgd := fun (a1 a2 : Operand) (W : World) => gd_dv .eql a1 a2 y.1 d.1 W
        clear hy hz2 hat
        go_upto_region 12 with fail
        go_cut [17, 18] (fun vx ve wx => CutX z2 y wr vx ve wx)
        case first =>
          have hbw := Lib.hid (Below.refl wr.heap.size wr)
          have hbd := Lib.hid hbw.out.drew
          refine wp_region_held_drew (S := fun w' => w'.rangeAt gx 0 (bcells x.1) ∧ w'.cell? ⟨w.heap.size + 1, 36, none⟩ = some (.slice po pp.length pc)) (by kernel_rfl) ⟨cb_rng0 (HXr.out.ext hbd.out), cell_ext hbd.out c5⟩ (fun hHeld => ?_)
          generalize wr.drew = wd at *
          refine take_dst (some 57) (i := 0) (v := dv x.1) rfl rfl (by kernel_rfl) (by kernel_rfl) (by kernel_rfl) (fun _ _ _ h => h) (yieldsIf_load_mid (by rfl) 29 _ rfl gx 0 rfl (bcells x.1) _ (fun wS hSw => by obtain ⟨s1, s3⟩ := hSw; exact s1) Tryd.underlying29 rfl (by rw [bcells_length, HxL.out]; exact dig_sz)) (by assumption) ?restU0
          try simp only [Act.put, List.setIfInBounds_toArray, List.set_cons_zero, List.set_cons_succ]
          refine take_dst (some 58) (i := 1) (v := ?vU1) rfl rfl (by kernel_rfl) (by kernel_rfl) (by kernel_rfl) (fun _ _ _ h => h) (Or.inl ⟨by rfl, fun wS hSw => ?hyU1⟩) (by assumption) ?restU1
          case hyU1 => (obtain ⟨s1, s3⟩ := hSw; go_simp; first | done | with_reducible rfl)
          try simp only [Act.put, List.setIfInBounds_toArray, List.set_cons_zero, List.set_cons_succ]
          refine take_dst (some 59) (i := 2) (v := ?vU2) rfl rfl (by kernel_rfl) (by kernel_rfl) (by kernel_rfl) (fun _ _ _ h => h) (Or.inl ⟨by rfl, fun wS hSw => ?hyU2⟩) (by assumption) ?restU2
          case hyU2 => (obtain ⟨s1, s3⟩ := hSw; go_simp; first | done | with_reducible rfl)
          try simp only [Act.put, List.setIfInBounds_toArray, List.set_cons_zero, List.set_cons_succ]
          refine take_dst (some 60) (i := 3) (v := ?vU3) rfl rfl (by kernel_rfl) (by kernel_rfl) (by kernel_rfl) (fun _ _ _ h => h) (Or.inl ⟨by rfl, fun wS hSw => ?hyU3⟩) (by assumption) ?restU3
          case hyU3 => (obtain ⟨s1, s3⟩ := hSw; go_simp; first | done | with_reducible rfl)
          try simp only [Act.put, List.setIfInBounds_toArray, List.set_cons_zero, List.set_cons_succ]
          refine take_dst (some 61) (i := 4) (v := ?vU4) rfl rfl (by kernel_rfl) (by kernel_rfl) (by kernel_rfl) (fun _ _ _ h => h) (Or.inl ⟨by rfl, fun wS hSw => ?hyU4⟩) (by assumption) ?restU4
          case hyU4 => (obtain ⟨s1, s3⟩ := hSw; go_simp; first | done | with_reducible rfl)
          try simp only [Act.put, List.setIfInBounds_toArray, List.set_cons_zero, List.set_cons_succ]
          refine take_dst (some 62) (i := 5) (v := ?vU5) rfl rfl (by kernel_rfl) (by kernel_rfl) (by kernel_rfl) (fun _ _ _ h => h) (Or.inl ⟨by rfl, fun wS hSw => ?hyU5⟩) (by assumption) ?restU5
          case hyU5 => (obtain ⟨s1, s3⟩ := hSw; go_simp; first | done | with_reducible rfl)
          try simp only [Act.put, List.setIfInBounds_toArray, List.set_cons_zero, List.set_cons_succ]
          refine take_dst (some 63) (i := 6) (v := ?vU6) rfl rfl (by kernel_rfl) (by kernel_rfl) (by kernel_rfl) (fun _ _ _ h => h) (Or.inl ⟨by rfl, fun wS hSw => ?hyU6⟩) (by assumption) ?restU6
          case hyU6 => (obtain ⟨s1, s3⟩ := hSw; go_simp; first | done | with_reducible rfl)
          try simp only [Act.put, List.setIfInBounds_toArray, List.set_cons_zero, List.set_cons_succ]
          refine wpAnyH_ready (rs := [7, 11]) (by kernel_rfl) (by simp) ?_
          refine AllReadyH.cons rfl (fun K hK => ?_) (AllReadyH.cons rfl (fun K hK => ?_) AllReadyH.nil)
          · go_simp
            refine (HCl.out wd hbd.out).mono ?_
            rintro e w7 ⟨rfl, hb7⟩
            have hb7x := Lib.hid (below_ext hbd.out hb7)
            clear hb7
            refine hK.out _ _ ⟨cb_rng0 (HXr.out.ext hb7x.out), cell_ext hb7x.out c5⟩ (fun hHeldA => ?_)
            clear hK K
            try simp only [Act.put, List.setIfInBounds_toArray, List.set_cons_zero, List.set_cons_succ]
            refine take_dst (some 56) (i := 8) (v := ?vUx8) rfl rfl (by kernel_rfl) (by kernel_rfl) (by kernel_rfl) (fun _ _ _ h => h) (Or.inl ⟨by rfl, fun wS hSw => ?hyUx8⟩) (by assumption) ?restUx8
            case hyUx8 => (obtain ⟨s1, s3⟩ := hSw; go_simp; first | done | with_reducible rfl)
            try simp only [Act.put, List.setIfInBounds_toArray, List.set_cons_zero, List.set_cons_succ]
            refine take_dst (some 65) (i := 9) (v := ?vUx9) rfl rfl (by kernel_rfl) (by kernel_rfl) (by kernel_rfl) (fun _ _ _ h => h) (Or.inl ⟨by rfl, fun wS hSw => ?hyUx9⟩) (by assumption) ?restUx9
            case hyUx9 => (obtain ⟨s1, s3⟩ := hSw; go_simp; first | done | with_reducible rfl)
            try simp only [Act.put, List.setIfInBounds_toArray, List.set_cons_zero, List.set_cons_succ]
            refine take_dst (some 66) (i := 10) (v := ?vUx10) rfl rfl (by kernel_rfl) (by kernel_rfl) (by kernel_rfl) (fun _ _ _ h => h) (Or.inl ⟨by rfl, fun wS hSw => ?hyUx10⟩) (by assumption) ?restUx10
            case hyUx10 => (obtain ⟨s1, s3⟩ := hSw; go_simp; first | done | with_reducible rfl)
            try simp only [Act.put, List.setIfInBounds_toArray, List.set_cons_zero, List.set_cons_succ]
            refine wpAnyH_ready (rs := [11]) (by kernel_rfl) (by simp) ?_
            refine AllReadyH.cons rfl (fun K hK => ?_) AllReadyH.nil
            go_simp
            change K _ (w7.alloc ZD)
            have HE8 : Hid (CB (w7.alloc ZD) w7.heap.size 29 (bcells dgZ.1)) := cb_one w7 _ _ _ rfl
            have hb8 := Lib.hid (below_ext hb7x.out (b_al ZD))
            have hEw := Lib.hid hb7x.out.size
            generalize hw8 : w7.alloc ZD = w8 at *
            clear hw8 hb7x
            generalize w7.heap.size = E at *
            refine hK.out _ _ ⟨cb_rng0 (HXr.out.ext hb8.out), cell_ext hb8.out c5⟩ (fun hHeldB => ?_)
            clear hK K
            try simp only [Act.put, List.setIfInBounds_toArray, List.set_cons_zero, List.set_cons_succ]
            refine wpAnyH_ready (rs := [12]) (by kernel_rfl) (by simp) ?_
            refine AllReadyH.cons rfl (fun K hK => ?_) AllReadyH.nil
            rw [if_pos (by rfl)]
            refine wp_store_row 29 (.tmp 17) (.tmp 65) rfl E (bcells y.1).toArray rfl rfl 29 _ HE8.out (by rw [List.size_toArray, bcells_length, HyL.out]; exact dig_sz) (by rw [List.size_toArray, List.size_toArray, bcells_length, bcells_length, HyL.out, dgZ.2]) (dig_one _) ?_
            obtain ⟨HE9, hg9, hz9⟩ := setRow_d (d := y) HE8.out
            have hb9 : Hid (Below wr.heap.size wr (w8.setRow E (bcells y.1).toArray)) := hb8.out.grown hg9 hb8.out.size (fun q e => by injection e with e; have := hEw.out; omega)
            generalize w8.setRow E (bcells y.1).toArray = w9 at *
            refine hK.out _ _ ⟨cb_rng0 (HXr.out.ext hb9.out), cell_ext hb9.out c5⟩ (fun hHeldZ => ?_)
            clear hK K
            try simp only [Act.put, List.setIfInBounds_toArray]
            refine take_dst (some 18) (i := 13) (v := ?vUAz13) rfl rfl (by kernel_rfl) (by kernel_rfl) (by kernel_rfl) (fun _ _ _ h => h) (Or.inl ⟨by rfl, fun wS hSw => ?hyUAz13⟩) (by assumption) ?restUAz13
            case hyUAz13 => (obtain ⟨s1, s3⟩ := hSw; go_simp; first | done | with_reducible rfl)
            try simp only [Act.put]
            refine wpAnyH_done (by kernel_rfl) ?_ _
            obtain ⟨o2, ho2⟩ : ∃ o2, (if pc = n then po else Option.map (fun x => x.add (n * 32)) po) = o2 := ⟨_, rfl⟩
            rw [ho2]
            clear ho2
            go_wp2_with fail
            go_meet
            case rel => exact ⟨E, rfl, rfl, hb9.out, HE9⟩
          · go_simp
            change K _ (wd.alloc ZD)
            have HE6 : Hid (CB (wd.alloc ZD) wd.heap.size 29 (bcells dgZ.1)) := cb_one wd _ _ _ rfl
            have hba := Lib.hid (below_ext hbd.out (b_al ZD))
            have hEw := Lib.hid hbd.out.size
            generalize hwa : wd.alloc ZD = wa at *
            clear hwa hbd
            generalize wd.heap.size = E at *
            refine hK.out _ _ ⟨cb_rng0 (HXr.out.ext hba.out), cell_ext hba.out c5⟩ (fun hHeldA => ?_)
            clear hK K
            try simp only [Act.put, List.setIfInBounds_toArray, List.set_cons_zero, List.set_cons_succ]
            refine wpAnyH_ready (rs := [7]) (by kernel_rfl) (by simp) ?_
            refine AllReadyH.cons rfl (fun K hK => ?_) AllReadyH.nil
            go_simp
            refine (HCl.out wa hba.out).mono ?_
            rintro e w8 ⟨rfl, hb7⟩
            have hb8 := Lib.hid (below_ext hba.out hb7)
            have HE8 := Lib.hid (HE6.out.ext hb7)
            clear hb7
            refine hK.out _ _ ⟨cb_rng0 (HXr.out.ext hb8.out), cell_ext hb8.out c5⟩ (fun hHeldB => ?_)
            clear hK K
            try simp only [Act.put, List.setIfInBounds_toArray, List.set_cons_zero, List.set_cons_succ]
            refine take_dst (some 56) (i := 8) (v := ?vUy8) rfl rfl (by kernel_rfl) (by kernel_rfl) (by kernel_rfl) (fun _ _ _ h => h) (Or.inl ⟨by rfl, fun wS hSw => ?hyUy8⟩) (by assumption) ?restUy8
            case hyUy8 => (obtain ⟨s1, s3⟩ := hSw; go_simp; first | done | with_reducible rfl)
            try simp only [Act.put, List.setIfInBounds_toArray, List.set_cons_zero, List.set_cons_succ]
            refine take_dst (some 65) (i := 9) (v := ?vUy9) rfl rfl (by kernel_rfl) (by kernel_rfl) (by kernel_rfl) (fun _ _ _ h => h) (Or.inl ⟨by rfl, fun wS hSw => ?hyUy9⟩) (by assumption) ?restUy9
            case hyUy9 => (obtain ⟨s1, s3⟩ := hSw; go_simp; first | done | with_reducible rfl)
            try simp only [Act.put, List.setIfInBounds_toArray, List.set_cons_zero, List.set_cons_succ]
            refine take_dst (some 66) (i := 10) (v := ?vUy10) rfl rfl (by kernel_rfl) (by kernel_rfl) (by kernel_rfl) (fun _ _ _ h => h) (Or.inl ⟨by rfl, fun wS hSw => ?hyUy10⟩) (by assumption) ?restUy10
            case hyUy10 => (obtain ⟨s1, s3⟩ := hSw; go_simp; first | done | with_reducible rfl)
            try simp only [Act.put, List.setIfInBounds_toArray, List.set_cons_zero, List.set_cons_succ]
            refine wpAnyH_ready (rs := [12]) (by kernel_rfl) (by simp) ?_
            refine AllReadyH.cons rfl (fun K hK => ?_) AllReadyH.nil
            rw [if_pos (by rfl)]
            refine wp_store_row 29 (.tmp 17) (.tmp 65) rfl E (bcells y.1).toArray rfl rfl 29 _ HE8.out (by rw [List.size_toArray, bcells_length, HyL.out]; exact dig_sz) (by rw [List.size_toArray, List.size_toArray, bcells_length, bcells_length, HyL.out, dgZ.2]) (dig_one _) ?_
            obtain ⟨HE9, hg9, hz9⟩ := setRow_d (d := y) HE8.out
            have hb9 : Hid (Below wr.heap.size wr (w8.setRow E (bcells y.1).toArray)) := hb8.out.grown hg9 hb8.out.size (fun q e => by injection e with e; have := hEw.out; omega)
            generalize w8.setRow E (bcells y.1).toArray = w9 at *
            refine hK.out _ _ ⟨cb_rng0 (HXr.out.ext hb9.out), cell_ext hb9.out c5⟩ (fun hHeldZ => ?_)
            clear hK K
            try simp only [Act.put, List.setIfInBounds_toArray]
            refine take_dst (some 18) (i := 13) (v := ?vUBz13) rfl rfl (by kernel_rfl) (by kernel_rfl) (by kernel_rfl) (fun _ _ _ h => h) (Or.inl ⟨by rfl, fun wS hSw => ?hyUBz13⟩) (by assumption) ?restUBz13
            case hyUBz13 => (obtain ⟨s1, s3⟩ := hSw; go_simp; first | done | with_reducible rfl)
            try simp only [Act.put]
            refine wpAnyH_done (by kernel_rfl) ?_ _
            obtain ⟨o2, ho2⟩ : ∃ o2, (if pc = n then po else Option.map (fun x => x.add (n * 32)) po) = o2 := ⟨_, rfl⟩
            rw [ho2]
            clear ho2
            go_wp2_with fail
            go_meet
            case rel => exact ⟨E, rfl, rfl, hb9.out, HE9⟩
        case rest =>
          obtain ⟨gy, rfl, rfl, hbx, hcx⟩ := hcut
          have KB := Lib.hid (below_ext HBr.out hbx); have KD := Lib.hid (HDr.out.ext hbx); have KC := Lib.hid (HCr.out.ext hbx); have KO := Lib.hid (HOr.out.ext hbx); have KL := Lib.hid (HLr.out.ext hbx); have KX := Lib.hid (HXr.out.ext hbx); have KY := Lib.hid hcx
          clear hbx hcx HBr HDr HCr HOr HLr HXr HCl c2 c5
          generalize wr = wr1 at *
          by_cases hft : fitsB T a rest = true
          case neg =>
            have hft' : fitsB T a rest = false := by simpa using hft
            have hz1 : z2 = 1 := by rw [← HZ2.out]; exact climb_unfit hft'
            subst hz1
            have HU : Hid (hitsU d T x rest (a + 1) = hitsU d T x rest a) := hitsU_no (by unfold hitB; rw [hft']; rfl)
            clear hft hft'
            go_wp2_with fail
            go_roundw
            case rel => exact ⟨⟨a + 1, by go_num, by unfold partU; rw [HU.out]; rw [← HQA.out]; rfl, by have := HAT.out; omega, by rw [HU.out, HHU.out]; exact KL.out, KD.out, KC.out, KO.out, KX.out, KB.out⟩⟩
            case measure => simp [natOf]; have := HAT.out; omega
          case pos =>
          obtain ⟨hf1, hf2⟩ := climb_fit (d := x) hft
          have hz0 : z2 = 0 := by rw [← HZ2.out]; exact hf2
          subst hz0
          have HR2 : Hid (riseD x T a rest = y) := by show _ = _; rw [← hf1]; exact HY.out
          have HFt := Lib.hid hft
          clear hf1 hf2 hft
          by_cases hyd : y = d
          · have heq : ∀ W, (binOp .eql 29 (dv y.1) (dv d.1)).run Tryd.prog W = .ok (.bool true) W := fun W => by rw [eql_dv _ _ HyL.out hd32.out, decide_eq_true (congrArg Subtype.val hyd)]
            have HU : Hid (hitsU d T x rest (a + 1) = hitsU d T x rest a ++ [a]) := hitsU_yes (by rw [hit_iff]; exact ⟨fits_iff.1 HFt.out, HR2.out.trans hyd⟩)
            clear hyd
            have hal1 := b_al (w := wc) (.cells #[.int .i64 (a : Int)] 3)
            have KSrc : Hid (Src Tryd.prog 1 27 (.slice (some ⟨wc.heap.size, 0, none⟩) 1 1) 1 (nuK.flat [(a : Int)]) (wc.alloc (.cells #[.int .i64 (a : Int)] 3))) := src_el (K := nuK) (a := (a : Int)) Tryd.underlying27 (cb_one wc _ _ _ rfl)
            have KL1 := Lib.hid (KL.out.ext hal1); have KB1 := Lib.hid (below_ext KB.out hal1); have KD1 := Lib.hid (KD.out.ext hal1); have KC1 := Lib.hid (KC.out.ext hal1); have KO1 := Lib.hid (KO.out.ext hal1); have KX1 := Lib.hid (KX.out.ext hal1)
            have hil : (intsN hu).length = hu.length := by unfold intsN; rw [List.length_map]
            have Hil := Lib.hid hil
            clear hal1 hil
            go_wp2_with (first
              | (refine wpList_load_dg (by rfl) 29 (.tmp 17) rfl gy y.1 HyL.out rfl 29 _ KY.out Tryd.underlying29 rfl dig_sz ?_)
              | (refine wpList_load_dg (by rfl) 29 (.tmp 4) rfl w.heap.size d.1 hd32.out rfl 29 _ KD.out Tryd.underlying29 rfl dig_sz ?_)
              | (at_builtin; go_loud (
                  refine wpList_append_x (e := 3) (z := .int .i64 0) (size := 1) (bytes := 8) Tryd.underlying27 int_info rfl rfl (.tmp 74) (.tmp 76) rfl w.heap.size _ (intsN hu).length (nuK.flat (intsN hu)) rfl KL1.out _ 1 (nuK.flat [(a : Int)]) rfl KSrc.out (by have := hal.out; have := Hil.out; unfold maxLen; omega) (by have := hal.out; have := Hil.out; omega) KB1.out.size ?_
                  intro v4 w4 ho4 hg4 hn4
                  have JL : Hid (OwnK nuK 3 w4 w.heap.size v4 (intsN (hu ++ [a]))) := by
                    have := OwnK.append (K := nuK) (a := intsN hu) (b := [(a : Int)]) ho4 (by simp)
                    unfold intsN at this ⊢; rw [List.map_append]; exact this
                  have JB := Lib.hid (below_ownK KB1.out KL1.out hg4 (Nat.le_refl _))
                  have JD := Lib.hid (cb_app KD1.out KL1.out hg4 (by decide)); have JC := Lib.hid (cb_app KC1.out KL1.out hg4 (by decide)); have JO := Lib.hid (cb_app KO1.out KL1.out hg4 (by decide)); have JX := Lib.hid (cb_app KX1.out KL1.out hg4 (by decide))
                  clear ho4 hg4 hn4 KSrc KL1 KB1 KD1 KC1 KO1 KX1)))
            go_roundw
            case rel => exact ⟨⟨a + 1, by go_num, by unfold partU; rw [HU.out, if_neg (by simp)], by have := HAT.out; omega, by rw [HU.out, ← List.append_assoc, HHU.out]; exact JL.out, JD.out, JC.out, JO.out, JX.out, JB.out⟩⟩
            case measure => simp [natOf]; have := HAT.out; omega
          · have heq : ∀ W, (binOp .eql 29 (dv y.1) (dv d.1)).run Tryd.prog W = .ok (.bool false) W := fun W => by rw [eql_dv _ _ HyL.out hd32.out, decide_eq_false (fun e => hyd (Subtype.ext e))]
            have HU : Hid (hitsU d T x rest (a + 1) = hitsU d T x rest a) := hitsU_no (by unfold hitB; rw [HR2.out, decide_eq_false hyd, Bool.and_false])
            clear hyd
            go_wp2_with (first
              | (refine wpList_load_dg (by rfl) 29 (.tmp 17) rfl gy y.1 HyL.out rfl 29 _ KY.out Tryd.underlying29 rfl dig_sz ?_)
              | (refine wpList_load_dg (by rfl) 29 (.tmp 4) rfl w.heap.size d.1 hd32.out rfl 29 _ KD.out Tryd.underlying29 rfl dig_sz ?_))
            go_roundw
            case rel => exact ⟨⟨a + 1, by go_num, by unfold partU; rw [HU.out]; rw [← HQA.out]; rfl, by have := HAT.out; omega, by rw [HU.out, HHU.out]; exact KL.out, KD.out, KC.out, KO.out, KX.out, KB.out⟩⟩
            case measure => simp [natOf]; have := HAT.out; omega
end Go.Proofs.YtbonebmboolemaaDoor
/- the reference's Verify (printed by gen36x.py). -/
namespace Go.Proofs.YtbonebmboolemaaDoor
open Go.RowKit
set_option maxRecDepth 100000 in
set_option maxHeartbeats 4000000 in
theorem rverify_no (d : Dg) (air tables slots : Int) (p : Opn) (r : Ob) (w : World) (hr : OpR w p r) (h : (preV air tables slots p && decide (p.path.length ≤ 6)) = false) :
    Calls Tryd.prog 19 #[dv d.1, .int .i64 air, .int .i64 tables, .int .i64 slots, r.v] w (VerPost d air tables slots p w) := by
  have hve : verE d air tables slots p = 360 := by
    unfold verE
    rw [← rver_eq]
    unfold rverB
    rw [h]; rfl
  have HP : Hid (∀ w', Below w.heap.size w w' → VerPost d air tables slots p w (.returned (.int .i64 360)) w') := fun w' hb => ⟨by rw [hve], hb⟩
  have hb0 : Below w.heap.size w ((w.alloc (bD d)).alloc (bO r)) := (b_al (w := w) (bD d)).alloc (b_al (w := w) (bD d)).size _
  have hc0 : CB ((w.alloc (bD d)).alloc (bO r)) (w.heap.size + 1) 36 r.cells := by
    have := cb_one (w.alloc (bD d)) (bO r) 36 r.cells rfl
    rwa [World.size_alloc] at this
  have H := Lib.hid h
  have HB := Lib.hid hb0
  obtain ⟨c0, c1, c2, c3, -, c5⟩ := ob_cell hc0
  obtain ⟨po, pn, pc, hpv⟩ : ∃ a b c, r.pv = .slice a b c := ⟨_, _, _, rfl⟩
  have hpn : pn = p.path.length := by
    obtain ⟨_, _, he, _⟩ := hr.path.shape
    rw [hpv] at he
    injection he with _ e2 _
  rw [hpv] at c5
  obtain ⟨e1, e2, e3, e4, -, -⟩ := hr
  rw [e1] at c0; rw [e2] at c1; rw [e3] at c2; rw [e4] at c3
  obtain ⟨ra, rf, rs, rc, psl, pp⟩ := p
  change pn = pp.length at hpn
  have HPN := Lib.hid hpn
  clear h hb0 hc0 e1 e2 e3 e4 hve hpn hpv
  by_cases h0 : tables < 1
  · have t0 : decide (tables < 1) = true := decide_eq_true h0
    change Calls Tryd.prog 19 #[.agg (bcells d.1).toArray, _, _, _, .agg r.cells.toArray] w _
    clear H HPN
    go_enter Tryd.func19, Tryd.ntmps19
    go_upto_region 1 with fail
    change Code.wp _ _ _ _ ((w.alloc (bD d)).alloc (bO r))
    generalize (w.alloc (bD d)).alloc (bO r) = w0 at *
    go_wp2_with fail
    go_ret
    exact HP.out _ HB.out
  have t0 : decide (tables < 1) = false := decide_eq_false h0
  by_cases h1 : 8 < tables
  · have t1 : decide (8 < tables) = true := decide_eq_true h1
    change Calls Tryd.prog 19 #[.agg (bcells d.1).toArray, _, _, _, .agg r.cells.toArray] w _
    clear H HPN
    go_enter Tryd.func19, Tryd.ntmps19
    go_upto_region 1 with fail
    change Code.wp _ _ _ _ ((w.alloc (bD d)).alloc (bO r))
    generalize (w.alloc (bD d)).alloc (bO r) = w0 at *
    go_wp2_with fail
    go_ret
    exact HP.out _ HB.out
  have t1 : decide (8 < tables) = false := decide_eq_false h1
  by_cases h2 : slots < 1
  · have t2 : decide (slots < 1) = true := decide_eq_true h2
    change Calls Tryd.prog 19 #[.agg (bcells d.1).toArray, _, _, _, .agg r.cells.toArray] w _
    clear H HPN
    go_enter Tryd.func19, Tryd.ntmps19
    go_upto_region 1 with fail
    change Code.wp _ _ _ _ ((w.alloc (bD d)).alloc (bO r))
    generalize (w.alloc (bD d)).alloc (bO r) = w0 at *
    go_wp2_with fail
    go_ret
    exact HP.out _ HB.out
  have t2 : decide (slots < 1) = false := decide_eq_false h2
  by_cases h3 : 8 < slots
  · have t3 : decide (8 < slots) = true := decide_eq_true h3
    change Calls Tryd.prog 19 #[.agg (bcells d.1).toArray, _, _, _, .agg r.cells.toArray] w _
    clear H HPN
    go_enter Tryd.func19, Tryd.ntmps19
    go_upto_region 1 with fail
    change Code.wp _ _ _ _ ((w.alloc (bD d)).alloc (bO r))
    generalize (w.alloc (bD d)).alloc (bO r) = w0 at *
    go_wp2_with fail
    go_ret
    exact HP.out _ HB.out
  have t3 : decide (8 < slots) = false := decide_eq_false h3
  by_cases h4 : ¬ ra = air
  · have t4 : decide (ra = air) = false := decide_eq_false h4
    change Calls Tryd.prog 19 #[.agg (bcells d.1).toArray, _, _, _, .agg r.cells.toArray] w _
    clear H HPN
    go_enter Tryd.func19, Tryd.ntmps19
    go_upto_region 1 with fail
    change Code.wp _ _ _ _ ((w.alloc (bD d)).alloc (bO r))
    generalize (w.alloc (bD d)).alloc (bO r) = w0 at *
    go_wp2_with fail
    go_ret
    exact HP.out _ HB.out
  obtain rfl : ra = air := Decidable.not_not.1 h4
  by_cases h5 : ra < 0
  · have t5 : decide (ra < 0) = true := decide_eq_true h5
    change Calls Tryd.prog 19 #[.agg (bcells d.1).toArray, _, _, _, .agg r.cells.toArray] w _
    clear H HPN
    go_enter Tryd.func19, Tryd.ntmps19
    go_upto_region 1 with fail
    change Code.wp _ _ _ _ ((w.alloc (bD d)).alloc (bO r))
    generalize (w.alloc (bD d)).alloc (bO r) = w0 at *
    go_wp2_with fail
    go_ret
    exact HP.out _ HB.out
  have t5 : decide (ra < 0) = false := decide_eq_false h5
  by_cases h6 : 8 ≤ ra
  · have t6 : decide (8 ≤ ra) = true := decide_eq_true h6
    change Calls Tryd.prog 19 #[.agg (bcells d.1).toArray, _, _, _, .agg r.cells.toArray] w _
    clear H HPN
    go_enter Tryd.func19, Tryd.ntmps19
    go_upto_region 1 with fail
    change Code.wp _ _ _ _ ((w.alloc (bD d)).alloc (bO r))
    generalize (w.alloc (bD d)).alloc (bO r) = w0 at *
    go_wp2_with fail
    go_ret
    exact HP.out _ HB.out
  have t6 : decide (8 ≤ ra) = false := decide_eq_false h6
  by_cases h7 : rf < 0
  · have t7 : decide (rf < 0) = true := decide_eq_true h7
    change Calls Tryd.prog 19 #[.agg (bcells d.1).toArray, _, _, _, .agg r.cells.toArray] w _
    clear H HPN
    go_enter Tryd.func19, Tryd.ntmps19
    go_upto_region 1 with fail
    change Code.wp _ _ _ _ ((w.alloc (bD d)).alloc (bO r))
    generalize (w.alloc (bD d)).alloc (bO r) = w0 at *
    go_wp2_with fail
    go_ret
    exact HP.out _ HB.out
  have t7 : decide (rf < 0) = false := decide_eq_false h7
  by_cases h8 : 4095 < rf
  · have t8 : decide (4095 < rf) = true := decide_eq_true h8
    change Calls Tryd.prog 19 #[.agg (bcells d.1).toArray, _, _, _, .agg r.cells.toArray] w _
    clear H HPN
    go_enter Tryd.func19, Tryd.ntmps19
    go_upto_region 1 with fail
    change Code.wp _ _ _ _ ((w.alloc (bD d)).alloc (bO r))
    generalize (w.alloc (bD d)).alloc (bO r) = w0 at *
    go_wp2_with fail
    go_ret
    exact HP.out _ HB.out
  have t8 : decide (4095 < rf) = false := decide_eq_false h8
  by_cases h9 : rs < 0
  · have t9 : decide (rs < 0) = true := decide_eq_true h9
    change Calls Tryd.prog 19 #[.agg (bcells d.1).toArray, _, _, _, .agg r.cells.toArray] w _
    clear H HPN
    go_enter Tryd.func19, Tryd.ntmps19
    go_upto_region 1 with fail
    change Code.wp _ _ _ _ ((w.alloc (bD d)).alloc (bO r))
    generalize (w.alloc (bD d)).alloc (bO r) = w0 at *
    go_wp2_with fail
    go_ret
    exact HP.out _ HB.out
  have t9 : decide (rs < 0) = false := decide_eq_false h9
  by_cases h10 : slots ≤ rs
  · have t10 : decide (slots ≤ rs) = true := decide_eq_true h10
    change Calls Tryd.prog 19 #[.agg (bcells d.1).toArray, _, _, _, .agg r.cells.toArray] w _
    clear H HPN
    go_enter Tryd.func19, Tryd.ntmps19
    go_upto_region 1 with fail
    change Code.wp _ _ _ _ ((w.alloc (bD d)).alloc (bO r))
    generalize (w.alloc (bD d)).alloc (bO r) = w0 at *
    go_wp2_with fail
    go_ret
    exact HP.out _ HB.out
  have t10 : decide (slots ≤ rs) = false := decide_eq_false h10
  by_cases h11 : rc < -1
  · have t11 : decide (rc < -1) = true := decide_eq_true h11
    change Calls Tryd.prog 19 #[.agg (bcells d.1).toArray, _, _, _, .agg r.cells.toArray] w _
    clear H HPN
    go_enter Tryd.func19, Tryd.ntmps19
    go_upto_region 1 with fail
    change Code.wp _ _ _ _ ((w.alloc (bD d)).alloc (bO r))
    generalize (w.alloc (bD d)).alloc (bO r) = w0 at *
    go_wp2_with fail
    go_ret
    exact HP.out _ HB.out
  have t11 : decide (rc < -1) = false := decide_eq_false h11
  by_cases h12 : 1048576 < rc
  · have t12 : decide (1048576 < rc) = true := decide_eq_true h12
    change Calls Tryd.prog 19 #[.agg (bcells d.1).toArray, _, _, _, .agg r.cells.toArray] w _
    clear H HPN
    go_enter Tryd.func19, Tryd.ntmps19
    go_upto_region 1 with fail
    change Code.wp _ _ _ _ ((w.alloc (bD d)).alloc (bO r))
    generalize (w.alloc (bD d)).alloc (bO r) = w0 at *
    go_wp2_with fail
    go_ret
    exact HP.out _ HB.out
  have t12 : decide (1048576 < rc) = false := decide_eq_false h12
  have h13 : 6 < pn := by
    have hq := H.out
    have hp : preV ra tables slots ⟨ra, rf, rs, rc, psl, pp⟩ = true := by
      unfold preV knownB costB
      simp only [Bool.and_eq_true, decide_eq_true_eq]
      exact ⟨⟨⟨⟨⟨⟨⟨⟨by omega, by omega⟩, by omega⟩, by omega⟩, by first | rfl | trivial⟩, ⟨⟨⟨by omega, by omega⟩, by omega⟩, by omega⟩⟩, by omega⟩, by omega⟩, ⟨by omega, by omega⟩⟩
    rw [hp, Bool.true_and, decide_eq_false_iff_not] at hq
    rw [HPN.out]
    show 6 < pp.length
    change ¬ pp.length ≤ 6 at hq
    omega
  have t13 : decide ((6 : Int) < (pn : Int)) = true := decide_eq_true (by omega)
  have t13' : decide (6 < pn) = true := decide_eq_true h13
  clear h0 h1 h2 h3 h4 h5 h6 h7 h8 h9 h10 h11 h12 h13
  change Calls Tryd.prog 19 #[.agg (bcells d.1).toArray, _, _, _, .agg r.cells.toArray] w _
  clear H HPN
  go_enter Tryd.func19, Tryd.ntmps19
  go_upto_region 1 with fail
  change Code.wp _ _ _ _ ((w.alloc (bD d)).alloc (bO r))
  generalize (w.alloc (bD d)).alloc (bO r) = w0 at *
  go_wp2_with fail
  go_ret
  exact HP.out _ HB.out
set_option maxRecDepth 100000 in
set_option maxHeartbeats 4000000 in
theorem rverify_main (d : Dg) (air0 : Int) (T S k : Nat) (p : Opn) (r : Ob) (w : World) (hr : OpR w p r) (hp : preV air0 T S p = true) (hk : p.slot = (k : Int)) (hl : p.path.length ≤ 6) :
    Calls Tryd.prog 19 #[dv d.1, .int .i64 air0, .int .i64 (T : Int), .int .i64 (S : Int), r.v] w (VerPost d air0 T S p w) := by
  have hve : verE d air0 T S p = if (allN d T S p).isEmpty = true then 360 else 0 := by
    unfold verE
    rw [← rver_eq]
    unfold rverB
    rw [hp, decide_eq_true hl, Bool.true_and, Bool.true_and, Int.toNat_natCast, Int.toNat_natCast]
    cases (allN d T S p).isEmpty <;> rfl
  have HP : Hid (∀ (z : Int) w', z = (if (allN d T S p).isEmpty = true then 360 else 0) → Below w.heap.size w w' → VerPost d air0 T S p w (.returned (.int .i64 z)) w') := fun z w' hz hb => ⟨by rw [hve, hz], hb⟩
  have hb0 : Below w.heap.size w ((w.alloc (bD d)).alloc (bO r)) := (b_al (w := w) (bD d)).alloc (b_al (w := w) (bD d)).size _
  have hc0 : CB ((w.alloc (bD d)).alloc (bO r)) (w.heap.size + 1) 36 r.cells := by
    have := cb_one (w.alloc (bD d)) (bO r) 36 r.cells rfl
    rwa [World.size_alloc] at this
  have hd0 : CB ((w.alloc (bD d)).alloc (bO r)) w.heap.size 29 (bcells d.1) := (cb_one w (bD d) _ _ rfl).alloc _
  obtain ⟨p1, p2, p3, p4, p5, p6, p7, p8, p9⟩ := pre_parts hp
  have hI : OpI p := by
    unfold knownB at p6
    unfold costB at p9
    simp only [Bool.and_eq_true, decide_eq_true_eq] at p6 p9
    refine ⟨?_, ?_, ?_, ?_⟩ <;> (unfold I64; omega)
  have HC := Lib.hid (places_any d T S k p r _ (hr.ext hb0) hI (by omega) (by omega) hk (by omega) (by omega))
  have HB := Lib.hid hb0; have HD := Lib.hid hd0; have HO := Lib.hid hc0
  have hd32 := Lib.hid d.2
  obtain ⟨c0, c1, c2, c3, -, c5⟩ := ob_cell hc0
  obtain ⟨po, pn, pc, hpv⟩ : ∃ a b c, r.pv = .slice a b c := ⟨_, _, _, rfl⟩
  have hpn : pn = p.path.length := by
    obtain ⟨_, _, he, _⟩ := hr.path.shape
    rw [hpv] at he
    injection he with _ e2 _
  rw [hpv] at c5
  obtain ⟨e1, e2, e3, e4, -, -⟩ := hr
  rw [e1] at c0; rw [e2] at c1; rw [e3, hk] at c2; rw [e4] at c3
  unfold knownB at p6
  unfold costB at p9
  simp only [Bool.and_eq_true, decide_eq_true_eq] at p6 p9
  obtain ⟨ra, hra⟩ : ∃ x, p.air = x := ⟨_, rfl⟩
  obtain ⟨rf, hrf⟩ : ∃ x, p.fl = x := ⟨_, rfl⟩
  obtain ⟨rc, hrc⟩ : ∃ x, p.cost = x := ⟨_, rfl⟩
  rw [hra] at c0 p5 p6
  rw [hrf] at c1 p6
  rw [hrc] at c3 p9
  subst p5
  have t0 : decide ((T : Int) < 1) = false := decide_eq_false (by omega)
  have t0' : decide (T = 0) = false := decide_eq_false (by omega)
  have t1 : decide (8 < (T : Int)) = false := decide_eq_false (by omega)
  have t1' : decide (8 < T) = false := decide_eq_false (by omega)
  have t2 : decide ((S : Int) < 1) = false := decide_eq_false (by omega)
  have t2' : decide (S = 0) = false := decide_eq_false (by omega)
  have t3 : decide (8 < (S : Int)) = false := decide_eq_false (by omega)
  have t3' : decide (8 < S) = false := decide_eq_false (by omega)
  have t5 : decide (ra < 0) = false := decide_eq_false (by omega)
  have t6 : decide (8 ≤ ra) = false := decide_eq_false (by omega)
  have t7 : decide (rf < 0) = false := decide_eq_false (by omega)
  have t8 : decide (4095 < rf) = false := decide_eq_false (by omega)
  have t9 : decide ((k : Int) < 0) = false := decide_eq_false (by omega)
  have t10 : decide ((S : Int) ≤ (k : Int)) = false := decide_eq_false (by omega)
  have t10' : decide (S ≤ k) = false := decide_eq_false (by omega)
  have t11 : decide (rc < -1) = false := decide_eq_false (by omega)
  have t12 : decide (1048576 < rc) = false := decide_eq_false (by omega)
  have t13 : decide ((6 : Int) < (pn : Int)) = false := decide_eq_false (by omega)
  have t13' : decide (6 < pn) = false := decide_eq_false (by omega)
  clear hve hb0 hc0 hd0 p1 p2 p3 p4 p6 p7 p8 p9 hI hpn hpv e1 e2 e3 e4 hp hk hl hra hrf hrc
  change Calls Tryd.prog 19 #[.agg (bcells d.1).toArray, _, _, _, .agg r.cells.toArray] w _
  go_enter Tryd.func19, Tryd.ntmps19
  go_upto_region 1 with fail
  change Code.wp _ _ _ _ ((w.alloc (bD d)).alloc (bO r))
  generalize (w.alloc (bD d)).alloc (bO r) = w0 at *
  go_upto_region 4 with (first
    | (with_reducible refine wpList_load_d (hgd := rfl) 29 (.tmp 5) rfl w.heap.size d.1 hd32.out rfl 29 _ HD.out Tryd.underlying29 rfl dig_sz ?_)
    | (with_reducible refine wpList_load_ob (hgd := rfl) 36 (.tmp 9) rfl (w.heap.size + 1) r rfl 36 _ HO.out Tryd.underlying36 rfl ob_sz ?_)
    | (go_at_call 20; refine HC.out.mono ?_; go_loud (
        rintro e w2 ⟨v2, rfl, ho2, hb2⟩
        have HB2 := Lib.hid (below_ext HB.out hb2)
        have HL2 := Lib.hid ho2
        obtain ⟨o2, k2, rfl, _⟩ := ho2.rd.shape
        clear hb2 ho2)))
  clear HC HD HO HL2
  obtain ⟨L, hL⟩ : ∃ L, allN d T S p = L := ⟨_, rfl⟩
  have HP2 : Hid (∀ (z : Int) w', z = (if L.isEmpty = true then 360 else 0) → Below w.heap.size w w' → VerPost d ra T S p w (.returned (.int .i64 z)) w') := by rw [← hL]; exact HP.out
  rw [hL]
  clear hL HP
  cases L with
  | nil =>
    go_wp2_with fail
    go_ret
    exact HP2.out 360 _ rfl HB2.out
  | cons x l =>
    have hlen : (intsN (x :: l)).length = l.length + 1 := by unfold intsN; simp
    rw [hlen]
    clear hlen
    have u1 : decide (((l.length + 1 : Nat) : Int) = 0) = false := decide_eq_false (by omega)
    have u2 : decide ((l.length : Int) + 1 = 0) = false := decide_eq_false (by omega)
    go_wp2_with fail
    go_ret
    exact HP2.out 0 _ rfl HB2.out
end Go.Proofs.YtbonebmboolemaaDoor
/- what the laws of commitments lean on: the calls at every input. -/
namespace Go.Proofs.YtbonebmboolemaaDoor
open Go.RowKit
def TruePost (w : World) (e : Ending) (w' : World) : Prop := e = .returned (.bool true) ∧ Below w.heap.size w w'
theorem open_any (l : List Tab) (a s : Int) (v : Value) (w : World) (hl : TabsAt w l v) (hLd : Laid w) :
    Calls Tryd.prog 15 #[v, .int .i64 a, .int .i64 s] w (OpenPost l a s w) := by
  by_cases h : openB l a s = true
  · obtain ⟨i, k, t, c, rfl, rfl, ht, hc, hv, -⟩ := open_parts h
    exact open_any_yes l i k t c v w hl hv ht hc hLd
  · exact open_any_no l a s v w hl h
theorem ropen_any (l : List Tab) (a s : Int) (v : Value) (w : World) (hl : TabsAt w l v) :
    Calls Tryd.prog 16 #[v, .int .i64 a, .int .i64 s] w (OpenPost l a s w) := by
  by_cases h : openB l a s = true
  · obtain ⟨i, k, t, c, rfl, rfl, ht, hc, hv, -⟩ := open_parts h
    exact ropen_any_yes l i k t c v w hl hv ht hc
  · exact ropen_any_no l a s v w hl h
theorem pre_nats {air tables slots : Int} {p : Opn} (h : preV air tables slots p = true) : ∃ T S k : Nat, tables = (T : Int) ∧ slots = (S : Int) ∧ p.slot = (k : Int) := by
  obtain ⟨p1, p2, p3, p4, p5, p6, p7, p8, p9⟩ := pre_parts h
  exact ⟨tables.toNat, slots.toNat, p.slot.toNat, by omega, by omega, by omega⟩
theorem verify_any (d : Dg) (air tables slots : Int) (p : Opn) (r : Ob) (w : World) (hr : OpR w p r) (hl : p.path.length ≤ 64) (hLd : Laid w) :
    Calls Tryd.prog 18 #[dv d.1, .int .i64 air, .int .i64 tables, .int .i64 slots, r.v] w (VerPost d air tables slots p w) := by
  by_cases h : preV air tables slots p = true
  · obtain ⟨T, S, k, rfl, rfl, hk⟩ := pre_nats h
    exact verify_main d air T S k p r w hr h hk hl hLd
  · exact verify_no d air tables slots p r w hr (by simpa using h)
theorem rverify_any (d : Dg) (air tables slots : Int) (p : Opn) (r : Ob) (w : World) (hr : OpR w p r) :
    Calls Tryd.prog 19 #[dv d.1, .int .i64 air, .int .i64 tables, .int .i64 slots, r.v] w (VerPost d air tables slots p w) := by
  by_cases h : (preV air tables slots p && decide (p.path.length ≤ 6)) = true
  · rw [Bool.and_eq_true, decide_eq_true_eq] at h
    obtain ⟨T, S, k, rfl, rfl, hk⟩ := pre_nats h.1
    exact rverify_main d air T S k p r w hr h.1 hk h.2
  · exact rverify_no d air tables slots p r w hr (by simpa using h)
/-- a path that Open gives is short -/
theorem open_len (l : List Tab) (a s : Int) : (openO l a s).path.length ≤ 6 := by
  by_cases h : openB l a s = true
  · obtain ⟨i, k, t, c, rfl, rfl, ht, hc, hv, -⟩ := open_parts h
    have := ver_len (open_ver hv ht hc)
    exact this
  · rw [(open_no h).1]; exact Nat.zero_le _
end Go.Proofs.YtbonebmboolemaaDoor
