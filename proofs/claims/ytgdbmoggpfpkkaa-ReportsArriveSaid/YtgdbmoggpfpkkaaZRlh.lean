/- ReportsArrive: the walk. (Printed by gen22r.py.) -/
import Derived.Test.YtgdbmoggpfpkkaaZRlg
namespace Go.Proofs.Ytgdbmoggpfpkkaa
open Go.RowKit
/-- a collection that holds just what has arrived -/
structure Inv (P : Rp → Prop) (x : List Rp) (m : Nat) : Prop where
  col : colB x = true
  mem : ∀ y, y ∈ x ↔ P y
  len : x.length ≤ m
theorem Inv.nil : Inv (fun _ => False) [] 0 := ⟨by decide +kernel, fun y => by simp, by simp⟩
theorem Inv.le {P : Rp → Prop} {x : List Rp} {m m' : Nat} (h : Inv P x m) (hm : m ≤ m') : Inv P x m' := ⟨h.col, h.mem, by have := h.len; omega⟩
theorem Inv.to {P Q : Rp → Prop} {x : List Rp} {m : Nat} (h : Inv P x m) (hq : ∀ y, P y ↔ Q y) : Inv Q x m := ⟨h.col, fun y => (h.mem y).trans (hq y), h.len⟩
/-- one more that arrives -/
theorem Inv.step {P : Rp → Prop} {x : List Rp} {m : Nat} (r : Rp) (h : Inv P x m) (hm : m ≤ 1000) (hr : repB 4 3 r = true) (hs : ∀ y, P y → y.st = r.st → y.no = r.no → y = r) :
    (addX x r).2 = 0 ∧ Inv (fun y => y = r ∨ P y) (addX x r).1 (m + 1) := by
  have hlen := h.len
  obtain ⟨L, E, hLE⟩ : ∃ L E, addX x r = (L, E) := ⟨_, _, rfl⟩
  cases hh : hitB x r.st r.no (lowN x r.st r.no) with
  | true =>
    obtain ⟨y, hy⟩ := hit_ex hh
    rw [hit_some hy, beq_iff_eq, cmpP_zero] at hh
    have hyr := hs y ((h.mem y).1 (List.mem_of_getElem? hy)) hh.1 hh.2
    subst hyr
    rw [add_own h.col hy]
    exact ⟨rfl, h.col, fun z => ⟨fun hz => .inr ((h.mem z).1 hz), fun hz => by
      rcases hz with rfl | hz
      · exact List.mem_of_getElem? hy
      · exact (h.mem z).2 hz⟩, by show x.length ≤ m + 1; omega⟩
  | false =>
    have hx := addX_6 h.col hr hh (by omega)
    rw [hx] at hLE
    have hok := add_ok hx
    rcases hok with ⟨h1, _⟩ | ⟨_, n, b, hok⟩
    · exact absurd rfl h1
    · rw [hx]
      refine ⟨rfl, hok.colL, fun z => ?_, ?_⟩
      · show z ∈ insL _ _ _ ↔ _
        rw [insL_mem, h.mem z]
      · show (insL _ _ _).length ≤ _
        rw [insL_len r (low_of_col r.st r.no x none (colB_F h.col)).1]; omega
theorem cmpP_irr {s n t m : Int} (h : cmpP s n t m < 0) (h2 : cmpP t m s n < 0) : False := by rw [cmpP_lt] at h h2; omega
/-- in order, and with the same elements: the same -/
theorem col_ext : ∀ (x y : List Rp) (p q : Option (Int × Int)), colF p x = true → colF q y = true → (∀ z, z ∈ x ↔ z ∈ y) → x = y
  | [], [], _, _, _, _, _ => rfl
  | [], b :: t, _, _, _, _, h => by have := (h b).2 (by simp); cases this
  | a :: r, [], _, _, _, _, h => by have := (h a).1 (by simp); cases this
  | a :: r, b :: t, p, q, hx, hy, h => by
    simp only [colF, Bool.and_eq_true] at hx hy
    have ha := col_all r _ _ hx.2
    have hb := col_all t _ _ hy.2
    have hab : a = b := by
      rcases List.mem_cons.1 ((h a).1 (by simp)) with e | e
      · exact e
      · rcases List.mem_cons.1 ((h b).2 (by simp)) with e2 | e2
        · exact e2.symm
        · exact (cmpP_irr (ha b e2) (hb a e)).elim
    subst hab
    have hrt : ∀ z, z ∈ r ↔ z ∈ t := fun z => by
      constructor
      · intro hz
        rcases List.mem_cons.1 ((h z).1 (by simp [hz])) with e | e
        · subst e; exact (cmpP_irr (ha z hz) (ha z hz)).elim
        · exact e
      · intro hz
        rcases List.mem_cons.1 ((h z).2 (by simp [hz])) with e | e
        · subst e; exact (cmpP_irr (hb z hz) (hb z hz)).elim
        · exact e
    rw [col_ext r t _ _ hx.2 hy.2 hrt]
theorem Inv.eq {P : Rp → Prop} {x y : List Rp} {m k : Nat} (h : Inv P x m) (h2 : Inv P y k) : x = y :=
  col_ext x y none none (colB_F h.col) (colB_F h2.col) fun z => (h.mem z).trans (h2.mem z).symm
/-- the law's premise: all valid, and no two with one place differ -/
def okL (l : List Rp) : Prop := (∀ x ∈ l, repB 4 3 x = true) ∧ ∀ x ∈ l, ∀ y ∈ l, x.st = y.st → x.no = y.no → x = y
def okUp (l : List Rp) (i : Nat) : Prop := (∀ k x, k < i → l[k]? = some x → repB 4 3 x = true) ∧ ∀ k j x y, k < i → j < k → l[k]? = some x → l[j]? = some y → x.st = y.st → x.no = y.no → x = y
theorem okUp_zero (l : List Rp) : okUp l 0 := ⟨fun k x h => by omega, fun k j x y h => by omega⟩
theorem okUp_succ {l : List Rp} {i : Nat} {a : Rp} (h : okUp l i) (ha : l[i]? = some a) (hr : repB 4 3 a = true) (hs : ∀ j y, j < i → l[j]? = some y → a.st = y.st → a.no = y.no → a = y) : okUp l (i + 1) := by
  refine ⟨fun k x hk hx => ?_, fun k j x y hk hj hx hy h1 h2 => ?_⟩
  · by_cases e : k = i
    · subst e; rw [ha] at hx; injection hx with hx; subst hx; exact hr
    · exact h.1 k x (by omega) hx
  · by_cases e : k = i
    · subst e; rw [ha] at hx; injection hx with hx; subst hx; exact hs j y hj hy h1 h2
    · exact h.2 k j x y (by omega) hj hx hy h1 h2
theorem okUp_all {l : List Rp} (h : okUp l l.length) : okL l := by
  refine ⟨fun x hx => ?_, fun x hx y hy h1 h2 => ?_⟩
  · obtain ⟨k, hk⟩ := List.getElem?_of_mem hx
    exact h.1 k x (List.getElem?_eq_some_iff.1 hk).1 hk
  · obtain ⟨k, hk⟩ := List.getElem?_of_mem hx
    obtain ⟨j, hj⟩ := List.getElem?_of_mem hy
    rcases Nat.lt_trichotomy k j with hlt | rfl | hlt
    · exact (h.2 j k y x (List.getElem?_eq_some_iff.1 hj).1 hlt hj hk h1.symm h2.symm).symm
    · rw [hk] at hj; injection hj
    · exact h.2 k j x y (List.getElem?_eq_some_iff.1 hk).1 hlt hk hj h1 h2
def Ar1Rel (l : List Rp) (w : World) (vi : Value) (wr : World) : Prop := ∃ i : Nat, i ≤ l.length ∧ vi = .int .i64 i ∧ okUp l i ∧ Below w.heap.size w wr
def Ar2Rel (l : List Rp) (a : Rp) (i : Nat) (w : World) (vj : Value) (wr : World) : Prop := ∃ j : Nat, j ≤ i ∧ vj = .int .i64 j ∧ (∀ k y, k < j → l[k]? = some y → a.st = y.st → a.no = y.no → a = y) ∧ Below w.heap.size w wr
def Ar3Rel (l : List Rp) (w : World) (vx vo vi : Value) (wr : World) : Prop := ∃ (k : Nat) (x : List Rp) (oa : Option Addr) (cap : Nat), k ≤ l.length ∧ vx = .slice oa x.length cap ∧ vo = .bool true ∧ vi = .int .i64 k ∧ RpsAt wr.heap.size wr x (.slice oa x.length cap) ∧ Inv (fun y => y ∈ l.take k) x k ∧ Below w.heap.size w wr
def Ar4Rel (l : List Rp) (N : Nat) (w : World) (vy vo vi : Value) (wr : World) : Prop := ∃ (k : Nat) (y : List Rp) (Q : Rp → Prop) (oa : Option Addr) (cap : Nat), k ≤ N ∧ vy = .slice oa y.length cap ∧ vo = .bool true ∧ vi = .int .i64 k ∧ RpsAt wr.heap.size wr y (.slice oa y.length cap) ∧ (∀ z, Q z → z ∈ l) ∧ Inv Q y k ∧ Below w.heap.size w wr
def Ar5Rel (l : List Rp) (w : World) (vy vo vi : Value) (wr : World) : Prop := ∃ (k : Nat) (y : List Rp) (Q : Rp → Prop) (oa : Option Addr) (cap : Nat), k ≤ l.length ∧ vy = .slice oa y.length cap ∧ vo = .bool true ∧ (∃ i : Int, i = (k : Int) - 1 ∧ vi = .int .i64 i) ∧ RpsAt wr.heap.size wr y (.slice oa y.length cap) ∧ (∀ z, Q z → z ∈ l) ∧ (∀ j z, k ≤ j → l[j]? = some z → Q z) ∧ Inv Q y (100 - k) ∧ Below w.heap.size w wr
set_option maxRecDepth 100000 in
set_option maxHeartbeats 1000000 in
theorem arr1_any (x : List Rp) (v : Value) (r : Rp) (w : World) (hl : RpsAt w.heap.size w x v) (hs : ∀ z ∈ x, z.cl.size ≤ 9223372036854775807) (hr : r.cl.size ≤ 9223372036854775807) (h0 : (addX x r).2 = 0) :
    Calls Try.prog 24 #[v, r.v] w fun e w' => ∃ oa cap, e = .returned (.tuple #[.slice oa (addX x r).1.length cap, .bool true]) ∧ RpsAt w'.heap.size w' (addX x r).1 (.slice oa (addX x r).1.length cap) ∧ Below w.heap.size w w' := by
  have HX := Lib.hid hl
  obtain ⟨oa, cap, rfl, hlm⟩ := hl.shape
  have Hs := Lib.hid hs; have Hr := Lib.hid hr
  obtain ⟨L, hL⟩ : ∃ L, (addX x r).1 = L := ⟨_, rfl⟩
  have HL := Lib.hid hL; have H0 := Lib.hid h0
  rw [hL]
  clear hl hs hr hL h0 hlm
  have hcb0 : Hid (CB (w.alloc (.cells #[.int .i64 r.st, .int .i64 r.no, .int .i64 r.mi, .int .i64 r.ar, .string r.cl, .int .i64 r.vo] 23)) w.heap.size 23 r.cells) := CB.new w _ _
  have hb0 := Lib.hid ((Below.refl w.heap.size w).alloc (Nat.le_refl _) (.cells #[.int .i64 r.st, .int .i64 r.no, .int .i64 r.mi, .int .i64 r.ar, .string r.cl, .int .i64 r.vo] 23))
  change Calls Try.prog 24 #[.slice oa x.length cap, .agg #[.int .i64 r.st, .int .i64 r.no, .int .i64 r.mi, .int .i64 r.ar, .string r.cl, .int .i64 r.vo]] w _
  go_enter Try.func24, Try.ntmps24
  go_upto_region 1 with fail
  generalize w.alloc (.cells #[.int .i64 r.st, .int .i64 r.no, .int .i64 r.mi, .int .i64 r.ar, .string r.cl, .int .i64 r.vo] 23) = w0 at *
  obtain ⟨c0, c1, c2, c3, c4, c5⟩ := RpAt.of_cb hcb0.out
  go_wp2_with fail
  refine (add_any x _ r _ (HX.out.ext hb0.out) Hs.out Hr.out).mono ?_
  intro e w1 hp
  obtain ⟨oa1, cap1, rfl, hv1, hb⟩ := hp.any HL.out H0.out
  have H1 := Lib.hid (below_ext hb0.out hb)
  have HV := Lib.hid hv1
  clear hb hp hv1
  go_wp2_with fail
  go_ret2
  exact ⟨oa1, cap1, rfl, HV.out, H1.out⟩
set_option maxRecDepth 100000 in
set_option maxHeartbeats 4000000 in
theorem arrive22_walk (l : List Rp) (v : Value) (ord : List UInt8) (u : Value) (w : World) (hl : RpsAt w.heap.size w l v) (hz : ∀ x ∈ l, x.cl.size ≤ maxLen) (ho : BtsAt w.heap.size w ord u) : Calls Try.prog 6 #[v, u] w (BoolPost true w) := by
  have HL := Lib.hid hl
  have hcap : ∃ oa cap, v = .slice oa l.length cap ∧ l.length ≤ cap ∧ l.length ≤ 9223372036854775807 := by
    rcases hl with ⟨rfl, oa, cap, rfl⟩ | ⟨b, off, cap, rfl, h2, h3, _⟩
    · exact ⟨oa, cap, rfl, by simp, by simp⟩
    · exact ⟨_, cap, rfl, h2, by unfold maxLen at h3; omega⟩
  obtain ⟨oa, cap, rfl, hlc, hlm⟩ := hcap
  have HO := Lib.hid ho
  obtain ⟨ob, cap2, rfl, hbc, hbm⟩ := ho.form
  have bo : (ord.length : Int) ≤ 9223372036854775807 := by unfold maxLen at hbm; omega
  have bl : (l.length : Int) ≤ 9223372036854775807 := by omega
  have Hz : Hid (∀ x ∈ l, x.cl.size ≤ 9223372036854775807) := fun x hx => by have := hz x hx; unfold maxLen at this; omega
  have Hlc := Lib.hid hlc
  clear hl hlm hz ho hbc hbm hlc
  obtain ⟨sl, hsl⟩ : ∃ t, shortB l = t := ⟨_, rfl⟩
  have Hsl := Lib.hid hsl; clear hsl
  go_enter Try.func6, Try.ntmps6
  go_wp2_with fail
  refine (sane22_any _).mono ?_
  rintro e w1 ⟨rfl, hb⟩
  have H1 := Lib.hid hb
  clear hb
  go_wp2_with fail
  refine (short_any l _ _ (HL.out.ext H1.out)).mono ?_
  rw [Hsl.out]
  rintro e w2 ⟨rfl, hb⟩
  have H2 := Lib.hid (below_ext H1.out hb)
  clear hb H1
  cases sl
  case false =>
    go_wp2_with fail
    go_ret
    exact ⟨rfl, H2.out⟩
  case true =>
  by_cases h40 : 40 < ord.length
  · have t3 : decide ((40 : Int) < (ord.length : Int)) = true := by simp; omega
    go_wp2_with fail
    go_ret
    exact ⟨rfl, H2.out⟩
  have t3 : decide ((40 : Int) < (ord.length : Int)) = false := by simp; omega
  have Ho40 : Hid (ord.length ≤ 40) := by show _ ≤ _; omega
  have hl40 : l.length ≤ 40 := by have := Hsl.out; unfold shortB at this; simp only [Bool.and_eq_true, decide_eq_true_eq] at this; exact this.2
  have Hl40 := Lib.hid hl40
  have bl40 : (l.length : Int) ≤ 40 := by omega
  clear h40 hl40
  go_wp2_with fail
  clear t3
  go_loopw [30] (fun vi wr => Ar1Rel l w2 vi wr) (fun vi _ => l.length - (intOf vi).toNat)
  case atStart => exact ⟨0, Nat.zero_le _, rfl, okUp_zero l, Below.refl _ _⟩
  case round =>
    obtain ⟨i, hil, rfl, hup, hbw⟩ := hrel
    have Hup := Lib.hid hup; have HBw := Lib.hid hbw
    clear hup hbw
    by_cases hlt : i < l.length
    · have tj : decide ((i : Int) < (l.length : Int)) = true := by simp; omega
      have tj' : (i : Int) < (l.length : Int) := by omega
      have tic : i ≤ cap := by have := Hlc.out; omega
      have tic' : (i : Int) ≤ (cap : Int) := by omega
      obtain ⟨a, ha⟩ : ∃ a, l[i]? = some a := ⟨_, List.getElem?_eq_getElem hlt⟩
      obtain ⟨b', off, rfl, hat⟩ := (HL.out.ext (below_ext H2.out HBw.out)).at hlt
      obtain ⟨c0, c1, c2, c3, c4, c5⟩ := hat i a ha
      have Ha := Lib.hid ha
      have Hsa : Hid (a.cl.size ≤ 9223372036854775807) := Hz.out a (List.mem_of_getElem? ha)
      have hbz := (Below.refl wr.heap.size wr).alloc (Nat.le_refl _) (.cells #[.int .i64 a.st, .int .i64 a.no, .int .i64 a.mi, .int .i64 a.ar, .string a.cl, .int .i64 a.vo] 23)
      have HAB : Hid (CB (wr.alloc (.cells #[.int .i64 a.st, .int .i64 a.no, .int .i64 a.mi, .int .i64 a.ar, .string a.cl, .int .i64 a.vo] 23)) wr.heap.size 23 a.cells) := CB.new wr _ _
      have HB1 := Lib.hid (below_ext HBw.out hbz)
      have HR1 : Hid (RpsAt (wr.alloc (.cells #[.int .i64 a.st, .int .i64 a.no, .int .i64 a.mi, .int .i64 a.ar, .string a.cl, .int .i64 a.vo] 23)).heap.size (wr.alloc (.cells #[.int .i64 a.st, .int .i64 a.no, .int .i64 a.mi, .int .i64 a.ar, .string a.cl, .int .i64 a.vo] 23)) l (.slice (some ⟨b', off, none⟩) l.length cap)) := HL.out.ext (below_ext H2.out HB1.out)
      clear hat ha hbz
      go_upto_region 8 with fail
      clear c0 c1 c2 c3 c4 c5
      generalize wr.alloc (.cells #[.int .i64 a.st, .int .i64 a.no, .int .i64 a.mi, .int .i64 a.ar, .string a.cl, .int .i64 a.vo] 23) = w3 at *
      obtain ⟨c0, c1, c2, c3, c4, c5⟩ := RpAt.of_cb HAB.out
      obtain ⟨rb, hrb⟩ : ∃ c, repB 4 3 a = c := ⟨_, rfl⟩
      have Hrb := Lib.hid hrb; clear hrb
      go_wp2_with fail
      cases rb
      · refine (chk_no 4 3 a _ three Hsa.out Hrb.out).mono ?_
        rintro e w4 ⟨rfl, hb⟩
        have H4 := Lib.hid (below_ext (below_ext H2.out HB1.out) hb)
        go_wp2_with fail
        go_ret
        exact ⟨rfl, H4.out⟩
      · refine (chk_ok 4 3 a _ three Hsa.out Hrb.out).mono ?_
        rintro e w4 ⟨rfl, hb⟩
        have H4 := Lib.hid (below_ext HB1.out hb)
        have HA4 := Lib.hid (HAB.out.ext hb)
        have HR4 := Lib.hid (HR1.out.ext hb)
        clear hb c0 c1 c2 c3 c4 c5 HAB HR1 HB1
        go_wp2_with fail
        clear HBw
        generalize hwq : wr = wq at *
        clear hwq
        go_loopw [42] (fun vj wr => Ar2Rel l a i w4 vj wr) (fun vj _ => i - (intOf vj).toNat)
        case atStart => exact ⟨0, Nat.zero_le _, rfl, fun k y h => by omega, Below.refl _ _⟩
        case round =>
          obtain ⟨j, hji, rfl, hno, hbq⟩ := hrel
          have Hno := Lib.hid hno; have HBq := Lib.hid hbq
          clear hno hbq
          by_cases hlj : j < i
          · have tj1 : decide ((j : Int) < (i : Int)) = true := by simp; omega
            have tj2 : (j : Int) < (i : Int) := by omega
            have tj3 : (i : Int) ≤ 40 := by omega
            obtain ⟨c, hc⟩ : ∃ c, l[j]? = some c := ⟨_, List.getElem?_eq_getElem (by omega)⟩
            have hcat := (HR4.out.ext HBq.out).at (k := j) (by omega)
            obtain ⟨b2, off2, he2, hat2⟩ := hcat
            injection he2 with he2
            injection he2 with he2a he2b
            subst he2a he2b
            obtain ⟨c0, c1, c2, c3, c4, c5⟩ := hat2 j c hc
            have Hc := Lib.hid hc
            have hbz := (Below.refl wr.heap.size wr).alloc (Nat.le_refl _) (.cells #[.int .i64 c.st, .int .i64 c.no, .int .i64 c.mi, .int .i64 c.ar, .string c.cl, .int .i64 c.vo] 23)
            have HCB : Hid (CB (wr.alloc (.cells #[.int .i64 c.st, .int .i64 c.no, .int .i64 c.mi, .int .i64 c.ar, .string c.cl, .int .i64 c.vo] 23)) wr.heap.size 23 c.cells) := CB.new wr _ _
            have HAB := Lib.hid ((HA4.out.ext HBq.out).ext hbz)
            have HB5 := Lib.hid (below_ext HBq.out hbz)
            clear hat2 hc hbz
            go_upto_region 13 with fail
            clear c0 c1 c2 c3 c4 c5
            generalize wr.alloc (.cells #[.int .i64 c.st, .int .i64 c.no, .int .i64 c.mi, .int .i64 c.ar, .string c.cl, .int .i64 c.vo] 23) = w5 at *
            obtain ⟨a0, a1, a2, a3, a4, a5⟩ := RpAt.of_cb HAB.out
            obtain ⟨c0, c1, c2, c3, c4, c5⟩ := RpAt.of_cb HCB.out
            obtain ⟨t1, h1⟩ : ∃ t, (a.st == c.st) = t := ⟨_, rfl⟩
            obtain ⟨t2, h2⟩ : ∃ t, (a.no == c.no) = t := ⟨_, rfl⟩
            obtain ⟨q, hq⟩ : ∃ t, rpEq a c = t := ⟨_, rfl⟩
            have heq : ∀ w : World, (Op.equalIn 10000 23 (.agg #[.int .i64 a.st, .int .i64 a.no, .int .i64 a.mi, .int .i64 a.ar, .string a.cl, .int .i64 a.vo]) (.agg #[.int .i64 c.st, .int .i64 c.no, .int .i64 c.mi, .int .i64 c.ar, .string c.cl, .int .i64 c.vo])).run Try.prog w = .ok q w := fun w => by rw [← hq]; exact eq_rp a c w
            have H1 := Lib.hid h1; have H2' := Lib.hid h2; have Hq := Lib.hid hq
            clear hq
            have hnext : Hid ((t1 && t2 && !q) = false → ∀ k y, k < j + 1 → l[k]? = some y → a.st = y.st → a.no = y.no → a = y) := by
              show _ → _
              intro hf k y hk hy e1 e2
              by_cases hkj : k = j
              · subst hkj
                rw [Hc.out] at hy; injection hy with hy; subst hy
                have g1 := H1.out; have g2 := H2'.out
                rw [e1, beq_self_eq_true] at g1
                rw [e2, beq_self_eq_true] at g2
                rw [← g1, ← g2] at hf
                have g3 : q = true := by simpa using hf
                exact (rpEq_iff a c).1 (Hq.out.trans g3)
              · exact Hno.out k y (by omega) hy e1 e2
            cases t1
            · go_wp2_with fail
              go_roundw
              case rel => exact ⟨j + 1, by omega, by go_num, hnext.out rfl, HB5.out⟩
              case measure => simp [intOf]; omega
            · cases t2
              · go_wp2_with fail
                go_roundw
                case rel => exact ⟨j + 1, by omega, by go_num, hnext.out rfl, HB5.out⟩
                case measure => simp [intOf]; omega
              · cases q
                · go_wp2_with fail
                  go_ret
                  exact ⟨rfl, below_ext (below_ext H2.out H4.out) HB5.out⟩
                · go_wp2_with fail
                  go_roundw
                  case rel => exact ⟨j + 1, by omega, by go_num, hnext.out rfl, HB5.out⟩
                  case measure => simp [intOf]; omega
          · obtain rfl : j = i := by omega
            have tj1 : decide ((j : Int) < (j : Int)) = false := by simp
            have HN := Lib.hid (okUp_succ Hup.out Ha.out Hrb.out Hno.out)
            have HB5 := Lib.hid (below_ext H4.out HBq.out)
            go_wp2_with fail
            go_roundw
            case rel => exact ⟨j + 1, by omega, by go_num, HN.out, HB5.out⟩
            case measure => simp [intOf]; omega
    · obtain rfl : i = l.length := by omega
      have tj : decide ((l.length : Int) < (l.length : Int)) = false := by simp
      have HOK := Lib.hid (okUp_all Hup.out)
      have H3 := Lib.hid (below_ext H2.out HBw.out)
      clear Hup HBw H2
      go_wp2_with fail
      generalize hw3 : wr = w3 at *
      clear hw3
      go_loopw [10, 12, 67] (fun vx vo vi wr => Ar3Rel l w3 vx vo vi wr) (fun _ _ vi _ => l.length - (intOf vi).toNat)
      case atStart => exact ⟨0, [], none, 0, Nat.zero_le _, rfl, rfl, rfl, rps_nil _ _ _ _, Inv.nil.to (fun y => by simp), Below.refl _ _⟩
      case round =>
        obtain ⟨k, x, ox, cx, hkl, rfl, rfl, rfl, hrx, hinv, hbw⟩ := hrel
        have HX := Lib.hid hrx; have HI := Lib.hid hinv; have HBw := Lib.hid hbw
        clear hrx hinv hbw
        have hxl : x.length ≤ 40 := by have := HI.out.len; have := Hl40.out; omega
        have bx : (x.length : Int) ≤ 40 := by omega
        by_cases hlt : k < l.length
        · have tk : decide ((k : Int) < (l.length : Int)) = true := by simp; omega
          have tk' : (k : Int) < (l.length : Int) := by omega
          obtain ⟨a, ha⟩ : ∃ a, l[k]? = some a := ⟨_, List.getElem?_eq_getElem hlt⟩
          have hma := List.mem_of_getElem? ha
          obtain ⟨b', off, rfl, hat⟩ := (HL.out.ext (below_ext H3.out HBw.out)).at hlt
          obtain ⟨c0, c1, c2, c3, c4, c5⟩ := hat k a ha
          have hst := HI.out.step a (by omega) (HOK.out.1 a hma) (fun y hy h1 h2 => HOK.out.2 y (List.mem_of_mem_take hy) a hma h1 h2)
          have Hst0 := Lib.hid hst.1
          have hst1 : Inv (fun y => y ∈ l.take (k + 1)) (addX x a).1 (k + 1) := hst.2.to fun y => by
            rw [List.take_add_one, ha]; simp [or_comm]
          have Hst1 := Lib.hid hst1
          have HzX : Hid (∀ z ∈ x, z.cl.size ≤ 9223372036854775807) := fun z hz => Hz.out z (List.mem_of_mem_take ((HI.out.mem z).1 hz))
          have Hsa : Hid (a.cl.size ≤ 9223372036854775807) := Hz.out a hma
          have hbz := (Below.refl wr.heap.size wr).alloc (Nat.le_refl _) (.cells #[.int .i64 a.st, .int .i64 a.no, .int .i64 a.mi, .int .i64 a.ar, .string a.cl, .int .i64 a.vo] 23)
          have HAB : Hid (CB (wr.alloc (.cells #[.int .i64 a.st, .int .i64 a.no, .int .i64 a.mi, .int .i64 a.ar, .string a.cl, .int .i64 a.vo] 23)) wr.heap.size 23 a.cells) := CB.new wr _ _
          have HX1 := Lib.hid (HX.out.ext hbz)
          have HB1 := Lib.hid (below_ext HBw.out hbz)
          clear hat ha hma hst hst1 hbz
          go_upto_region 23 with fail
          clear c0 c1 c2 c3 c4 c5
          generalize wr.alloc (.cells #[.int .i64 a.st, .int .i64 a.no, .int .i64 a.mi, .int .i64 a.ar, .string a.cl, .int .i64 a.vo] 23) = w4 at *
          obtain ⟨c0, c1, c2, c3, c4, c5⟩ := RpAt.of_cb HAB.out
          obtain ⟨L, hLL⟩ : ∃ L, (addX x a).1 = L := ⟨_, rfl⟩
          have HLL := Lib.hid hLL
          rw [hLL] at Hst1
          have hLlen : L.length ≤ 41 := by have := Hst1.out.len; have := Hl40.out; omega
          clear hLL
          go_wp2_with fail
          refine (arr1_any x _ a _ HX1.out HzX.out Hsa.out Hst0.out).mono ?_
          rw [HLL.out]
          rintro e w5 ⟨o5, cp5, rfl, hv5, hb⟩
          have HB5 := Lib.hid (below_ext HB1.out hb)
          have HV5 := Lib.hid hv5
          clear hb hv5 c0 c1 c2 c3 c4 c5
          go_wp2_with fail
          go_roundw
          case rel => exact ⟨k + 1, L, o5, cp5, by omega, rfl, rfl, by go_num, HV5.out, Hst1.out, HB5.out⟩
          case measure => simp [intOf]; omega
        · obtain rfl : k = l.length := by omega
          have tk : decide ((l.length : Int) < (l.length : Int)) = false := by simp
          have HIX := Lib.hid (HI.out.to (Q := fun y => y ∈ l) (fun y => by rw [List.take_of_length_le (Nat.le_refl _)]))
          have H4 := Lib.hid (below_ext H3.out HBw.out)
          have HX4 := Lib.hid HX.out
          clear HI HBw H3 HX
          go_wp2_with fail
          generalize hw4 : wr = w4 at *
          clear hw4
          go_loopw [11, 12, 83] (fun vy vo vi wr => Ar4Rel l ord.length w4 vy vo vi wr) (fun _ _ vi _ => ord.length - (intOf vi).toNat)
          case atStart => exact ⟨0, [], fun _ => False, none, 0, Nat.zero_le _, rfl, rfl, rfl, rps_nil _ _ _ _, fun z h => h.elim, Inv.nil, Below.refl _ _⟩
          case round =>
            obtain ⟨k, y, Q, oy, cy, hkl, rfl, rfl, rfl, hry, hQ, hinv, hbw⟩ := hrel
            have HY := Lib.hid hry; have HI := Lib.hid hinv; have HBw := Lib.hid hbw; have HQ := Lib.hid hQ
            clear hry hinv hbw hQ
            have hyl : y.length ≤ 40 := by have := HI.out.len; have := Ho40.out; omega
            have byl : (y.length : Int) ≤ 40 := by omega
            have bk : (k : Int) ≤ 40 := by have := Ho40.out; omega
            by_cases hlt : k < ord.length
            · have tk : decide ((k : Int) < (ord.length : Int)) = true := by simp; omega
              have tk' : (k : Int) < (ord.length : Int) := by omega
              obtain ⟨c, hc⟩ : ∃ c, ord[k]? = some c := ⟨_, List.getElem?_eq_getElem hlt⟩
              have hob := HO.out.ext (below_ext H4.out HBw.out)
              obtain ⟨gb, go, ho1, ho2⟩ : ∃ gb go, ob = some ⟨gb, go, none⟩ ∧ wr.cell? ⟨gb, go + k, none⟩ = some (.int .u8 (c.toNat : Int)) := by
                rcases hob with ⟨h, _⟩ | ⟨_, b, off, cp, he, _, _, _, h5⟩
                · rw [h] at hlt; simp at hlt
                · injection he with he _ _
                  exact ⟨b, off, he, h5 k c hc⟩
              subst ho1
              have hcn : c.toNat < 256 := c.toNat_lt
              have ba1 : (0 : Int) ≤ (c.toNat : Int) := by omega
              have ba2 : (c.toNat : Int) ≤ 255 := by omega
              have ea : IntKind.i64.wrap (c.toNat : Int) = (c.toNat : Int) := IntWalk.i64_in _ (by omega)
              by_cases hl0 : l.length = 0
              · have tl : decide ((0 : Int) < (l.length : Int)) = false := decide_eq_false (by omega)
                have HI2 := Lib.hid (HI.out.le (Nat.le_succ k))
                go_wp2_with fail
                go_roundw
                case rel => exact ⟨k + 1, y, Q, oy, cy, by omega, rfl, rfl, by go_num, HY.out, HQ.out, HI2.out, HBw.out⟩
                case measure => simp [intOf]; omega
              · have tl : decide ((0 : Int) < (l.length : Int)) = true := decide_eq_true (by omega)
                obtain ⟨i, hi1, hi2⟩ : ∃ i : Nat, (c.toNat : Int).tmod (l.length : Int) = (i : Int) ∧ i < l.length := by
                  refine ⟨((c.toNat : Int).tmod (l.length : Int)).toNat, ?_, ?_⟩
                  · rw [Int.toNat_of_nonneg (Int.tmod_nonneg _ ba1)]
                  · have := Int.tmod_lt_of_pos (c.toNat : Int) (show (0 : Int) < (l.length : Int) by omega)
                    have h3 := Int.tmod_nonneg (l.length : Int) ba1
                    omega
                have hne : ¬ ((l.length : Int) = 0) := by omega
                have bi : (i : Int) < (l.length : Int) := by omega
                have ei : IntKind.i64.wrap (i : Int) = (i : Int) := IntWalk.i64_in _ (by omega)
                obtain ⟨a, ha⟩ : ∃ a, l[i]? = some a := ⟨_, List.getElem?_eq_getElem hi2⟩
                have hma := List.mem_of_getElem? ha
                obtain ⟨b', off, rfl, hat⟩ := (HL.out.ext (below_ext H4.out HBw.out)).at hi2
                obtain ⟨c0, c1, c2, c3, c4, c5⟩ := hat i a ha
                have hst := HI.out.step a (by omega) (HOK.out.1 a hma) (fun z hz h1 h2 => HOK.out.2 z (HQ.out z hz) a hma h1 h2)
                have Hst0 := Lib.hid hst.1
                have Hst1 := Lib.hid hst.2
                have HQ2 : Hid (∀ z, (z = a ∨ Q z) → z ∈ l) := fun z hz => by
                  rcases hz with rfl | hz
                  · exact hma
                  · exact HQ.out z hz
                have HzY : Hid (∀ z ∈ y, z.cl.size ≤ 9223372036854775807) := fun z hz => Hz.out z (HQ.out z ((HI.out.mem z).1 hz))
                have Hsa : Hid (a.cl.size ≤ 9223372036854775807) := Hz.out a hma
                obtain ⟨L, hLL⟩ : ∃ L, (addX y a).1 = L := ⟨_, rfl⟩
                have HLL := Lib.hid hLL
                rw [hLL] at Hst1
                have hLlen : L.length ≤ 41 := by have := Hst1.out.len; have := Ho40.out; omega
                clear hat ha hma hst hLL hl0
                go_wp2_with fail
                refine (arr1_any y _ a _ HY.out HzY.out Hsa.out Hst0.out).mono ?_
                rw [HLL.out]
                rintro e w5 ⟨o5, cp5, rfl, hv5, hb⟩
                have HB5 := Lib.hid (below_ext HBw.out hb)
                have HV5 := Lib.hid hv5
                clear hb hv5 c0 c1 c2 c3 c4 c5
                go_wp2_with fail
                go_roundw
                case rel => exact ⟨k + 1, L, _, o5, cp5, by omega, rfl, rfl, by go_num, HV5.out, HQ2.out, Hst1.out, HB5.out⟩
                case measure => simp [intOf]; omega
            · obtain rfl : k = ord.length := by omega
              have tk : decide ((ord.length : Int) < (ord.length : Int)) = false := by simp
              have HI2 := Lib.hid (HI.out.le (show ord.length ≤ 100 - l.length by have := Ho40.out; have := Hl40.out; omega))
              have e0 : IntKind.i64.wrap ((l.length : Int) - 1) = (l.length : Int) - 1 := IntWalk.i64_in _ (by omega)
              have H5 := Lib.hid (below_ext H4.out HBw.out)
              have HX5 := Lib.hid (HX4.out.ext HBw.out)
              clear HI HBw H4 HX4
              go_wp2_with fail
              generalize hw5 : wr = w5 at *
              clear hw5
              go_loopw [11, 12, 17] (fun vy vo vi wr => Ar5Rel l w5 vy vo vi wr) (fun _ _ vi _ => (intOf vi + 1).toNat)
              case atStart => exact ⟨l.length, y, Q, oy, cy, Nat.le_refl _, rfl, rfl, ⟨_, rfl, by first | rfl | go_num⟩, HY.out, HQ.out, fun j z h hj => by have := (List.getElem?_eq_some_iff.1 hj).1; omega, HI2.out, Below.refl _ _⟩
              case round =>
                clear HQ HY HI2
                obtain ⟨k, y, Q, oy, cy, hkl, rfl, rfl, ⟨ii, hii, rfl⟩, hry, hQ, hdone, hinv, hbw⟩ := hrel
                have HY := Lib.hid hry; have HI := Lib.hid hinv; have HBw := Lib.hid hbw; have HQ := Lib.hid hQ; have HDn := Lib.hid hdone
                clear hry hinv hbw hQ hdone
                have hyl : y.length ≤ 100 := by have := HI.out.len; omega
                have byl : (y.length : Int) ≤ 100 := by omega
                cases k with
                | succ j =>
                  have hij : ii = (j : Int) := by omega
                  subst hij
                  have hjl : j < l.length := by omega
                  have tj : decide ((0 : Int) ≤ (j : Int)) = true := by simp
                  have tj2 : (j : Int) < (l.length : Int) := by omega
                  have tj3 : decide ((j : Int) < (l.length : Int)) = true := by simp; omega
                  have ej : IntKind.i64.wrap ((j : Int) - 1) = (j : Int) - 1 := IntWalk.i64_in _ (by omega)
                  obtain ⟨a, ha⟩ : ∃ a, l[j]? = some a := ⟨_, List.getElem?_eq_getElem hjl⟩
                  have hma := List.mem_of_getElem? ha
                  obtain ⟨b', off, rfl, hat⟩ := (HL.out.ext (below_ext H5.out HBw.out)).at hjl
                  obtain ⟨c0, c1, c2, c3, c4, c5⟩ := hat j a ha
                  have hst := HI.out.step a (by omega) (HOK.out.1 a hma) (fun z hz h1 h2 => HOK.out.2 z (HQ.out z hz) a hma h1 h2)
                  have Hst0 := Lib.hid hst.1
                  have Hst1 := Lib.hid (hst.2.le (show 100 - (j + 1) + 1 ≤ 100 - j by omega))
                  have HQ2 : Hid (∀ z, (z = a ∨ Q z) → z ∈ l) := fun z hz => by
                    rcases hz with rfl | hz
                    · exact hma
                    · exact HQ.out z hz
                  have HD2 : Hid (∀ q z, j ≤ q → l[q]? = some z → (z = a ∨ Q z)) := fun q z hq hz => by
                    by_cases e : q = j
                    · subst e; rw [ha] at hz; injection hz with hz; exact .inl hz.symm
                    · exact .inr (HDn.out q z (by omega) hz)
                  have HzY : Hid (∀ z ∈ y, z.cl.size ≤ 9223372036854775807) := fun z hz => Hz.out z (HQ.out z ((HI.out.mem z).1 hz))
                  have Hsa : Hid (a.cl.size ≤ 9223372036854775807) := Hz.out a hma
                  obtain ⟨L, hLL⟩ : ∃ L, (addX y a).1 = L := ⟨_, rfl⟩
                  have HLL := Lib.hid hLL
                  rw [hLL] at Hst1
                  have hLlen : L.length ≤ 100 := by have := Hst1.out.len; omega
                  clear hat ha hma hst hLL hii
                  go_wp2_with fail
                  refine (arr1_any y _ a _ HY.out HzY.out Hsa.out Hst0.out).mono ?_
                  rw [HLL.out]
                  rintro e w6 ⟨o6, cp6, rfl, hv6, hb⟩
                  have HB6 := Lib.hid (below_ext HBw.out hb)
                  have HV6 := Lib.hid hv6
                  clear hb hv6 c0 c1 c2 c3 c4 c5
                  go_wp2_with fail
                  go_roundw
                  case rel => exact ⟨j, L, _, o6, cp6, by omega, rfl, rfl, ⟨_, rfl, by first | rfl | go_num⟩, HV6.out, HQ2.out, HD2.out, Hst1.out, HB6.out⟩
                  case measure => simp [intOf] <;> omega
                | zero =>
                  have hij : ii = -1 := by omega
                  subst hij
                  have hxy : y = x := by
                    refine Inv.eq (HI.out.to (Q := fun z => z ∈ l) fun z => ⟨HQ.out z, fun hz => ?_⟩) HIX.out
                    obtain ⟨q, hq⟩ := List.getElem?_of_mem hz
                    exact HDn.out q z (Nat.zero_le _) hq
                  subst hxy
                  have Hsm := Lib.hid ((sameB_iff y y).2 rfl)
                  have HX6 := Lib.hid (HX5.out.ext HBw.out)
                  have H6 := Lib.hid (below_ext H5.out HBw.out)
                  have tj : decide ((0 : Int) ≤ -1) = false := by decide
                  clear hii
                  go_wp2_with fail
                  refine (rsame22_any y y _ _ _ HX6.out HY.out).mono ?_
                  rw [Hsm.out]
                  rintro e w7 ⟨rfl, hb⟩
                  have H7 := Lib.hid (below_ext H6.out hb)
                  go_wp2_with fail
                  go_ret
                  exact ⟨rfl, H7.out⟩
end Go.Proofs.Ytgdbmoggpfpkkaa
