/- Parts of the proofs of chapter 49's laws: Jce Jcu Jcw Jcy Jcz Jcs Jds. -/
import Derived.Test.YtdblnbnofjggnaaGreatDoorK35
import Derived.Test.YtdblnbnofjggnaaGreatDoorK24
import Derived.Test.YtdblnbnofjggnaaGreatDoorK37
import Derived.Test.YtdblnbnofjggnaaGreatDoorK11
namespace Go.Proofs.YtdblnbnofjggnaaGreatDoor
open Go.RowKit
theorem fm_lV (l : List V) : fm (lV l) = fms l := by unfold lV; simp [fm, ByteArray.toList_eq]
theorem dp_lV (l : List V) : dp (lV l) = dps l + 1 := by unfold lV; simp [dp]
theorem fm_tV (s : ByteArray) : fm (tV s) = true := by unfold tV; simp [fm]
theorem dp_tV (s : ByteArray) : dp (tV s) = 0 := by unfold tV; simp [dp]
theorem fm_iV (n : Int) : fm (iV n) = true := by unfold iV; simp [fm, ByteArray.toList_eq]
theorem dp_iV (n : Int) : dp (iV n) = 0 := by unfold iV; simp [dp]
theorem fm_bV (b : Bool) : fm (bV b) = true := fm_iV _
theorem dp_bV (b : Bool) : dp (bV b) = 0 := dp_iV _
theorem fm_nsV (l : List Int) : fm (nsV l) = true := by unfold nsV; rw [fm_lV]; exact (iv_fm l).1
theorem dp_nsV (l : List Int) : dp (nsV l) = 1 := by unfold nsV; rw [dp_lV, (iv_fm l).2]
theorem fm_spV (a b : Int) : fm (spV a b) = true := fm_nsV [a, b]
theorem dp_spV (a b : Int) : dp (spV a b) = 1 := dp_nsV [a, b]
theorem fm_cutV (c : Cut) : fm (cutV c) = true := by unfold cutV; rw [fm_lV]; simp [fms, fm_bV, fm_iV, fm_spV]
theorem dp_cutV (c : Cut) : dp (cutV c) = 2 := by unfold cutV; rw [dp_lV]; simp [dps, dp_bV, dp_iV, dp_spV]
theorem cuts_fm : ∀ l : List Cut, fms (l.map cutV) = true ∧ dps (l.map cutV) ≤ 2
 | [] => by simp [fms, dps]
 | c :: r => by
  obtain ⟨h1, h2⟩ := cuts_fm r
  simp only [List.map_cons, fms, dps, fm_cutV, dp_cutV, h1]
  exact ⟨rfl, by omega⟩
theorem nod_fm (n : Nod) : fm (nodV n) = true ∧ dp (nodV n) ≤ 4 := by
 obtain ⟨h1, h2⟩ := cuts_fm n.cuts
 unfold nodV
 rw [fm_lV, dp_lV]
 simp only [fms, dps, fm_iV, dp_iV, fm_lV, dp_lV, h1]
 exact ⟨rfl, by omega⟩
theorem nods_fm : ∀ l : List Nod, fms (l.map nodV) = true ∧ dps (l.map nodV) ≤ 4
 | [] => by simp [fms, dps]
 | n :: r => by
  obtain ⟨h1, h2⟩ := nods_fm r
  obtain ⟨h3, h4⟩ := nod_fm n
  simp only [List.map_cons, fms, dps, h3, h1]
  exact ⟨rfl, by omega⟩
theorem cont_fm (x : Inp) : fms (contL x) = true ∧ dps (contL x) ≤ 5 := by
 obtain ⟨h1, h2⟩ := nods_fm x.tree
 unfold contL fltL repLV
 simp only [fms, dps, fm_iV, dp_iV, fm_lV, dp_lV, fm_tV, dp_tV, fm_bV, dp_bV, fm_nsV, dp_nsV, fm_spV, dp_spV, h1]
 exact ⟨rfl, by omega⟩
theorem cont_ck (x : Inp) : ck (lV (contL x)) = 0 := by
 obtain ⟨h1, h2⟩ := cont_fm x
 exact ok_ck (by rw [fm_lV]; exact h1) (by rw [dp_lV]; omega)
theorem full_ck (x : Inp) : ck (lV (fullL x)) = 0 := by
 obtain ⟨h1, h2⟩ := cont_fm x
 refine ok_ck ?_ ?_
 · rw [fm_lV]; unfold fullL; rw [fms_append, h1, fm_lV]; simp [fms, fm_iV]
 · rw [dp_lV]; unfold fullL; rw [dps_append, dp_lV]; simp only [dps, dp_iV]; omega
theorem szs_append : ∀ (a b : List V), szs (a ++ b) = szs a + szs b
 | [], b => by simp [szs]
 | x :: r, b => by simp only [List.cons_append, szs, szs_append r b]; omega
theorem sz_lV (l : List V) : sz (lV l) = 24 + szs l := by
 unfold lV
 simp only [sz, show (⟨#[]⟩ : ByteArray).size = 0 from rfl]
theorem cont_sz (x : Inp) : sz (lV (contL x)) ≤ sz (lV (fullL x)) := by
 rw [sz_lV, sz_lV]; unfold fullL; rw [szs_append]; omega
def tagI : List UInt8 := (⟨#[105, 110, 112, 117, 116]⟩ : ByteArray).data.toList
def bytesI (x : Inp) : List UInt8 := enc (lV (contL x))
def encI (x : Inp) : List UInt8 := enc (lV (fullL x))
theorem bytesI_len (x : Inp) (h : sz (lV (fullL x)) ≤ 60000) : (bytesI x).length ≤ 60000 := by
 have h1 := enc_sz (lV (contL x))
 have := cont_sz x
 unfold bytesI
 omega
end Go.Proofs.YtdblnbnofjggnaaGreatDoor
namespace Go.Proofs.YtdblnbnofjggnaaGreatDoor
open Go.RowKit
def badI : List PanicEntry := [{ v := .iface 44 (.int .i64 490), recovered := false }]
def CurAt (B : Nat) (w : World) (c : Nat) (l : List V) : Prop := B ≤ c ∧ ∃ lv, CB w c 144 [lv] ∧ SlVD (fun j => j < B) w l lv
theorem CurAt.keep {B c : Nat} {w w' : World} {l : List V} {row : Option Nat} (h : CurAt B w c l) (hg : w.grownBy w' row) (hB : B ≤ w.heap.size) (hr : ∀ q, row = some q → q ≠ c ∧ B ≤ q) : CurAt B w' c l := by
 obtain ⟨h1, lv, h2, h3⟩ := h
 exact ⟨h1, lv, h2.keep (hg.block _ h2.lt (fun e => (hr c e.symm).1 rfl)), h3.keep (fun _ h => h) (fun k hk => hg.block k (Nat.lt_of_lt_of_le hk hB) (fun e => by have := (hr k e.symm).2; omega))⟩
def OpnP (B : Nat) (x : V) (w : World) (e : Ending) (w' : World) : Prop :=
 if x.kind = 3 then ∃ g, e = .returned (.pointer (some ⟨g, 0, none⟩)) ∧ w.heap.size ≤ g ∧ CurAt B w' g x.l ∧ Below w.heap.size w w' else e = .panicked badI ∧ Below w.heap.size w w'
theorem OpnP.bad {B : Nat} {x : V} {w w' : World} (h : ¬ x.kind = 3) (hb : Below w.heap.size w w') : OpnP B x w (.panicked badI) w' := by unfold OpnP; rw [if_neg h]; exact ⟨rfl, hb⟩
theorem OpnP.good {B g : Nat} {x : V} {w w' : World} (h : x.kind = 3) (h1 : w.heap.size ≤ g) (h2 : CurAt B w' g x.l) (hb : Below w.heap.size w w') : OpnP B x w (.returned (.pointer (some ⟨g, 0, none⟩))) w' := by unfold OpnP; rw [if_pos h]; exact ⟨g, rfl, h1, h2, hb⟩
def v4o (x : V) (lv : Value) : Obj := .cells [.int .i64 x.kind, .int .i64 x.n, .string x.s, lv].toArray 80
set_option maxRecDepth 100000 in
set_option maxHeartbeats 4000000 in
theorem open_any (B : Nat) (x : V) (v : Value) (w : World) (hv : RdVD (fun j => j < B) w x v) (hB : B ≤ w.heap.size) : Calls Tryz.prog 57 #[v] w (OpnP B x w) := by
 obtain ⟨-, -, -, lv, rfl, hs⟩ := hv
 obtain ⟨oa, cap, rfl⟩ := slvd_form hs
 obtain ⟨k, n, st, l⟩ := x
 have HS := Lib.hid hs; have HBs := Lib.hid hB
 have Hb := Lib.hid (b_al (w := w) (v4o (.mk k n st l) (.slice oa l.length cap)))
 have hc := cb_one w (v4o (.mk k n st l) (.slice oa l.length cap)) 80 _ rfl
 have c0 : _ = some (Value.int .i64 k) := hc.cell 0
 have c3 : _ = some (Value.slice oa l.length cap) := hc.cell 3
 clear hs hB hc
 by_cases hk : k = 3
 · subst hk
   go_enter Tryz.func57, Tryz.ntmps57
   go_upto_region 1 with fail
   change Code.wp _ _ _ _ (w.alloc (v4o (.mk 3 n st l) (.slice oa l.length cap)))
   generalize w.alloc (v4o (.mk 3 n st l) (.slice oa l.length cap)) = w0 at *
   go_wp2_with fail
   go_ret
   have hz := b_al (w := w0) (.cells [Value.slice oa l.length cap].toArray 144)
   exact OpnP.good (g := w0.heap.size) rfl Hb.out.size ⟨Nat.le_trans HBs.out Hb.out.size, _, cb_one w0 _ _ _ rfl, HS.out.keep (fun _ h => h) (fun j hj => (Below.heap_alloc w0 _ j (Nat.lt_of_lt_of_le (Nat.lt_of_lt_of_le hj HBs.out) Hb.out.size)).trans (Hb.out.block j (Nat.lt_of_lt_of_le hj HBs.out)))⟩ (below_ext Hb.out hz)
 · have u1 : decide (k = 3) = false := decide_eq_false hk
   have u2 : (k == 3) = false := beq_false_of_ne hk
   have Hk := Lib.hid hk
   clear hk
   go_enter Tryz.func57, Tryz.ntmps57
   go_upto_region 1 with fail
   change Code.wp _ _ _ _ (w.alloc (v4o (.mk k n st l) (.slice oa l.length cap)))
   generalize w.alloc (v4o (.mk k n st l) (.slice oa l.length cap)) = w0 at *
   go_wp2_with fail
   have hk3 : ¬ (V.mk k n st l).kind = 3 := Hk.out
   exact ⟨rfl, OpnP.bad hk3 Hb.out⟩
end Go.Proofs.YtdblnbnofjggnaaGreatDoor
namespace Go.Proofs.YtdblnbnofjggnaaGreatDoor
open Go.RowKit
def NxtP (B c : Nat) (k : Int) (l : List V) (w : World) (e : Ending) (w' : World) : Prop :=
 match nxt k l with
 | some (x, r) => ∃ v, e = .returned v ∧ RdVD (fun j => j < B) w' x v ∧ CurAt B w' c r ∧ w.grownBy w' (some c)
 | none => e = .panicked badI ∧ w.grownBy w' (some c)
set_option maxRecDepth 100000 in
set_option maxHeartbeats 4000000 in
theorem next_any (B c : Nat) (k : Int) (l : List V) (w : World) (hc : CurAt B w c l) : Calls Tryz.prog 119 #[.pointer (some ⟨c, 0, none⟩), .int .i64 k] w (NxtP B c k l w) := by
 obtain ⟨hBc, lv, hcb, hs⟩ := hc
 have hcw := hcb.lt
 have HB := Lib.hid hBc; have Hcw := Lib.hid hcw
 have Hg : Hid (w.grownBy (w.alloc Z4) (some c)) := World.grownBy_alloc w _ _
 have hc0 := hcb.alloc Z4
 have HC := Lib.hid hc0
 have H4 : Hid (CB (w.alloc Z4) w.heap.size 80 Z4c) := cb_one w Z4 _ _ rfl
 rcases hs with ⟨rfl, oa, cap, rfl⟩ | ⟨hne, b, o, cap, rfl, ⟨hl1, hl2⟩, hat⟩
 · have c0 : _ = some (Value.slice oa 0 cap) := hc0.cell 0
   clear hBc hcb hcw hc0
   go_enter Tryz.func119, Tryz.ntmps119
   go_upto_region 1 with fail
   change Code.wp _ _ _ _ (w.alloc Z4)
   generalize w.alloc Z4 = w0 at *
   go_wp2_with fail
   exact ⟨rfl, rfl, Hg.out⟩
 · cases l with
   | nil => exact absurd rfl hne
   | cons x r =>
   obtain ⟨hx, hr⟩ := (show V.atD (fun j => j < B) w x b o ∧ V.atsD (fun j => j < B) w r b (o + 4) from hat)
   obtain ⟨lx, hd0, hd1, hd2, hd3, hbB, hi1, hi2, hi3, hsx⟩ : ∃ lx, w.cell? ⟨b, o, none⟩ = some (.int .i64 x.kind) ∧ w.cell? ⟨b, o + 1, none⟩ = some (.int .i64 x.n) ∧ w.cell? ⟨b, o + 2, none⟩ = some (.string x.s) ∧ w.cell? ⟨b, o + 3, none⟩ = some lx ∧ b < B ∧ I64 x.kind ∧ I64 x.n ∧ x.s.size ≤ maxLen ∧ SlVD (fun j => j < B) w x.l lx := by
    obtain ⟨k', n', s', l'⟩ := x
    obtain ⟨h0, h1, h2, h3, h4, h5, h6, lx, h7, h8⟩ := hx
    exact ⟨lx, h4, h5, h6, h7, h0, h1, h2, h3, h8⟩
   obtain ⟨ox, cx, rfl⟩ := slvd_form hsx
   have hbw : b < w.heap.size := by omega
   have Hx : Hid (∀ W : World, (∀ j, j < B → W.heap[j]? = w.heap[j]?) → RdVD (fun j => j < B) W x (.agg #[.int .i64 x.kind, .int .i64 x.n, .string x.s, .slice ox x.l.length cx])) := fun W hW => ⟨hi1, hi2, hi3, _, rfl, SlVD.keep hsx (fun _ h => h) (fun j hj => hW j hj)⟩
   have Hr : Hid (∀ W : World, (∀ j, j < B → W.heap[j]? = w.heap[j]?) → SlVD (fun j => j < B) W r (.slice (if cap = 1 then some ⟨b, o, none⟩ else some ⟨b, o + 4, none⟩) r.length (cap - 1))) := fun W hW => by
    by_cases hrn : r = []
    · subst hrn; exact .inl ⟨rfl, _, _, rfl⟩
    · have hcap : ¬ cap = 1 := by
       have : r.length ≠ 0 := fun e => hrn (List.length_eq_zero_iff.1 e)
       simp at hl2; omega
      rw [if_neg hcap]
      simp at hl1 hl2
      exact .inr ⟨hrn, b, o + 4, cap - 1, rfl, ⟨by omega, by omega⟩, V.atsD_keep (fun _ h => h) (fun j hj => hW j hj) r b (o + 4) hr⟩
   have hs0 : ∀ p : Nat, (w.alloc Z4).cell? ⟨b, p, none⟩ = w.cell? ⟨b, p, none⟩ := fun p => World.cell?_of_block (w := w) (Below.heap_alloc w Z4 b hbw)
   have d0 := (hs0 _).trans hd0
   obtain ⟨nn, hnn⟩ : ∃ nn, r.length + 1 = nn := ⟨_, rfl⟩
   have Hnn := Lib.hid hnn
   have c0 : (w.alloc Z4).cell? ⟨c, 0, none⟩ = some (Value.slice (some ⟨b, o, none⟩) nn cap) := by rw [← hnn]; exact hc0.cell 0
   have l1 : (nn : Int) ≤ 9223372036854775807 := by simp at hl1; unfold maxLen at hl1; omega
   have z0 : ((nn : Int) == 0) = false := beq_false_of_ne (by omega)
   have z0' : (nn == 0) = false := beq_false_of_ne (by omega)
   have z1 : decide ((nn : Int) = 0) = false := decide_eq_false (by omega)
   have z1' : decide (nn = 0) = false := decide_eq_false (by omega)
   have z3 : ¬ nn = 0 := by omega
   have z4 : 0 < nn := by omega
   have z2 : (0 : Int) < (nn : Int) := by omega
   have HC' : Hid (CB (w.alloc Z4) c 144 [.slice (some ⟨b, o, none⟩) nn cap]) := Lib.hid (by rw [← hnn]; exact hc0)
   clear HC hnn
   have hBcap : Hid (r.length + 1 ≤ cap) := Lib.hid (by simpa using hl2)
   have HD : Hid ((w.alloc Z4).rangeAt b o [.int .i64 x.kind, .int .i64 x.n, .string x.s, .slice ox x.l.length cx]) := fun j u hu => by
    match j, hu with
    | 0, hu => simp at hu; subst hu; rw [Nat.add_zero]; exact d0
    | 1, hu => simp at hu; subst hu; exact (hs0 _).trans hd1
    | 2, hu => simp at hu; subst hu; exact (hs0 _).trans hd2
    | 3, hu => simp at hu; subst hu; exact (hs0 _).trans hd3
   by_cases hk : x.kind = k
   case neg =>
    have u1 : decide (x.kind = k) = false := decide_eq_false hk
    have u2 : (x.kind == k) = false := beq_false_of_ne hk
    have Hk := Lib.hid hk
    clear hk hd0 hd1 hd2 hd3 hat hx hr hs0 hcb hc0 hl1 hl2 hne
    go_enter Tryz.func119, Tryz.ntmps119
    go_upto_region 1 with fail
    change Code.wp _ _ _ _ (w.alloc Z4)
    generalize w.alloc Z4 = w0 at *
    go_wp2_with fail
    have hn : nxt k (x :: r) = none := by show (if x.kind = k then some (x, r) else none) = none; rw [if_neg Hk.out]
    exact ⟨rfl, by unfold NxtP; rw [hn]; exact ⟨rfl, Hg.out⟩⟩
   case pos =>
    have u1 : decide (x.kind = k) = true := decide_eq_true hk
    have u2 : (x.kind == k) = true := by rw [hk]; exact beq_self_eq_true k
    have Hk := Lib.hid hk
    have hcapP : 1 ≤ cap := by simp at hl2; omega
    clear hd0 hd1 hd2 hd3 hat hx hr hs0 hcb hc0 hl1 hl2 hne
    go_enter Tryz.func119, Tryz.ntmps119
    go_upto_region 1 with fail
    change Code.wp _ _ _ _ (w.alloc Z4)
    have HZ : Hid ((w.alloc Z4).heap.size = w.heap.size + 1) := World.size_alloc _ _
    have HW0 : Hid (∀ j, j < w.heap.size → (w.alloc Z4).heap[j]? = w.heap[j]?) := fun j hj => Below.heap_alloc w Z4 j hj
    generalize w.alloc Z4 = w0 at *
    go_upto_region 3 with fail
    have H5z : Hid (CB (w0.alloc Z4) w0.heap.size 80 Z4c) := cb_one w0 Z4 _ _ rfl
    have HDo := Lib.hid (v4_one x.kind x.n x.s (.slice ox x.l.length cx) rfl)
    clear d0 u1 u2 z0 z1 z0' z1' hk
    go_upto_region 4 with (first
     | (have _g := HD.out; refine wpList_load_mg (by rfl) 80 (.tmp 28) rfl b o rfl [.int .i64 x.kind, .int .i64 x.n, .string x.s, .slice ox x.l.length cx] _ HD.out Tryz.underlying80 rfl (by kernel_rfl) ?_; clear HD)
     | (have _g := HDo.out; refine wpList_store_cs rfl 80 (.tmp 5) (.tmp 29) rfl w0.heap.size [.int .i64 x.kind, .int .i64 x.n, .string x.s, .slice ox x.l.length cx] rfl rfl 80 Z4c H5z.out rfl (by kernel_rfl) HDo.out (fun w3 H5 HW3 HZ3 => ?_); clear _g))
    have HC3 := Lib.hid ((HC'.out.alloc Z4).keep (HW3.out.block _ (HC'.out.alloc Z4).lt (fun e => by injection e with e; have := HZ.out; have := Hcw.out; omega)))
    have H43 := Lib.hid ((H4.out.alloc Z4).keep (HW3.out.block _ (H4.out.alloc Z4).lt (fun e => by injection e with e; have := HZ.out; omega)))
    have Hg3 := Lib.hid (grown_trans (grown_trans Hg.out (World.grownBy_alloc w0 Z4 (some c)) (.inl rfl)) HW3.out (.inr fun q e => by injection e with e; have := HZ.out; omega))
    have HW3' : Hid (∀ j, j < w.heap.size → w3.heap[j]? = w.heap[j]?) := fun j hj => (HW3.out.block j (by rw [World.size_alloc]; have := HZ.out; omega) (fun e => by injection e with e; have := HZ.out; omega)).trans ((Below.heap_alloc w0 Z4 j (by have := HZ.out; omega)).trans (HW0.out j hj))
    clear HW3 HZ3 H5z H4 HC' Hg c0
    have c1 : w3.cell? ⟨c, 0, none⟩ = some (Value.slice (some ⟨b, o, none⟩) nn cap) := HC3.out.cell 0
    have cf : w3.frozen? ⟨c, 0, none⟩ = false := HC3.out.frozen 0
    by_cases hcap : cap = 1
    · subst hcap
      go_upto_region 5 with fail
      have H54 := Lib.hid (H5.out.far (p := ⟨c, 0, none⟩) (by show w0.heap.size ≠ c; have := HZ.out; have := Hcw.out; omega) (.slice (some ⟨b, o, none⟩) (nn - 1) 0))
      have H44 := Lib.hid (H43.out.far (p := ⟨c, 0, none⟩) (by show w.heap.size ≠ c; have := Hcw.out; omega) (.slice (some ⟨b, o, none⟩) (nn - 1) 0))
      have HC4 : Hid (CB (w3.setCell ⟨c, 0, none⟩ (.slice (some ⟨b, o, none⟩) (nn - 1) 0)) c 144 [.slice (some ⟨b, o, none⟩) (nn - 1) 0]) := HC3.out.set 0 _
      have Hg4 := Lib.hid (grown_trans Hg3.out (grown_setT w3 c 0 (.slice (some ⟨b, o, none⟩) (nn - 1) 0)) (.inl rfl))
      have HW4 : Hid (∀ j, j < B → (w3.setCell ⟨c, 0, none⟩ (.slice (some ⟨b, o, none⟩) (nn - 1) 0)).heap[j]? = w.heap[j]?) := fun j hj => (Below.heap_setCell w3 ⟨c, 0, none⟩ _ j (by show j ≠ c; have := HB.out; omega)).trans (HW3'.out j (by have := HB.out; have := Hcw.out; omega))
      have hv : (.slice (some ⟨b, o, none⟩) (nn - 1) 0 : Value) = .slice (if 1 = 1 then some ⟨b, o, none⟩ else some ⟨b, o + 4, none⟩) r.length 0 := by rw [if_pos rfl, show nn - 1 = r.length from by have := Hnn.out; omega]
      have Hv := Lib.hid hv
      clear H5 H43 HC3 Hg3 HW3' c1 cf hv
      generalize w3.setCell ⟨c, 0, none⟩ (.slice (some ⟨b, o, none⟩) (nn - 1) 0) = w4 at *
      have HSo := Lib.hid (v4_one x.kind x.n x.s (.slice ox x.l.length cx) rfl)
      go_wp2_with (first
       | (have _g := H54.out; refine wpList_load_cs (by rfl) 80 (.tmp 5) rfl w0.heap.size [.int .i64 x.kind, .int .i64 x.n, .string x.s, .slice ox x.l.length cx] rfl 80 _ H54.out Tryz.underlying80 rfl (by kernel_rfl) ?_; clear _g)
       | (have _g := HSo.out; refine wpList_store_cs rfl 80 (.tmp 4) (.tmp 38) rfl w.heap.size [.int .i64 x.kind, .int .i64 x.n, .string x.s, .slice ox x.l.length cx] rfl rfl 80 Z4c H44.out rfl (by kernel_rfl) HSo.out (fun w6 HC6 HW6 HZ6 => ?_); clear _g))
      refine bodyPost_ret (v := .agg ([.int .i64 x.kind, .int .i64 x.n, .string x.s, .slice ox x.l.length cx] : List Value).toArray) (results_cell_row rfl _ _ w.heap.size 80 _ (0, 0) _ rfl HC6.out Tryz.underlying80 rfl (by kernel_rfl)) rfl ?_
      have hn : nxt k (x :: r) = some (x, r) := by show (if x.kind = k then some (x, r) else none) = some (x, r); rw [if_pos Hk.out]
      have hW6 : ∀ j, j < B → w6.heap[j]? = w.heap[j]? := fun j hj => (HW6.out.block j (by have := Hg4.out.size; have := HB.out; have := Hcw.out; omega) (fun e => by injection e with e; have := HB.out; have := Hcw.out; omega)).trans (HW4.out j hj)
      unfold NxtP
      rw [hn]
      exact ⟨_, rfl, Hx.out w6 hW6, ⟨HB.out, _, HC4.out.keep (HW6.out.block _ HC4.out.lt (fun e => by injection e with e; have := Hcw.out; omega)), by rw [Hv.out]; exact Hr.out w6 hW6⟩, grown_trans Hg4.out HW6.out (.inr fun q e => by injection e with e; omega)⟩
    · go_upto_region 5 with fail
      have H54 := Lib.hid (H5.out.far (p := ⟨c, 0, none⟩) (by show w0.heap.size ≠ c; have := HZ.out; have := Hcw.out; omega) (.slice (some ⟨b, o + 4, none⟩) (nn - 1) (cap - 1)))
      have H44 := Lib.hid (H43.out.far (p := ⟨c, 0, none⟩) (by show w.heap.size ≠ c; have := Hcw.out; omega) (.slice (some ⟨b, o + 4, none⟩) (nn - 1) (cap - 1)))
      have HC4 : Hid (CB (w3.setCell ⟨c, 0, none⟩ (.slice (some ⟨b, o + 4, none⟩) (nn - 1) (cap - 1))) c 144 [.slice (some ⟨b, o + 4, none⟩) (nn - 1) (cap - 1)]) := HC3.out.set 0 _
      have Hg4 := Lib.hid (grown_trans Hg3.out (grown_setT w3 c 0 (.slice (some ⟨b, o + 4, none⟩) (nn - 1) (cap - 1))) (.inl rfl))
      have HW4 : Hid (∀ j, j < B → (w3.setCell ⟨c, 0, none⟩ (.slice (some ⟨b, o + 4, none⟩) (nn - 1) (cap - 1))).heap[j]? = w.heap[j]?) := fun j hj => (Below.heap_setCell w3 ⟨c, 0, none⟩ _ j (by show j ≠ c; have := HB.out; omega)).trans (HW3'.out j (by have := HB.out; have := Hcw.out; omega))
      have hv : (.slice (some ⟨b, o + 4, none⟩) (nn - 1) (cap - 1) : Value) = .slice (if cap = 1 then some ⟨b, o, none⟩ else some ⟨b, o + 4, none⟩) r.length (cap - 1) := by rw [if_neg hcap, show nn - 1 = r.length from by have := Hnn.out; omega]
      have Hv := Lib.hid hv
      clear H5 H43 HC3 Hg3 HW3' c1 cf hv
      generalize w3.setCell ⟨c, 0, none⟩ (.slice (some ⟨b, o + 4, none⟩) (nn - 1) (cap - 1)) = w4 at *
      have HSo := Lib.hid (v4_one x.kind x.n x.s (.slice ox x.l.length cx) rfl)
      go_wp2_with (first
       | (have _g := H54.out; refine wpList_load_cs (by rfl) 80 (.tmp 5) rfl w0.heap.size [.int .i64 x.kind, .int .i64 x.n, .string x.s, .slice ox x.l.length cx] rfl 80 _ H54.out Tryz.underlying80 rfl (by kernel_rfl) ?_; clear _g)
       | (have _g := HSo.out; refine wpList_store_cs rfl 80 (.tmp 4) (.tmp 38) rfl w.heap.size [.int .i64 x.kind, .int .i64 x.n, .string x.s, .slice ox x.l.length cx] rfl rfl 80 Z4c H44.out rfl (by kernel_rfl) HSo.out (fun w6 HC6 HW6 HZ6 => ?_); clear _g))
      refine bodyPost_ret (v := .agg ([.int .i64 x.kind, .int .i64 x.n, .string x.s, .slice ox x.l.length cx] : List Value).toArray) (results_cell_row rfl _ _ w.heap.size 80 _ (0, 0) _ rfl HC6.out Tryz.underlying80 rfl (by kernel_rfl)) rfl ?_
      have hn : nxt k (x :: r) = some (x, r) := by show (if x.kind = k then some (x, r) else none) = some (x, r); rw [if_pos Hk.out]
      have hW6 : ∀ j, j < B → w6.heap[j]? = w.heap[j]? := fun j hj => (HW6.out.block j (by have := Hg4.out.size; have := HB.out; have := Hcw.out; omega) (fun e => by injection e with e; have := HB.out; have := Hcw.out; omega)).trans (HW4.out j hj)
      unfold NxtP
      rw [hn]
      exact ⟨_, rfl, Hx.out w6 hW6, ⟨HB.out, _, HC4.out.keep (HW6.out.block _ HC4.out.lt (fun e => by injection e with e; have := Hcw.out; omega)), by rw [Hv.out]; exact Hr.out w6 hW6⟩, grown_trans Hg4.out HW6.out (.inr fun q e => by injection e with e; omega)⟩
end Go.Proofs.YtdblnbnofjggnaaGreatDoor
namespace Go.Proofs.YtdblnbnofjggnaaGreatDoor
open Go.RowKit
def RdP {α : Type} (B c : Nat) (w : World) (o : Option (α × List V)) (f : α → Value) (e : Ending) (w' : World) : Prop :=
 match o with
 | some (a, r) => e = .returned (f a) ∧ CurAt B w' c r ∧ w.grownBy w' (some c)
 | none => e = .panicked badI ∧ w.grownBy w' (some c)
theorem nxt_kind {k : Int} {l : List V} {x : V} {r : List V} (h : nxt k l = some (x, r)) : x.kind = k := by
 cases l with
 | nil => cases h
 | cons y s =>
  have h : (if y.kind = k then some (y, s) else none) = some (x, r) := h
  by_cases hk : y.kind = k
  · rw [if_pos hk] at h; injection h with h; injection h with h1 h2; rw [← h1]; exact hk
  · rw [if_neg hk] at h; cases h
theorem next_some {B c : Nat} {k : Int} {l : List V} {x : V} {r : List V} {w : World} (hc : CurAt B w c l) (h : nxt k l = some (x, r)) : Calls Tryz.prog 119 #[.pointer (some ⟨c, 0, none⟩), .int .i64 k] w fun e w' => ∃ oa cap, e = .returned (.agg #[.int .i64 x.kind, .int .i64 x.n, .string x.s, .slice oa x.l.length cap]) ∧ RdVD (fun j => j < B) w' x (.agg #[.int .i64 x.kind, .int .i64 x.n, .string x.s, .slice oa x.l.length cap]) ∧ CurAt B w' c r ∧ w.grownBy w' (some c) := by
 refine (next_any B c k l w hc).mono ?_
 unfold NxtP
 rw [h]
 rintro e w' ⟨v, rfl, hv, h1, h2⟩
 obtain ⟨a1, a2, a3, lv, rfl, hs⟩ := hv
 obtain ⟨oa, cap, rfl⟩ := slvd_form hs
 exact ⟨oa, cap, rfl, ⟨a1, a2, a3, _, rfl, hs⟩, h1, h2⟩
theorem next_none {B c : Nat} {k : Int} {l : List V} {w : World} (hc : CurAt B w c l) (h : nxt k l = none) : Calls Tryz.prog 119 #[.pointer (some ⟨c, 0, none⟩), .int .i64 k] w fun e w' => e = .panicked badI ∧ w.grownBy w' (some c) := by
 refine (next_any B c k l w hc).mono ?_
 unfold NxtP
 rw [h]
 exact fun e w' h => h
set_option maxRecDepth 100000 in
set_option maxHeartbeats 4000000 in
theorem number49_any (B c : Nat) (l : List V) (w : World) (hc : CurAt B w c l) : Calls Tryz.prog 59 #[.pointer (some ⟨c, 0, none⟩)] w (RdP B c w (numR l) (fun n => .int .i64 n)) := by
 have HC := Lib.hid hc
 clear hc
 cases hN : nxt 1 l with
 | none =>
  have hs : numR l = none := by unfold numR; rw [hN]; rfl
  rw [hs]
  have HN := Lib.hid hN
  clear hN hs
  go_enter Tryz.func59, Tryz.ntmps59
  go_wp2_with (go_at_call 119; refine (next_none HC.out HN.out).mono ?_; go_loud (rintro e w3 ⟨rfl, hg⟩))
  exact ⟨rfl, rfl, hg⟩
 | some p =>
  obtain ⟨x, r⟩ := p
  have hs : numR l = some (x.n, r) := by unfold numR; rw [hN]; rfl
  rw [hs]
  have HN := Lib.hid hN
  clear hN hs
  go_enter Tryz.func59, Tryz.ntmps59
  have hf : ∀ (a b : Int) (t : ByteArray) (u : Value) (W : World), (Instr.field 80 (.agg #[.int .i64 a, .int .i64 b, .string t, u]) 1).run Tryz.prog W = .ok (.int .i64 b) W := fun a b t u W => by kernel_rfl
  go_wp2_with (go_at_call 119; refine (next_some HC.out HN.out).mono ?_; go_loud (rintro e w3 ⟨oa, cap, rfl, hv, h1, hg⟩; have H1 := Lib.hid h1; have Hg := Lib.hid hg; clear hv h1 hg))
  go_ret
  exact ⟨rfl, H1.out, Hg.out⟩
set_option maxRecDepth 100000 in
set_option maxHeartbeats 4000000 in
theorem text49_any (B c : Nat) (l : List V) (w : World) (hc : CurAt B w c l) : Calls Tryz.prog 60 #[.pointer (some ⟨c, 0, none⟩)] w (RdP B c w (txtR l) (fun s => .string s)) := by
 have HC := Lib.hid hc
 clear hc
 cases hN : nxt 2 l with
 | none =>
  have hs : txtR l = none := by unfold txtR; rw [hN]; rfl
  rw [hs]
  have HN := Lib.hid hN
  clear hN hs
  go_enter Tryz.func60, Tryz.ntmps60
  go_wp2_with (go_at_call 119; refine (next_none HC.out HN.out).mono ?_; go_loud (rintro e w3 ⟨rfl, hg⟩))
  exact ⟨rfl, rfl, hg⟩
 | some p =>
  obtain ⟨x, r⟩ := p
  have hs : txtR l = some (x.s, r) := by unfold txtR; rw [hN]; rfl
  rw [hs]
  have HN := Lib.hid hN
  clear hN hs
  go_enter Tryz.func60, Tryz.ntmps60
  have hf : ∀ (a b : Int) (t : ByteArray) (u : Value) (W : World), (Instr.field 80 (.agg #[.int .i64 a, .int .i64 b, .string t, u]) 2).run Tryz.prog W = .ok (.string t) W := fun a b t u W => by kernel_rfl
  go_wp2_with (go_at_call 119; refine (next_some HC.out HN.out).mono ?_; go_loud (rintro e w3 ⟨oa, cap, rfl, hv, h1, hg⟩; have H1 := Lib.hid h1; have Hg := Lib.hid hg; clear hv h1 hg))
  go_ret
  exact ⟨rfl, H1.out, Hg.out⟩
end Go.Proofs.YtdblnbnofjggnaaGreatDoor
namespace Go.Proofs.YtdblnbnofjggnaaGreatDoor
open Go.RowKit
set_option maxRecDepth 100000 in
set_option maxHeartbeats 4000000 in
theorem flag49_any (B c : Nat) (l : List V) (w : World) (hc : CurAt B w c l) : Calls Tryz.prog 63 #[.pointer (some ⟨c, 0, none⟩)] w (RdP B c w (flgR l) (fun b => .bool b)) := by
 have HN := Lib.hid (number49_any B c l w hc)
 clear hc
 cases hN : numR l with
 | none =>
  have hs : flgR l = none := by unfold flgR; rw [hN]; rfl
  rw [hs]
  rw [hN] at HN
  clear hN hs
  go_enter Tryz.func63, Tryz.ntmps63
  go_wp2_with (go_at_call 59; refine HN.out.mono ?_; go_loud (rintro e w3 ⟨rfl, hg⟩))
  exact ⟨rfl, rfl, hg⟩
 | some p =>
  obtain ⟨n, r⟩ := p
  have hs : flgR l = some (decide (n = 1), r) := by unfold flgR; rw [hN]; rfl
  rw [hs]
  rw [hN] at HN
  clear hN hs
  by_cases h1 : n = 1
  · subst h1
    go_enter Tryz.func63, Tryz.ntmps63
    go_wp2_with (go_at_call 59; refine HN.out.mono ?_; go_loud (rintro e w3 ⟨rfl, h1, hg⟩; have H1 := Lib.hid h1; have Hg := Lib.hid hg; clear h1 hg))
    go_ret
    exact ⟨rfl, H1.out, Hg.out⟩
  · have u1 : decide (n = 1) = false := decide_eq_false h1
    have u2 : (n == 1) = false := beq_false_of_ne h1
    rw [u1]
    go_enter Tryz.func63, Tryz.ntmps63
    go_wp2_with (go_at_call 59; refine HN.out.mono ?_; go_loud (rintro e w3 ⟨rfl, h1, hg⟩; have H1 := Lib.hid h1; have Hg := Lib.hid hg; clear h1 hg))
    go_ret
    exact ⟨by first | rfl | simp [u2], H1.out, Hg.out⟩
def LstP (B c : Nat) (w : World) (o : Option (List V × List V)) (e : Ending) (w' : World) : Prop :=
 match o with
 | some (l, r) => ∃ g, e = .returned (.pointer (some ⟨g, 0, none⟩)) ∧ w.heap.size ≤ g ∧ CurAt B w' g l ∧ CurAt B w' c r ∧ w.grownBy w' (some c)
 | none => e = .panicked badI ∧ w.grownBy w' (some c)
set_option maxRecDepth 100000 in
set_option maxHeartbeats 4000000 in
theorem list49_any (B c : Nat) (l : List V) (w : World) (hc : CurAt B w c l) (hB : B ≤ w.heap.size) : Calls Tryz.prog 58 #[.pointer (some ⟨c, 0, none⟩)] w (LstP B c w (lstR l)) := by
 have HC := Lib.hid hc; have HB := Lib.hid hB
 clear hc hB
 cases hN : nxt 3 l with
 | none =>
  have hs : lstR l = none := by unfold lstR; rw [hN]; rfl
  rw [hs]
  have HN := Lib.hid hN
  clear hN hs
  go_enter Tryz.func58, Tryz.ntmps58
  go_wp2_with (go_at_call 119; refine (next_none HC.out HN.out).mono ?_; go_loud (rintro e w3 ⟨rfl, hg⟩))
  exact ⟨rfl, rfl, hg⟩
 | some p =>
  obtain ⟨x, r⟩ := p
  have hs : lstR l = some (x.l, r) := by unfold lstR; rw [hN]; rfl
  rw [hs]
  have HN := Lib.hid hN; have HK := Lib.hid (nxt_kind hN)
  clear hN hs
  go_enter Tryz.func58, Tryz.ntmps58
  go_wp2_with (first
   | (go_at_call 119; refine (next_some HC.out HN.out).mono ?_; go_loud (rintro e w3 ⟨oa, cap, rfl, hv, h1, hg⟩; have H1 := Lib.hid h1; have Hg := Lib.hid hg; have Hv := Lib.hid hv; clear hv h1 hg))
   | (go_at_call 57; refine (open_any B x _ _ Hv.out (Nat.le_trans HB.out Hg.out.size)).mono ?_; go_loud (intro e w4 ho; unfold OpnP at ho; rw [if_pos HK.out] at ho; obtain ⟨g, rfl, hg1, hg2, hg3⟩ := ho; have HG1 := Lib.hid (Nat.le_trans Hg.out.size hg1); have HG2 := Lib.hid hg2; have HG3 := Lib.hid hg3; clear hg1 hg2 hg3)))
  go_ret
  exact ⟨g, rfl, HG1.out, HG2.out, H1.out.keep (below_none HG3.out) (Nat.le_trans HB.out Hg.out.size) (fun q e => by cases e), grown_trans Hg.out (below_none HG3.out) (.inr fun q e => by cases e)⟩
end Go.Proofs.YtdblnbnofjggnaaGreatDoor
namespace Go.Proofs.YtdblnbnofjggnaaGreatDoor
open Go.RowKit
theorem num_some {B c : Nat} {l r : List V} {n : Int} {w : World} (hc : CurAt B w c l) (h : numR l = some (n, r)) : Calls Tryz.prog 59 #[.pointer (some ⟨c, 0, none⟩)] w fun e w' => e = .returned (.int .i64 n) ∧ CurAt B w' c r ∧ w.grownBy w' (some c) := by
 have := number49_any B c l w hc
 rw [h] at this
 exact this
theorem num_none {B c : Nat} {l : List V} {w : World} (hc : CurAt B w c l) (h : numR l = none) : Calls Tryz.prog 59 #[.pointer (some ⟨c, 0, none⟩)] w fun e w' => e = .panicked badI ∧ w.grownBy w' (some c) := by
 have := number49_any B c l w hc
 rw [h] at this
 exact this
set_option maxRecDepth 100000 in
set_option maxHeartbeats 4000000 in
theorem span49_any (B c : Nat) (l : List V) (w : World) (hc : CurAt B w c l) (hB : B ≤ w.heap.size) : Calls Tryz.prog 62 #[.pointer (some ⟨c, 0, none⟩)] w (RdP B c w (spnR l) (fun p => .agg #[.int .i64 p.1, .int .i64 p.2])) := by
 have hcl : c < w.heap.size := hc.2.elim fun _ h => h.1.lt
 have H0 : Hid (w.grownBy (w.alloc (.cells [Value.int .i64 0, .int .i64 0].toArray 26)) (some c)) := World.grownBy_alloc w _ _
 have hz : (w.alloc (.cells [Value.int .i64 0, .int .i64 0].toArray 26)).heap.size = w.heap.size + 1 := World.size_alloc _ _
 have H2 : Hid (CB (w.alloc (.cells [Value.int .i64 0, .int .i64 0].toArray 26)) w.heap.size 26 [.int .i64 0, .int .i64 0]) := cb_one w _ _ _ rfl
 have hc0 : CurAt B (w.alloc (.cells [Value.int .i64 0, .int .i64 0].toArray 26)) c l := hc.keep (row := none) (World.grownBy_alloc w _ _) hB (fun q e => by cases e)
 have HL := Lib.hid (list49_any B c l (w.alloc (.cells [Value.int .i64 0, .int .i64 0].toArray 26)) hc0 (by omega))
 have Hc : Hid (c < (w.alloc (.cells [Value.int .i64 0, .int .i64 0].toArray 26)).heap.size ∧ w.heap.size < (w.alloc (.cells [Value.int .i64 0, .int .i64 0].toArray 26)).heap.size) := ⟨by omega, by omega⟩
 have HZ : Hid (w.heap.size < (w.alloc (.cells [Value.int .i64 0, .int .i64 0].toArray 26)).heap.size) := Hc.out.2
 have HB : Hid (B ≤ (w.alloc (.cells [Value.int .i64 0, .int .i64 0].toArray 26)).heap.size) := Lib.hid (by omega)
 have Hcl := Lib.hid hcl; have HBw := Lib.hid hB
 clear hc hB hcl hz hc0
 cases hL : lstR l with
 | none =>
  have hs : spnR l = none := by unfold spnR; rw [hL]; rfl
  rw [hs]; rw [hL] at HL
  clear hL hs
  go_enter Tryz.func62, Tryz.ntmps62
  go_upto_region 1 with fail
  change Code.wp _ _ _ _ (w.alloc (.cells [Value.int .i64 0, .int .i64 0].toArray 26))
  generalize w.alloc (.cells [Value.int .i64 0, .int .i64 0].toArray 26) = w0 at *
  go_wp2_with (go_at_call 58; refine HL.out.mono ?_; go_loud (rintro e w1 ⟨rfl, hgr⟩))
  exact ⟨rfl, rfl, grown_trans H0.out hgr (.inl rfl)⟩
 | some p =>
  obtain ⟨pl, pr⟩ := p
  rw [hL] at HL
  cases hA : numR pl with
  | none =>
   have hs : spnR l = none := by unfold spnR; rw [hL]; show (numR pl).bind _ = none; rw [hA]; rfl
   rw [hs]
   have HA := Lib.hid hA
   clear hL hs hA
   go_enter Tryz.func62, Tryz.ntmps62
   go_upto_region 1 with fail
   change Code.wp _ _ _ _ (w.alloc (.cells [Value.int .i64 0, .int .i64 0].toArray 26))
   generalize w.alloc (.cells [Value.int .i64 0, .int .i64 0].toArray 26) = w0 at *
   go_wp2_with (first | (go_at_call 58; refine HL.out.mono ?_; go_loud (rintro e w1 ⟨g, rfl, hg1, hg2, hc1, hgr⟩; have HgB : Hid (g ≠ c ∧ B ≤ g) := ⟨Nat.ne_of_gt (Nat.lt_of_lt_of_le Hc.out.1 hg1), Nat.le_trans HB.out hg1⟩; have HG := Lib.hid hg2; have HC1 := Lib.hid hc1; have Hg := Lib.hid (grown_trans H0.out hgr (.inl rfl)); have HgW : Hid (w.heap.size < g) := Nat.lt_of_lt_of_le HZ.out hg1; have HB1 : Hid (B ≤ w1.heap.size) := Nat.le_trans HB.out hgr.size; have H21 := Lib.hid (H2.out.keep (hgr.block _ H2.out.lt (fun e => Nat.ne_of_gt Hcl.out (Option.some.inj e)))); clear hg1 hg2 hc1 hgr HL)) | (go_at_call 59; refine (num_none HG.out HA.out).mono ?_; go_loud (rintro e w2 ⟨rfl, hgr⟩; have Hg2 := Lib.hid (grown_trans Hg.out hgr (.inr fun q e => by injection e with e; have := HgW.out; omega)); clear hgr)))
   exact ⟨rfl, rfl, Hg2.out⟩
  | some a =>
   obtain ⟨an, ar⟩ := a
   cases hA2 : numR ar with
   | none =>
    have hs : spnR l = none := by unfold spnR; rw [hL]; show (numR pl).bind _ = none; rw [hA]; show (numR ar).bind _ = none; rw [hA2]; rfl
    rw [hs]
    have HA := Lib.hid hA; have HA2 := Lib.hid hA2
    clear hL hs hA hA2
    go_enter Tryz.func62, Tryz.ntmps62
    go_upto_region 1 with fail
    change Code.wp _ _ _ _ (w.alloc (.cells [Value.int .i64 0, .int .i64 0].toArray 26))
    generalize w.alloc (.cells [Value.int .i64 0, .int .i64 0].toArray 26) = w0 at *
    go_wp2_with (first | (go_at_call 58; refine HL.out.mono ?_; go_loud (rintro e w1 ⟨g, rfl, hg1, hg2, hc1, hgr⟩; have HgB : Hid (g ≠ c ∧ B ≤ g) := ⟨Nat.ne_of_gt (Nat.lt_of_lt_of_le Hc.out.1 hg1), Nat.le_trans HB.out hg1⟩; have HG := Lib.hid hg2; have HC1 := Lib.hid hc1; have Hg := Lib.hid (grown_trans H0.out hgr (.inl rfl)); have HgW : Hid (w.heap.size < g) := Nat.lt_of_lt_of_le HZ.out hg1; have HB1 : Hid (B ≤ w1.heap.size) := Nat.le_trans HB.out hgr.size; have H21 := Lib.hid (H2.out.keep (hgr.block _ H2.out.lt (fun e => Nat.ne_of_gt Hcl.out (Option.some.inj e)))); clear hg1 hg2 hc1 hgr HL)) | (go_at_call 59; refine (num_some HG.out HA.out).mono ?_; go_loud (rintro e w2 ⟨rfl, hg2, hgr⟩; have HG2 := Lib.hid hg2; have HC2 := Lib.hid (HC1.out.keep hgr HB1.out (fun q e => by injection e with e; subst e; exact HgB.out)); have Hg2 := Lib.hid (grown_trans Hg.out hgr (.inr fun q e => by injection e with e; have := HgW.out; omega)); have HB2 : Hid (B ≤ w2.heap.size) := Nat.le_trans HB1.out hgr.size; have H22 := Lib.hid (H21.out.keep (hgr.block _ H21.out.lt (fun e => Nat.ne_of_lt HgW.out (Option.some.inj e)))); clear hg2 hgr HA HG)) | (go_at_call 59; refine (num_none HG2.out HA2.out).mono ?_; go_loud (rintro e w3 ⟨rfl, hgr⟩; have Hg3 := Lib.hid (grown_trans Hg2.out hgr (.inr fun q e => by injection e with e; have := HgW.out; omega)); clear hgr)))
    exact ⟨rfl, rfl, Hg3.out⟩
   | some b =>
    obtain ⟨bn, br⟩ := b
    have hs : spnR l = some ((an, bn), pr) := by unfold spnR; rw [hL]; show (numR pl).bind _ = _; rw [hA]; show (numR ar).bind _ = _; rw [hA2]; rfl
    rw [hs]
    have HA := Lib.hid hA; have HA2 := Lib.hid hA2
    have HSo : Hid (∀ u ∈ ([.int .i64 an, .int .i64 bn] : List Value), u.oneCell' = true) := Lib.hid (by intro u hu; simp only [List.mem_cons, List.not_mem_nil, or_false] at hu; rcases hu with rfl | rfl <;> rfl)
    clear hL hs hA hA2
    go_enter Tryz.func62, Tryz.ntmps62
    go_upto_region 1 with fail
    change Code.wp _ _ _ _ (w.alloc (.cells [Value.int .i64 0, .int .i64 0].toArray 26))
    generalize w.alloc (.cells [Value.int .i64 0, .int .i64 0].toArray 26) = w0 at *
    go_wp2_with (first | (go_at_call 58; refine HL.out.mono ?_; go_loud (rintro e w1 ⟨g, rfl, hg1, hg2, hc1, hgr⟩; have HgB : Hid (g ≠ c ∧ B ≤ g) := ⟨Nat.ne_of_gt (Nat.lt_of_lt_of_le Hc.out.1 hg1), Nat.le_trans HB.out hg1⟩; have HG := Lib.hid hg2; have HC1 := Lib.hid hc1; have Hg := Lib.hid (grown_trans H0.out hgr (.inl rfl)); have HgW : Hid (w.heap.size < g) := Nat.lt_of_lt_of_le HZ.out hg1; have HB1 : Hid (B ≤ w1.heap.size) := Nat.le_trans HB.out hgr.size; have H21 := Lib.hid (H2.out.keep (hgr.block _ H2.out.lt (fun e => Nat.ne_of_gt Hcl.out (Option.some.inj e)))); clear hg1 hg2 hc1 hgr HL)) | (go_at_call 59; refine (num_some HG.out HA.out).mono ?_; go_loud (rintro e w2 ⟨rfl, hg2, hgr⟩; have HG2 := Lib.hid hg2; have HC2 := Lib.hid (HC1.out.keep hgr HB1.out (fun q e => by injection e with e; subst e; exact HgB.out)); have Hg2 := Lib.hid (grown_trans Hg.out hgr (.inr fun q e => by injection e with e; have := HgW.out; omega)); have HB2 : Hid (B ≤ w2.heap.size) := Nat.le_trans HB1.out hgr.size; have H22 := Lib.hid (H21.out.keep (hgr.block _ H21.out.lt (fun e => Nat.ne_of_lt HgW.out (Option.some.inj e)))); clear hg2 hgr HA HG)) | (go_at_call 59; refine (num_some HG2.out HA2.out).mono ?_; go_loud (rintro e w3 ⟨rfl, hg3, hgr⟩; have HC3 := Lib.hid (HC2.out.keep hgr HB2.out (fun q e => by injection e with e; subst e; exact HgB.out)); have Hg3 := Lib.hid (grown_trans Hg2.out hgr (.inr fun q e => by injection e with e; have := HgW.out; omega)); have HB3 : Hid (w2.heap.size ≤ w3.heap.size) := hgr.size; have H23 := Lib.hid (H22.out.keep (hgr.block _ H22.out.lt (fun e => Nat.ne_of_lt HgW.out (Option.some.inj e)))); clear hg3 hgr HA2 HG2)) | (have _g := HSo.out; refine wpList_store_cs rfl 26 (.tmp 2) (.tmp 10) rfl w.heap.size [.int .i64 an, .int .i64 bn] rfl rfl 26 _ H23.out rfl (by kernel_rfl) HSo.out (fun w6 HC6 HW6 HZ6 => ?_); clear HSo))
    refine bodyPost_ret (v := .agg ([.int .i64 an, .int .i64 bn] : List Value).toArray) (results_cell_row rfl _ _ w.heap.size 26 _ (0, 0) _ rfl HC6.out Tryz.underlying26 rfl (by kernel_rfl)) rfl ?_
    exact ⟨rfl, HC3.out.keep HW6.out (Nat.le_trans HB2.out HB3.out) (fun q e => by injection e with e; subst e; exact ⟨Nat.ne_of_gt Hcl.out, HBw.out⟩), grown_trans Hg3.out HW6.out (.inr fun q e => by injection e with e; omega)⟩
end Go.Proofs.YtdblnbnofjggnaaGreatDoor
namespace Go.Proofs.YtdblnbnofjggnaaGreatDoor
open Go.RowKit
structure Thing where
 ok : World → Prop
 blk : Nat → Prop
 lt : ∀ {W : World}, ok W → ∀ k, blk k → k < W.heap.size
 keep : ∀ {W W' : World} {row : Option Nat}, ok W → W.grownBy W' row → (∀ k, blk k → row ≠ some k) → ok W'
def boxT (g : Nat) (t : TypeId) (cs : List Value) : Thing :=
 ⟨fun W => CB W g t cs, fun k => k = g, fun h _k e => e ▸ h.lt, fun h hg hr => h.keep (hg.block _ h.lt (fun e => hr g rfl e.symm))⟩
def ownT {α : Type} (K : EK α) (t : TypeId) (b : Nat) (v : Value) (l : List α) : Thing :=
 ⟨fun W => OwnK K t W b v l, fun k => v.ownBlock = some k, fun h k e => (h.lt k e).2, fun h hg hr => OwnK.keepR h hg (by
  cases hv : v.ownBlock with
  | none => exact .inl rfl
  | some k => exact .inr fun e => hr k hv e.symm)⟩
theorem szV_parts (x : V) : sz x = 24 + x.s.size + szs x.l := by obtain ⟨k, n, s, l⟩ := x; rfl
theorem nxt_sz {k : Int} {l r : List V} {x : V} (h : nxt k l = some (x, r)) : sz x + szs r = szs l := by
 cases l with
 | nil => cases h
 | cons y t =>
  have h : (if y.kind = k then some (y, t) else none) = some (x, r) := h
  by_cases hk : y.kind = k
  · rw [if_pos hk] at h; injection h with h; injection h with h1 h2; subst h1 h2; rfl
  · rw [if_neg hk] at h; cases h
theorem numR_sz {l : List V} {a : Int} {r : List V} (h : numR l = some (a, r)) : szs r ≤ szs l := by
 unfold numR at h
 obtain ⟨⟨x, t⟩, h1, h2⟩ := Option.bind_eq_some_iff.1 h
 injection h2 with h2; injection h2 with _ h2; subst h2
 have := nxt_sz h1; show szs t ≤ _; omega
theorem txtR_sz {l : List V} {a : ByteArray} {r : List V} (h : txtR l = some (a, r)) : szs r ≤ szs l := by
 unfold txtR at h
 obtain ⟨⟨x, t⟩, h1, h2⟩ := Option.bind_eq_some_iff.1 h
 injection h2 with h2; injection h2 with _ h2; subst h2
 have := nxt_sz h1; show szs t ≤ _; omega
theorem lstR_sz {l p r : List V} (h : lstR l = some (p, r)) : szs p + szs r ≤ szs l := by
 unfold lstR at h
 obtain ⟨⟨x, t⟩, h1, h2⟩ := Option.bind_eq_some_iff.1 h
 injection h2 with h2; injection h2 with h3 h2; subst h2 h3
 have := nxt_sz h1; have := szV_parts x; show szs x.l + szs t ≤ _; omega
theorem flgR_sz {l : List V} {a : Bool} {r : List V} (h : flgR l = some (a, r)) : szs r ≤ szs l := by
 unfold flgR at h
 obtain ⟨⟨x, t⟩, h1, h2⟩ := Option.bind_eq_some_iff.1 h
 injection h2 with h2; injection h2 with _ h2; subst h2
 exact numR_sz h1
theorem spnR_sz {l : List V} {a : Int × Int} {r : List V} (h : spnR l = some (a, r)) : szs r ≤ szs l := by
 unfold spnR at h
 simp only [Option.bind_eq_some_iff] at h
 obtain ⟨⟨p, t⟩, h1, b, h2, c, h3, h4⟩ := h
 injection h4 with h4; injection h4 with _ h4; subst h4
 have := lstR_sz h1; show szs t ≤ _; omega
theorem len_sz : ∀ l : List V, 24 * l.length ≤ szs l
 | [] => by simp
 | x :: r => by have := len_sz r; have := szV_parts x; simp only [szs, List.length_cons]; omega
structure DFin (w0 : World) (G : Option Nat) (ts : List Thing) (W : World) : Prop where
 gr : w0.grownBy W G
 thg : ∀ t ∈ ts, t.ok W
structure DSt (w0 : World) (G : Option Nat) (B : Nat) (cs : List (Nat × List V)) (ts : List Thing) (W : World) : Prop where
 gr : w0.grownBy W G
 hB : B ≤ W.heap.size
 cur : ∀ p ∈ cs, CurAt B W p.1 p.2
 sm : ∀ p ∈ cs, szs p.2 ≤ 1000000
 row : ∀ p ∈ cs, w0.heap.size ≤ p.1 ∨ G = some p.1
 nod : (cs.map Prod.fst).Nodup
 thg : ∀ t ∈ ts, t.ok W
 far : ∀ t ∈ ts, ∀ p ∈ cs, ¬ t.blk p.1
section
variable {w0 W W' : World} {G : Option Nat} {B g n : Nat} {l r p : List V} {cs : List (Nat × List V)} {ts : List Thing} {t : Thing}
theorem CurAt.lt' (h : CurAt B W g l) : g < W.heap.size := h.2.elim fun _ h => h.1.lt
theorem DSt.fin (h : DSt w0 G B cs ts W) : DFin w0 G ts W := ⟨h.gr, h.thg⟩
theorem DSt.drop (h : DSt w0 G B ((g, l) :: cs) ts W) : DSt w0 G B cs ts W :=
 ⟨h.gr, h.hB, fun p hp => h.cur p (List.mem_cons_of_mem _ hp), fun p hp => h.sm p (List.mem_cons_of_mem _ hp), fun p hp => h.row p (List.mem_cons_of_mem _ hp), (List.nodup_cons.1 h.nod).2, h.thg, fun t ht p hp => h.far t ht p (List.mem_cons_of_mem _ hp)⟩
theorem DSt.top (h : DSt w0 G B ((g, l) :: cs) ts W) : CurAt B W g l := h.cur _ List.mem_cons_self
theorem DSt.grB (h : DSt w0 G B ((g, l) :: cs) ts W) (hg : W.grownBy W' (some g)) : w0.grownBy W' G :=
 grown_trans h.gr hg (by
  rcases h.row _ List.mem_cons_self with h1 | h1
  · exact .inr fun q e => by injection e with e; subst e; exact h1
  · exact .inl h1.symm)
theorem DSt.thgB (h : DSt w0 G B ((g, l) :: cs) ts W) (hg : W.grownBy W' (some g)) : ∀ t ∈ ts, t.ok W' :=
 fun t ht => t.keep (h.thg t ht) hg fun k hk e => by injection e with e; subst e; exact h.far t ht _ List.mem_cons_self hk
theorem DSt.stop (h : DSt w0 G B ((g, l) :: cs) ts W) (hg : W.grownBy W' (some g)) : DFin w0 G ts W' := ⟨h.grB hg, h.thgB hg⟩
theorem DSt.step (h : DSt w0 G B ((g, l) :: cs) ts W) (hg : W.grownBy W' (some g)) (hc : CurAt B W' g r) (hz : szs r ≤ szs l) : DSt w0 G B ((g, r) :: cs) ts W' := by
 have hn := List.nodup_cons.1 h.nod
 refine ⟨h.grB hg, Nat.le_trans h.hB hg.size, fun p hp => ?_, fun p hp => ?_, fun p hp => ?_, ?_, h.thgB hg, fun t ht p hp => ?_⟩
 · rcases List.mem_cons.1 hp with rfl | hp
   · exact hc
   · refine (h.cur p (List.mem_cons_of_mem _ hp)).keep hg h.hB fun q e => ?_
     injection e with e; subst e
     exact ⟨fun e => hn.1 (show g ∈ List.map Prod.fst cs from e ▸ (List.mem_map.2 ⟨p, hp, rfl⟩)), h.top.1⟩
 · rcases List.mem_cons.1 hp with rfl | hp
   · exact Nat.le_trans hz (h.sm (g, l) List.mem_cons_self)
   · exact h.sm p (List.mem_cons_of_mem _ hp)
 · rcases List.mem_cons.1 hp with rfl | hp
   · exact h.row (g, l) List.mem_cons_self
   · exact h.row p (List.mem_cons_of_mem _ hp)
 · exact h.nod
 · rcases List.mem_cons.1 hp with rfl | hp
   · exact h.far t ht (g, l) List.mem_cons_self
   · exact h.far t ht p (List.mem_cons_of_mem _ hp)
theorem DSt.push (h : DSt w0 G B cs ts W) (hn : W.heap.size ≤ n) (hb : Below W.heap.size W W') (hc : CurAt B W' n p) (hz : szs p ≤ 1000000) : DSt w0 G B ((n, p) :: cs) ts W' := by
 refine ⟨grown_trans h.gr (below_none hb) (.inr fun q e => by cases e), Nat.le_trans h.hB hb.size, fun p hp => ?_, fun p hp => ?_, fun p hp => ?_, ?_, fun t ht => t.keep (h.thg t ht) (below_none hb) (fun _ _ e => by cases e), fun t ht p hp => ?_⟩
 · rcases List.mem_cons.1 hp with rfl | hp
   · exact hc
   · exact (h.cur p hp).keep (below_none hb) h.hB (fun q e => by cases e)
 · rcases List.mem_cons.1 hp with rfl | hp
   · exact hz
   · exact h.sm p hp
 · rcases List.mem_cons.1 hp with rfl | hp
   · exact .inl (Nat.le_trans h.gr.size hn)
   · exact h.row p hp
 · refine List.nodup_cons.2 ⟨fun hm => ?_, h.nod⟩
   obtain ⟨q, hq, e⟩ := List.mem_map.1 hm
   have := (h.cur q hq).lt'
   have e : q.1 = n := e
   omega
 · rcases List.mem_cons.1 hp with rfl | hp
   · exact fun hk => by have := t.lt (h.thg t ht) _ hk; have : n < W.heap.size := this; omega
   · exact h.far t ht p hp
theorem DSt.grow (h : DSt w0 G B cs ts W) (hb : Below W.heap.size W W') : DSt w0 G B cs ts W' :=
 ⟨grown_trans h.gr (below_none hb) (.inr fun q e => by cases e), Nat.le_trans h.hB hb.size, fun p hp => (h.cur p hp).keep (below_none hb) h.hB (fun q e => by cases e), h.sm, h.row, h.nod,
  fun t ht => t.keep (h.thg t ht) (below_none hb) (fun _ _ e => by cases e), h.far⟩
theorem DSt.add (h : DSt w0 G B cs ts W) (t : Thing) (ht : t.ok W) (hf : ∀ p ∈ cs, ¬ t.blk p.1) : DSt w0 G B cs (t :: ts) W :=
 ⟨h.gr, h.hB, h.cur, h.sm, h.row, h.nod, fun u hu => (List.mem_cons.1 hu).elim (fun e => e ▸ ht) (fun hu => h.thg u hu), fun u hu p hp => (List.mem_cons.1 hu).elim (fun e => e ▸ hf p hp) (fun hu => h.far u hu p hp)⟩
theorem DSt.sub (h : DSt w0 G B cs ts W) {ts' : List Thing} (hs : ∀ t ∈ ts', t ∈ ts) : DSt w0 G B cs ts' W := ⟨h.gr, h.hB, h.cur, h.sm, h.row, h.nod, fun t ht => h.thg t (hs t ht), fun t ht => h.far t (hs t ht)⟩
theorem DSt.lst (h : DSt w0 G B ((g, l) :: cs) ts W) (hg : W.grownBy W' (some g)) (hc : CurAt B W' g r) (hn : W.heap.size ≤ n) (hm : CurAt B W' n p) (hz : szs p + szs r ≤ szs l) : DSt w0 G B ((n, p) :: (g, r) :: cs) ts W' := by
 have h1 := h.step hg hc (by omega)
 have hl := h.sm (g, l) List.mem_cons_self
 have hl : szs l ≤ 1000000 := hl
 refine ⟨h1.gr, h1.hB, fun q hq => ?_, fun q hq => ?_, fun q hq => ?_, ?_, h1.thg, fun t ht q hq => ?_⟩
 · rcases List.mem_cons.1 hq with rfl | hq
   · exact hm
   · exact h1.cur q hq
 · rcases List.mem_cons.1 hq with rfl | hq
   · show szs p ≤ _; omega
   · exact h1.sm q hq
 · rcases List.mem_cons.1 hq with rfl | hq
   · exact .inl (Nat.le_trans h.gr.size hn)
   · exact h1.row q hq
 · refine List.nodup_cons.2 ⟨fun hx => ?_, h1.nod⟩
   have hx : n ∈ List.map Prod.fst ((g, l) :: cs) := hx
   obtain ⟨q, hq, e⟩ := List.mem_map.1 hx
   have := (h.cur q hq).lt'
   have e : q.1 = n := e
   omega
 · rcases List.mem_cons.1 hq with rfl | hq
   · exact fun hk => by have := t.lt (h.thg t ht) _ hk; have : n < W.heap.size := this; omega
   · exact h1.far t ht q hq
theorem DSt.put (tl : List Thing) (h : DSt w0 G B cs (tl ++ ts) W) (t' : Thing) (row : Option Nat) (hg : W.grownBy W' row) (hr : ∀ k, row = some k → (∃ t ∈ tl, t.blk k) ∧ w0.heap.size ≤ k ∧ B ≤ k) (ht' : t'.ok W') (hb : ∀ k, t'.blk k → (∃ t ∈ tl, t.blk k) ∨ W.heap.size ≤ k)
 (hd : ∀ u ∈ ts, ∀ k, row = some k → ¬ u.blk k) : DSt w0 G B cs (t' :: ts) W' := by
 have hf : ∀ k, (∃ t ∈ tl, t.blk k) → ∀ p ∈ cs, ¬ p.1 = k := fun k ⟨t, ht, hk⟩ p hp e => h.far t (List.mem_append.2 (.inl ht)) p hp (e ▸ hk)
 refine ⟨grown_trans h.gr hg (.inr fun q e => (hr q e).2.1), Nat.le_trans h.hB hg.size, fun p hp => (h.cur p hp).keep hg h.hB (fun q e => ⟨fun e2 => hf q (hr q e).1 p hp e2.symm, (hr q e).2.2⟩), h.sm, h.row, h.nod, fun u hu => ?_, fun u hu p hp => ?_⟩
 · rcases List.mem_cons.1 hu with rfl | hu
   · exact ht'
   · exact u.keep (h.thg u (List.mem_append.2 (.inr hu))) hg fun k hk e => hd u hu k e hk
 · rcases List.mem_cons.1 hu with rfl | hu
   · intro hk
     rcases hb _ hk with hk | hk
     · exact hf _ hk p hp rfl
     · have := (h.cur p hp).lt'; omega
   · exact h.far u (List.mem_append.2 (.inr hu)) p hp
def RdS {α : Type} (w0 : World) (G : Option Nat) (B g : Nat) (cs : List (Nat × List V)) (ts : List Thing) (o : Option (α × List V)) (f : α → Value) (e : Ending) (w' : World) : Prop :=
 (∃ a r, o = some (a, r) ∧ e = .returned (f a) ∧ DSt w0 G B ((g, r) :: cs) ts w') ∨ (o = none ∧ e = .panicked badI ∧ DFin w0 G ts w')
theorem RdP.st {α : Type} {o : Option (α × List V)} {f : α → Value} {e : Ending} (h : DSt w0 G B ((g, l) :: cs) ts W) (hp : RdP B g W o f e W') (hz : ∀ a r, o = some (a, r) → szs r ≤ szs l) : RdS w0 G B g cs ts o f e W' := by
 cases o with
 | none => exact .inr ⟨rfl, hp.1, h.stop hp.2⟩
 | some p =>
  obtain ⟨a, r⟩ := p
  exact .inl ⟨a, r, rfl, hp.1, h.step hp.2.2 hp.2.1 (hz a r rfl)⟩
theorem DSt.num (h : DSt w0 G B ((g, l) :: cs) ts W) : Calls Tryz.prog 59 #[.pointer (some ⟨g, 0, none⟩)] W (RdS w0 G B g cs ts (numR l) (fun n => .int .i64 n)) := (number49_any B g l W h.top).mono fun _ _ hp => RdP.st h hp (fun _a _r e => numR_sz e)
theorem DSt.txt (h : DSt w0 G B ((g, l) :: cs) ts W) : Calls Tryz.prog 60 #[.pointer (some ⟨g, 0, none⟩)] W (RdS w0 G B g cs ts (txtR l) (fun s => .string s)) := (text49_any B g l W h.top).mono fun _ _ hp => RdP.st h hp (fun _a _r e => txtR_sz e)
theorem DSt.flg (h : DSt w0 G B ((g, l) :: cs) ts W) : Calls Tryz.prog 63 #[.pointer (some ⟨g, 0, none⟩)] W (RdS w0 G B g cs ts (flgR l) (fun b => .bool b)) := (flag49_any B g l W h.top).mono fun _ _ hp => RdP.st h hp (fun _a _r e => flgR_sz e)
theorem DSt.spn (h : DSt w0 G B ((g, l) :: cs) ts W) : Calls Tryz.prog 62 #[.pointer (some ⟨g, 0, none⟩)] W (RdS w0 G B g cs ts (spnR l) (fun p => .agg #[.int .i64 p.1, .int .i64 p.2])) := (span49_any B g l W h.top h.hB).mono fun _ _ hp => RdP.st h hp (fun _a _r e => spnR_sz e)
theorem DSt.lis (h : DSt w0 G B ((g, l) :: cs) ts W) : Calls Tryz.prog 58 #[.pointer (some ⟨g, 0, none⟩)] W fun e w' =>
 (∃ p r n, lstR l = some (p, r) ∧ e = .returned (.pointer (some ⟨n, 0, none⟩)) ∧ W.heap.size ≤ n ∧ DSt w0 G B ((n, p) :: (g, r) :: cs) ts w') ∨ (lstR l = none ∧ e = .panicked badI ∧ DFin w0 G ts w') := by
 refine (list49_any B g l W h.top h.hB).mono fun e w' hp => ?_
 cases ho : lstR l with
 | none => rw [ho] at hp; exact .inr ⟨rfl, hp.1, h.stop hp.2⟩
 | some q =>
  obtain ⟨p, r⟩ := q
  rw [ho] at hp
  obtain ⟨n, e1, h1, h2, h3, h4⟩ := hp
  exact .inl ⟨p, r, n, rfl, e1, h1, h.lst h4 h3 h1 h2 (lstR_sz ho)⟩
theorem DSt.len (h : DSt w0 G B ((g, l) :: cs) ts W) : ∃ oa cap, W.cell? ⟨g, 0, none⟩ = some (.slice oa l.length cap) := by
 obtain ⟨-, lv, h1, h2⟩ := h.top
 obtain ⟨oa, cap, rfl⟩ := slvd_form h2
 exact ⟨oa, cap, h1.cell 0⟩
end
end Go.Proofs.YtdblnbnofjggnaaGreatDoor
