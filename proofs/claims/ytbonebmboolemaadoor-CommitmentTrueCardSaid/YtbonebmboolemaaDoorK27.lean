/- Merged: Ttr Tvp Trv Trr. -/
import Derived.Test.YtbonebmboolemaaDoorK08
import Derived.Test.YtbonebmboolemaaDoorK22
import Derived.Test.YtbonebmboolemaaDoorK23
/- digest: Tree (printed by gen36t.py). -/
namespace Go.Proofs.YtbonebmboolemaaDoor
open Go.RowKit
theorem LsAt.takeS {α : Type} {K : EK α} {B b off cap : Nat} {w : World} {l : List α} (h : LsAt K B w l (.slice (some ⟨b, off, none⟩) l.length cap)) (n : Nat) (h0 : l ≠ []) (hn : n ≤ l.length) : LsAt K B w (l.take n) (.slice (some ⟨b, off, none⟩) n cap) := by
  rcases h with ⟨h, _⟩ | ⟨b', off', cap', h1, h2, h3, h4, h5⟩
  · exact absurd h h0
  · injection h1 with h1 _ h6
    injection h1 with h1
    injection h1 with h7 h8
    subst h6 h7 h8
    refine .inr ⟨b, off, cap, by rw [List.length_take, Nat.min_eq_left hn], by rw [List.length_take]; omega, h3, h4, fun j a hj => ?_⟩
    rw [List.getElem?_take] at hj
    split at hj
    · exact h5 j a hj
    · cases hj
theorem LsAt.dropS {α : Type} {K : EK α} {B b off cap : Nat} {w : World} {l : List α} (h : LsAt K B w l (.slice (some ⟨b, off, none⟩) l.length cap)) (n m c' : Nat) (h0 : l ≠ []) (hn : n ≤ l.length) (hm : m = l.length - n) (hc : c' = cap - n) : LsAt K B w (l.drop n) (.slice (some ⟨b, off + n * K.n, none⟩) m c') := by
  subst hm hc
  rcases h with ⟨h, _⟩ | ⟨b', off', cap', h1, h2, h3, h4, h5⟩
  · exact absurd h h0
  · injection h1 with h1 _ h6
    injection h1 with h1
    injection h1 with h7 h8
    subst h6 h7 h8
    refine .inr ⟨b, off + n * K.n, cap - n, by rw [List.length_drop], by rw [List.length_drop]; omega, by omega, h4, fun j a hj => ?_⟩
    rw [List.getElem?_drop] at hj
    have := h5 (n + j) a hj
    rw [Nat.add_assoc, ← Nat.add_mul]; exact this
theorem LsAt.some_at {α : Type} {K : EK α} {B : Nat} {w : World} {l : List α} {v : Value} (h : LsAt K B w l v) (h0 : l ≠ []) : ∃ b off cap, v = .slice (some ⟨b, off, none⟩) l.length cap ∧ l.length ≤ cap ∧ cap ≤ maxLen := by
  rcases h with ⟨h, _⟩ | ⟨b, off, cap, rfl, h2, h3, _⟩
  · exact absurd h h0
  · exact ⟨b, off, cap, rfl, h2, h3⟩
theorem LsAt.range {K : EK Dg} {B b off cap : Nat} {w : World} {l : List Dg} {d : Dg} {j n : Nat} (hK : K = digK) (h : LsAt K B w l (.slice (some ⟨b, off, none⟩) n cap)) (hd : l[j]? = some d) : w.rangeAt b (off + j * 32) (bcells d.1) := by
  subst hK
  rcases h with ⟨h, _⟩ | ⟨b', off', cap', h1, h2, h3, h4, h5⟩
  · subst h; simp at hd
  · injection h1 with h1 _ h6
    injection h1 with h1
    injection h1 with h7 h8
    subst h7 h8
    intro i u hu
    exact h5 j d hd i u hu
set_option maxRecDepth 100000 in
set_option maxHeartbeats 2000000 in
theorem tree_any_nil (l : List Dg) (v : Value) (w : World) (h0 : l.length = 0) (hl : LsAt digK w.heap.size w l v) (hL : Laid w) :
    Calls Tryd.prog 25 #[v] w fun e w' => e = .returned (dv (treeD l).1) ∧ Below w.heap.size w w' := by
  obtain ⟨oa, cap, rfl, _⟩ := hl.shape
  obtain rfl : l = [] := List.eq_nil_of_length_eq_zero h0
  have H0 : Hid (CB (w.alloc ZD) w.heap.size 29 (bcells dgZ.1)) := cb_one w _ _ _ rfl
  have HB := Lib.hid (b_al (w := w) ZD)
  have hrl := (treeD []).2
  obtain ⟨r, hr⟩ : ∃ r, (treeD []).1 = r := ⟨_, rfl⟩
  rw [hr] at hrl ⊢
  have Hr := Lib.hid hr; have Hrl := Lib.hid hrl
  clear hr hrl
  have Hr2 : Hid (tagged emptyT [] = r) := by show _ = _; rw [← Hr.out, treeD_nil]; rfl
  have hcall := Lib.hid (tagged_any ⟨#[101, 109, 112, 116, 121]⟩ (.slice none 0 0) [] (w.alloc ZD) (by decide) (by decide) (.inl ⟨rfl, none, 0, rfl, Nat.zero_le _⟩) (hL.ext HB.out))
  clear hl hL h0
  go_enter Tryd.func25, Tryd.ntmps25
  go_upto_region 1 with fail
  change Code.wp _ _ _ _ (w.alloc ZD)
  generalize hw0 : w.alloc ZD = w0 at *
  clear hw0
  go_wp2_with fail
  refine hcall.out.mono ?_
  rintro e w6 ⟨rfl, hb6⟩
  rw [show tagged (ByteArray.data ⟨#[101, 109, 112, 116, 121]⟩).toList [] = r from Hr2.out]
  have HT : Hid (w6.heap[w.heap.size]? = some (.cells (bcells dgZ.1).toArray 29 (0, 0))) := H0.out.ext hb6
  have HB6 := Lib.hid (below_ext HB.out hb6)
  clear hb6
  go_wp2_with (with_reducible refine wpList_store_d (hgd := rfl) 29 (.tmp 2) (.tmp 8) rfl w.heap.size r Hrl.out rfl rfl 29 _ HT.out rfl dig_sz ?_; intro w7 hc7 hg7 hz7)
  refine bodyPost_ret (v := dv r) (results_cell_row rfl _ _ w.heap.size 29 (bcells r).toArray (0, 0) _ rfl hc7.out Tryd.underlying29 rfl (by rw [List.size_toArray, bcells_length, Hrl.out]; exact dig_sz)) rfl ?_
  exact ⟨rfl, HB6.out.grown hg7.out HB6.out.size (fun k hk => by injection hk; omega)⟩
set_option maxRecDepth 100000 in
set_option maxHeartbeats 2000000 in
theorem tree_any_one (l : List Dg) (v : Value) (w : World) (h0 : l.length = 1) (hl : LsAt digK w.heap.size w l v) (hL : Laid w) :
    Calls Tryd.prog 25 #[v] w fun e w' => e = .returned (dv (treeD l).1) ∧ Below w.heap.size w w' := by
  obtain ⟨d, rfl⟩ : ∃ d, l = [d] := by
    match l, h0 with
    | [d], _ => exact ⟨d, rfl⟩
  obtain ⟨b, off, cap, rfl, hlc, hcm⟩ := hl.some_at (by simp)
  have H0 : Hid (CB (w.alloc ZD) w.heap.size 29 (bcells dgZ.1)) := cb_one w _ _ _ rfl
  have HB := Lib.hid (b_al (w := w) ZD)
  have hrl := (treeD [d]).2
  obtain ⟨r, hr⟩ : ∃ r, (treeD [d]).1 = r := ⟨_, rfl⟩
  rw [hr] at hrl ⊢
  have Hr := Lib.hid hr; have Hrl := Lib.hid hrl
  clear hr hrl
  have hrg := LsAt.range rfl (hl.ext HB.out) (j := 0) (d := d) rfl
  rw [Nat.zero_mul, Nat.add_zero] at hrg
  have Hrg := Lib.hid hrg
  have hcall := Lib.hid (dleaf_any d (w.alloc ZD) (hL.ext HB.out))
  rw [← treeD_one, Hr.out] at hcall
  have Hdl := Lib.hid d.2
  clear hl h0 hlc hcm hrg hL
  go_enter Tryd.func25, Tryd.ntmps25
  go_upto_region 1 with fail
  change Code.wp _ _ _ _ (w.alloc ZD)
  generalize hw0 : w.alloc ZD = w0 at *
  clear hw0
  go_wp2_with (with_reducible refine wpList_load_mid rfl 29 (.tmp 12) rfl b off rfl (bcells d.1) _ Hrg.out Tryd.underlying29 rfl (by rw [bcells_length, Hdl.out]; exact dig_sz) ?_)
  refine hcall.out.mono ?_
  rintro e w6 ⟨rfl, hb6⟩
  have HT : Hid (w6.heap[w.heap.size]? = some (.cells (bcells dgZ.1).toArray 29 (0, 0))) := H0.out.ext hb6
  have HB6 := Lib.hid (below_ext HB.out hb6)
  clear hb6
  go_wp2_with (with_reducible refine wpList_store_d (hgd := rfl) 29 (.tmp 2) (.tmp 14) rfl w.heap.size r Hrl.out rfl rfl 29 _ HT.out rfl dig_sz ?_; intro w7 hc7 hg7 hz7)
  refine bodyPost_ret (v := dv r) (results_cell_row rfl _ _ w.heap.size 29 (bcells r).toArray (0, 0) _ rfl hc7.out Tryd.underlying29 rfl (by rw [List.size_toArray, bcells_length, Hrl.out]; exact dig_sz)) rfl ?_
  exact ⟨rfl, HB6.out.grown hg7.out HB6.out.size (fun k hk => by injection hk; omega)⟩
set_option maxRecDepth 100000 in
set_option maxHeartbeats 4000000 in
theorem tree_any : ∀ (n : Nat) (l : List Dg) (v : Value) (w : World), l.length ≤ n → l.length ≤ 64 → LsAt digK w.heap.size w l v → Laid w → 
    Calls Tryd.prog 25 #[v] w fun e w' => e = .returned (dv (treeD l).1) ∧ Below w.heap.size w w' := by
  intro n
  induction n with
  | zero => intro l v w hn h64 hl hL; exact tree_any_nil l v w (by omega) hl hL
  | succ n ih =>
    intro l v w hn h64 hl hL
    by_cases h0 : l.length = 0
    · exact tree_any_nil l v w h0 hl hL
    by_cases h1 : l.length = 1
    · exact tree_any_one l v w h1 hl hL
    have h2 : 2 ≤ l.length := by omega
    have hne : l ≠ [] := by intro e; rw [e] at h0; simp at h0
    obtain ⟨b, off, cap, rfl, hlc, hcm⟩ := hl.some_at hne
    obtain ⟨a1, a2, a3⟩ := half_lt h2
    have HH := Lib.hid (half_any l.length (w.alloc ZD) h2 h64)
    obtain ⟨k, hk⟩ : ∃ k, halfN l.length = k := ⟨_, rfl⟩
    rw [hk] at HH a1 a2 a3
    have hlt1 : (l.take k).length ≤ n := by rw [List.length_take]; omega
    have hlt2 : (l.drop k).length ≤ n := by rw [List.length_drop]; omega
    have ht1 : (l.take k).length ≤ 64 := by rw [List.length_take]; omega
    have ht2 : (l.drop k).length ≤ 64 := by rw [List.length_drop]; omega
    have HT1 := Lib.hid (fun W hb => ih (l.take k) (.slice (some ⟨b, off, none⟩) k cap) W hlt1 ht1 ((hl.ext hb).takeS k hne (by omega)) (hL.ext hb))
    have HT2 := Lib.hid (fun W hb => ih (l.drop k) (.slice (some ⟨b, off + k * 32, none⟩) (l.length - k) (cap - k)) W hlt2 ht2 ((hl.ext hb).dropS k _ _ hne (by omega) rfl rfl) (hL.ext hb))
    have hres := treeD_two h2
    rw [hk] at hres
    obtain ⟨x, hx⟩ : ∃ x, treeD (l.take k) = x := ⟨_, rfl⟩
    obtain ⟨y, hy⟩ : ∃ y, treeD (l.drop k) = y := ⟨_, rfl⟩
    rw [hx] at HT1 hres; rw [hy] at HT2 hres
    have hxl := x.2; have hyl := y.2
    have hrl := (treeD l).2
    obtain ⟨r, hr⟩ : ∃ r, (treeD l).1 = r := ⟨_, rfl⟩
    have HRR : Hid ((nodeD x y).1 = r) := by show _ = _; rw [← hres, hr]
    rw [hr] at hrl ⊢
    have Hrl := Lib.hid hrl
    have HLL := Lib.hid hL
    have b1 : (1 : Int) ≤ (k : Int) := by omega
    have b2 : (k : Int) < (l.length : Int) := by omega
    have b3 : (l.length : Int) ≤ (cap : Int) := by omega
    have b4 : (l.length : Int) ≤ 64 := by omega
    have b5 : (cap : Int) ≤ 9223372036854775807 := by unfold maxLen at hcm; omega
    have e0 : ((l.length : Int) == 0) = false := by rw [beq_eq_false_iff_ne]; omega
    have e1 : ((l.length : Int) == 1) = false := by rw [beq_eq_false_iff_ne]; omega
    have e2 : (cap = k) = False := by apply propext; constructor; (intro e; omega); (intro h; cases h)
    have e4 : k ≤ cap := by omega
    have e5 : k ≤ l.length := by omega
    have e3 : (l.length : Int) - (k : Int) = ((l.length - k : Nat) : Int) := by omega
    have H0 : Hid (CB (w.alloc ZD) w.heap.size 29 (bcells dgZ.1)) := cb_one w _ _ _ rfl
    have HB := Lib.hid (b_al (w := w) ZD)
    clear hn h64 hl h0 h1 h2 hne hlc hcm a1 a2 a3 hk hlt1 hlt2 ht1 ht2 hres hx hy hr hrl ih hL
    go_enter Tryd.func25, Tryd.ntmps25
    go_upto_region 1 with fail
    change Code.wp _ _ _ _ (w.alloc ZD)
    generalize hw0 : w.alloc ZD = w0 at *
    clear hw0
    go_upto_region 7 with (go_at_call 51; refine HH.out.mono ?_; rintro e w' ⟨rfl, rfl⟩)
    refine wp_region_held_drew (S := fun w' => True) (by kernel_rfl) trivial (fun hHeld => ?_)
    have K0 := Lib.hid (H0.out.ext (Below.refl w0.heap.size w0).drew); have KB := Lib.hid HB.out.drew
    clear H0 HB
    generalize w0.drew = w1 at *
    refine take_dst (some 18) (i := 0) (v := ?vT0) rfl rfl (by kernel_rfl) (by kernel_rfl) (by kernel_rfl) (fun _ _ _ h => h) (Or.inl ⟨by rfl, fun wS hSw => ?hyT0⟩) (by assumption) ?restT0
    case hyT0 => (obtain _ := hSw; go_simp; first | done | with_reducible rfl)
    try simp only [Act.put, List.setIfInBounds_toArray, List.set_cons_zero, List.set_cons_succ]
    refine take_dst (some 19) (i := 1) (v := ?vT1) rfl rfl (by kernel_rfl) (by kernel_rfl) (by kernel_rfl) (fun _ _ _ h => h) (Or.inl ⟨by rfl, fun wS hSw => ?hyT1⟩) (by assumption) ?restT1
    case hyT1 => (obtain _ := hSw; go_simp; first | done | with_reducible rfl)
    try simp only [Act.put, List.setIfInBounds_toArray, List.set_cons_zero, List.set_cons_succ]
    refine take_dst (some 20) (i := 2) (v := ?vT2) rfl rfl (by kernel_rfl) (by kernel_rfl) (by kernel_rfl) (fun _ _ _ h => h) (Or.inl ⟨by rfl, fun wS hSw => ?hyT2⟩) (by assumption) ?restT2
    case hyT2 => (obtain _ := hSw; go_simp; first | done | with_reducible rfl)
    try simp only [Act.put, List.setIfInBounds_toArray, List.set_cons_zero, List.set_cons_succ]
    refine take_dst (some 22) (i := 4) (v := ?vT4) rfl rfl (by kernel_rfl) (by kernel_rfl) (by kernel_rfl) (fun _ _ _ h => h) (Or.inl ⟨by rfl, fun wS hSw => ?hyT4⟩) (by assumption) ?restT4
    case hyT4 => (obtain _ := hSw; go_simp; first | done | with_reducible rfl)
    try simp only [Act.put, List.setIfInBounds_toArray, List.set_cons_zero, List.set_cons_succ]
    refine take_dst (some 23) (i := 5) (v := ?vT5) rfl rfl (by kernel_rfl) (by kernel_rfl) (by kernel_rfl) (fun _ _ _ h => h) (Or.inl ⟨by rfl, fun wS hSw => ?hyT5⟩) (by assumption) ?restT5
    case hyT5 => (obtain _ := hSw; go_simp; first | done | with_reducible rfl)
    try simp only [Act.put, List.setIfInBounds_toArray, List.set_cons_zero, List.set_cons_succ]
    refine take_dst (some 24) (i := 6) (v := ?vT6) rfl rfl (by kernel_rfl) (by kernel_rfl) (by kernel_rfl) (fun _ _ _ h => h) (Or.inl ⟨by rfl, fun wS hSw => ?hyT6⟩) (by assumption) ?restT6
    case hyT6 => (obtain _ := hSw; go_simp; first | done | with_reducible rfl)
    try simp only [Act.put, List.setIfInBounds_toArray, List.set_cons_zero, List.set_cons_succ]
    refine wpAnyH_ready (rs := [3]) (by kernel_rfl) (by simp) ?_
    refine AllReadyH.cons rfl (fun K hK => ?_) AllReadyH.nil
    go_simp
    refine (HT1.out w1 KB.out).mono ?_
    rintro e w2 ⟨rfl, hb2⟩
    have K02 := Lib.hid (K0.out.ext hb2); have KB2 := Lib.hid (below_ext KB.out hb2)
    clear hb2 K0 KB
    refine hK.out _ _ trivial (fun hHeld => ?_)
    clear hK K
    try simp only [Act.put, List.setIfInBounds_toArray, List.set_cons_zero, List.set_cons_succ]
    refine wpAnyH_ready (rs := [7]) (by kernel_rfl) (by simp) ?_
    refine AllReadyH.cons rfl (fun K hK => ?_) AllReadyH.nil
    go_simp
    refine (HT2.out w2 KB2.out).mono ?_
    rintro e w3 ⟨rfl, hb3⟩
    have K03 := Lib.hid (K02.out.ext hb3); have KB3 := Lib.hid (below_ext KB2.out hb3)
    clear hb3 K02 KB2
    refine hK.out _ _ trivial (fun hHeld => ?_)
    clear hK K
    try simp only [Act.put, List.setIfInBounds_toArray, List.set_cons_zero, List.set_cons_succ]
    refine wpAnyH_ready (rs := [8]) (by kernel_rfl) (by simp) ?_
    refine AllReadyH.cons rfl (fun K hK => ?_) AllReadyH.nil
    have hnode := Lib.hid (dnode_any x y w3 (HLL.out.ext KB3.out))
    rw [HRR.out] at hnode
    go_simp
    refine hnode.out.mono ?_
    rintro e w4 ⟨rfl, hb4⟩
    have HT : Hid (w4.heap[w.heap.size]? = some (.cells (bcells dgZ.1).toArray 29 (0, 0))) := K03.out.ext hb4
    have HB6 := Lib.hid (below_ext KB3.out hb4)
    clear hb4 hnode K03 KB3
    refine hK.out _ _ trivial (fun hHeld => ?_)
    clear hK K
    try simp only [Act.put, List.setIfInBounds_toArray, List.set_cons_zero, List.set_cons_succ]
    refine wpAnyH_ready (rs := [9]) (by kernel_rfl) (by simp) ?_
    refine AllReadyH.cons rfl (fun K hK => ?_) AllReadyH.nil
    refine wpIf_store_d (by rfl) 29 (.tmp 2) (.tmp 26) rfl w.heap.size r Hrl.out rfl rfl 29 _ HT.out rfl dig_sz ?_
    intro w7 hc7 hg7 hz7
    refine hK.out (Act.put _ none undef) w7 trivial (fun hHeld => ?_)
    clear hK K
    try simp only [Act.put]
    refine wpAnyH_done (by kernel_rfl) ?_ _
    go_wp2_with fail
    refine bodyPost_ret (v := dv r) (results_cell_row rfl _ _ w.heap.size 29 (bcells r).toArray (0, 0) _ rfl hc7.out Tryd.underlying29 rfl (by rw [List.size_toArray, bcells_length, Hrl.out]; exact dig_sz)) rfl ?_
    exact ⟨rfl, HB6.out.grown hg7.out HB6.out.size (fun k hk => by injection hk; omega)⟩
theorem tree_is {l : List Dg} {v : Value} {w : World} (h : l.length ≤ 64) (hl : LsAt digK w.heap.size w l v) (hL : Laid w) : Calls Tryd.prog 25 #[v] w fun e w' => e = .returned (dv (treeD l).1) ∧ Below w.heap.size w w' := tree_any l.length l v w (Nat.le_refl _) h hl hL
end Go.Proofs.YtbonebmboolemaaDoor
/- valid tables, plain; whole tables loaded and stored; Few. -/
namespace Go.Proofs.YtbonebmboolemaaDoor
open Go.RowKit
/-- whether the table at a place goes with those before it -/
def vAt (l : List Tab) (i : Nat) : Bool :=
  okT (l.getD i default) && decide ((l.getD i default).air = (l.getD 0 default).air) && decide ((l.getD i default).costs.length = (l.getD 0 default).costs.length) && (decide (i = 0) || decide ((l.getD (i - 1) default).fl < (l.getD i default).fl))
def validT (l : List Tab) : Bool := decide (1 ≤ l.length) && decide (l.length ≤ 8) && (List.range l.length).all (vAt l)
theorem valid_yes {l : List Tab} (h1 : 1 ≤ l.length) (h2 : l.length ≤ 8) (h : ∀ j, j < l.length → vAt l j = true) : validT l = true := by
  unfold validT
  simp only [Bool.and_eq_true, decide_eq_true_eq, List.all_eq_true, List.mem_range]
  exact ⟨⟨h1, h2⟩, h⟩
theorem valid_no {l : List Tab} {j : Nat} (hj : j < l.length) (h : vAt l j = false) : validT l = false := by
  rw [Bool.eq_false_iff]
  intro h2
  unfold validT at h2
  simp only [Bool.and_eq_true, decide_eq_true_eq, List.all_eq_true, List.mem_range] at h2
  have := h2.2 j hj
  rw [h] at this; cases this
theorem valid_few {l : List Tab} (h : l.length < 1 ∨ 8 < l.length) : validT l = false := by
  rw [Bool.eq_false_iff]
  intro h2
  unfold validT at h2
  simp only [Bool.and_eq_true, decide_eq_true_eq] at h2
  omega
theorem gd {l : List Tab} {i : Nat} {t : Tab} (h : l[i]? = some t) : l.getD i default = t := by rw [List.getD_eq_getElem?_getD, h]; rfl
theorem v_ck {l : List Tab} {i : Nat} {t : Tab} (ht : l[i]? = some t) (h : okT t = false) : vAt l i = false := by
  unfold vAt; rw [gd ht]; simp [h]
theorem v_air {l : List Tab} {i : Nat} {t z : Tab} (ht : l[i]? = some t) (hz : l[0]? = some z) (h : ¬ t.air = z.air) : vAt l i = false := by
  unfold vAt; rw [gd ht, gd hz]; simp [h]
theorem v_len {l : List Tab} {i : Nat} {t z : Tab} (ht : l[i]? = some t) (hz : l[0]? = some z) (h : ¬ t.costs.length = z.costs.length) : vAt l i = false := by
  unfold vAt; rw [gd ht, gd hz]; simp [h]
theorem v_fl {l : List Tab} {i : Nat} {t p : Tab} (ht : l[i]? = some t) (hp : l[i - 1]? = some p) (hi : ¬ i = 0) (h : ¬ p.fl < t.fl) : vAt l i = false := by
  unfold vAt; rw [gd ht, gd hp]; simp [h, hi]
theorem v_ok0 {l : List Tab} {t z : Tab} {i : Nat} (hi : i = 0) (ht : l[i]? = some t) (hz : l[0]? = some z) (h1 : okT t = true) (h2 : t.air = z.air) (h3 : t.costs.length = z.costs.length) : vAt l i = true := by
  unfold vAt; subst hi; rw [ht] at hz; injection hz with hz; subst hz; rw [gd ht]; simp [h1]
theorem v_ok {l : List Tab} {t z p : Tab} {i : Nat} (ht : l[i]? = some t) (hz : l[0]? = some z) (hp : l[i - 1]? = some p) (h1 : okT t = true) (h2 : t.air = z.air) (h3 : t.costs.length = z.costs.length) (h4 : p.fl < t.fl) : vAt l i = true := by
  unfold vAt; rw [gd ht, gd hz, gd hp]; simp [h1, h2, h3, h4]
theorem tb_sz : (Tryd.prog.info? 31).map (·.size) = some 35 := by kernel_rfl
theorem tb_len (r : Tb) : r.cells.length = 35 := tbK.len r
def ZT : Obj := bT ⟨0, 0, none, 0, 0, dgZ⟩
theorem tb_rng {w : World} {g : Nat} {t : TypeId} {r : Tb} (h : CB w g t r.cells) : w.rangeAt g 0 r.cells := fun i u hu => by rw [Nat.zero_add, h.cell]; exact hu
section
variable {P : Program} {w : World} {ops : Array Oper} {rest : List Oper} {o : Oper} {a : Act} {Q : Exit → Act → World → Prop}
theorem wpList_store_tb {hgd : o.guard = none} (ty : TypeId) (x y : Operand) (ho : o.op = .store ty x y) (g : Nat) (r : Tb) (hx : a.eval x = .pointer (some ⟨g, 0, none⟩)) (hy : a.eval y = r.v)
    (t : TypeId) (old : Array Value) (hg : w.heap[g]? = some (.cells old t (0, 0))) (hold : old.size = 35) (hi : (P.info? ty).map (·.size) = some 35)
    (h : ∀ w', Hid (CB w' g t r.cells) → Hid (w.grownBy w' (some g)) → w'.heap.size = w.heap.size → wpList P ops Q rest (a.put o.dst undef) w') : wpList P ops Q (o :: rest) a w := by
  have hsz : r.cells.toArray.size = 35 := by rw [List.size_toArray, tb_len]
  refine wpList_store_row hgd ty x y ho g r.cells.toArray hx hy t old hg (by rw [hsz]; exact hi) (by rw [hsz, hold]) (Array.all_eq_true_iff_forall_mem.2 fun u hu => tbK.one r u (show u ∈ r.cells by simpa using hu)) ?_
  refine h _ (setRow_heap _ _ _ _ _ _ hg) ?_ (size_setRow _ _ _)
  exact ⟨rfl, rfl, rfl, by rw [size_setRow]; exact Nat.le_refl _, fun k hk hne => by
    have hkg : k ≠ g := fun e => hne (by rw [e])
    simp [World.setRow, Array.getElem?_modify, Ne.symm hkg]⟩
theorem wpList_load_tb {hgd : o.guard = none} (ty : TypeId) (x : Operand) (ho : o.op = .load ty x) (g : Nat) (r : Tb) (hx : a.eval x = .pointer (some ⟨g, 0, none⟩))
    (t : TypeId) (d : TypeDesc) (hg : CB w g t r.cells) (hu : P.underlying ty = some d) (hd : (match d with | .struct _ | .array _ _ => true | _ => false) = true) (hi : (P.info? ty).map (·.size) = some 35)
    (h : wpList P ops Q rest (a.put o.dst r.v) w) : wpList P ops Q (o :: rest) a w :=
  wpList_load_row hgd ty x ho g hx t r.cells.toArray (0, 0) d hg hu hd (by rw [List.size_toArray, tb_len]; exact hi) h
end
theorem el_rng {w : World} {b o : Nat} {r : Tb} (h : ElAt tbK w b o r) : w.rangeAt b o r.cells := fun i u hu => h i u hu
/-- few tables and costs -/
def fewT (l : List Tab) : Bool := l.all (fun t => decide (t.costs.length ≤ 12)) && decide (l.length ≤ 10)
structure FwR (l : List Tab) (w0 : World) (i : Value) (wr : World) : Prop where
  h : ∃ k : Nat, k ≤ l.length ∧ i = .int .i64 (k : Int) ∧ (∀ (j : Nat) (t : Tab), j < k → l[j]? = some t → t.costs.length ≤ 12) ∧ w0 = wr
set_option maxRecDepth 100000 in
set_option maxHeartbeats 2000000 in
theorem few_any (l : List Tab) (v : Value) (w : World) (hl : TabsAt w l v) :
    Calls Tryd.prog 10 #[v] w fun e w' => e = .returned (.bool (fewT l)) ∧ w = w' := by
  obtain ⟨oa, cap, rfl, hlc, hlm⟩ := hl.shape
  have bl : (l.length : Int) ≤ 9223372036854775807 := by omega
  have HL := Lib.hid hl
  obtain ⟨z, hz⟩ : ∃ z, fewT l = z := ⟨_, rfl⟩
  have Hz := Lib.hid hz
  rw [hz]
  clear hl hlc hlm hz
  go_enter Tryd.func10, Tryd.ntmps10
  go_wp2_with fail
  go_loopw [3] (fun i wr => FwR l w i wr) (fun i _ => l.length - (intO i).toNat)
  case atStart => exact ⟨⟨0, by omega, rfl, fun j y h => by omega, rfl⟩⟩
  case round =>
    obtain ⟨k, hk, rfl, hn, rfl⟩ := hrel.h
    have HN := Lib.hid hn
    clear hn hrel
    by_cases hlt : k < l.length
    · have tj : decide ((k : Int) < (l.length : Int)) = true := by simp; omega
      have tj' : decide (k < l.length) = true := by simp; omega
      have kb : (k : Int) < (l.length : Int) := by omega
      obtain ⟨t, ht⟩ : ∃ t, l[k]? = some t := ⟨_, List.getElem?_eq_getElem hlt⟩
      obtain ⟨b, off, r, rfl, hb, hat, hr⟩ := HL.out.el ht
      obtain ⟨_, _, c2⟩ := el_tb hat
      obtain ⟨ra, rf, ro, rn, rc, rs⟩ := r
      change _ = some (Value.slice ro rn rc) at c2
      obtain ⟨_, _, he, _⟩ := hr.cs.shape
      injection he with _ e2 _
      have e2 : rn = t.costs.length := e2
      have HT := Lib.hid ht; have He := Lib.hid e2
      clear hat hr hb ht e2
      by_cases hc : 12 < rn
      · have t1 : decide ((12 : Int) < (rn : Int)) = true := by simp; omega
        have t1' : decide (12 < rn) = true := by simpa using hc
        have hf : fewT l = false := by
          rw [Bool.eq_false_iff]; intro h2
          unfold fewT at h2
          simp only [Bool.and_eq_true, decide_eq_true_eq, List.all_eq_true] at h2
          obtain ⟨q1, q2⟩ := List.getElem?_eq_some_iff.1 HT.out
          have := h2.1 t (by rw [← q2]; exact List.getElem_mem q1)
          have := He.out; omega
        have hzz := Lib.hid (Hz.out.symm.trans hf)
        clear hc hf
        go_wp2_with fail
        go_ret
        exact ⟨by rw [hzz.out]; rfl, rfl⟩
      · have t1 : decide ((12 : Int) < (rn : Int)) = false := by simp; omega
        have t1' : decide (12 < rn) = false := by simpa using hc
        have hle : Hid (t.costs.length ≤ 12) := by show _ ≤ _; have := He.out; omega
        clear hc
        go_wp2_with fail
        go_roundw
        case rel => exact ⟨⟨k + 1, by omega, by go_num, fun j y hj hy => by
          by_cases e : j = k
          · subst e; rw [HT.out] at hy; injection hy with hy; subst hy; exact hle.out
          · exact HN.out j y (by omega) hy, rfl⟩⟩
        case measure => simp [intO]; omega
    · obtain rfl : k = l.length := by omega
      have tj : decide ((l.length : Int) < (l.length : Int)) = false := by simp
      have hf : fewT l = decide (l.length ≤ 10) := by
        unfold fewT
        rw [List.all_eq_true.2 (fun t ht => by
          obtain ⟨j, hj, rfl⟩ := List.getElem_of_mem ht
          exact decide_eq_true (HN.out j _ hj (List.getElem?_eq_getElem hj)))]
        rfl
      have hzz := Lib.hid (Hz.out.symm.trans hf)
      clear hf hlt
      go_wp2_with fail
      go_ret
      exact ⟨by rw [hzz.out]; simp; omega, rfl⟩
end Go.Proofs.YtbonebmboolemaaDoor
/- slices.Reverse of digests (printed by gen36v.py). -/
namespace Go.Proofs.YtbonebmboolemaaDoor
open Go.RowKit
def setL (cs : List Value) : Nat → List Value → List Value
  | _, [] => cs
  | o, v :: r => setL (cs.set o v) (o + 1) r
theorem cb_setCells {g : Nat} {t : TypeId} : ∀ (vs : List Value) (o : Nat) {w : World} {cs : List Value}, CB w g t cs → CB (w.setCells g o vs) g t (setL cs o vs)
  | [], _, _, _, h => h
  | v :: r, o, _, _, h => cb_setCells r (o + 1) (h.set o v)
theorem setL_mid : ∀ (Y X A B : List Value), X.length = Y.length → setL (A ++ (X ++ B)) A.length Y = A ++ (Y ++ B)
  | [], X, A, B, h => by have : X = [] := List.eq_nil_of_length_eq_zero h; subst this; rfl
  | y :: Y, [], A, B, h => by simp at h
  | y :: Y, x :: X, A, B, h => by
    rw [setL, List.cons_append, List.set_append_right _ _ (Nat.le_refl _), Nat.sub_self, List.set_cons_zero]
    have := setL_mid Y X (A ++ [y]) B (by simpa using h)
    rw [List.length_append, List.length_singleton, List.append_assoc] at this
    rw [List.cons_append]
    exact this.trans (by rw [List.append_assoc]; rfl)
theorem setCells_far (g : Nat) : ∀ (vs : List Value) (o : Nat) (w : World) (k : Nat), k ≠ g → (w.setCells g o vs).heap[k]? = w.heap[k]?
  | [], _, _, _, _ => rfl
  | v :: r, o, w, k, h => (setCells_far g r (o + 1) (w.setCell ⟨g, o, none⟩ v) k h).trans (Below.heap_setCell w ⟨g, o, none⟩ v k h)
theorem setCells_grown {w0 : World} (g : Nat) : ∀ (vs : List Value) (o : Nat) (w : World), w0.grownBy w (some g) → w0.grownBy (w.setCells g o vs) (some g)
  | [], _, _, h => h
  | v :: r, o, w, h => setCells_grown g r (o + 1) _ (grown_trans h (grown_setT w g o v) (.inl rfl))
section
variable {α : Type} {K : EK α} {e : TypeId} {w : World} {base g cap i : Nat} {l : List α}
theorem OwnK.parts (h : OwnK K e w base (.slice (some ⟨g, 0, none⟩) l.length cap) l) (_hi : i < l.length) (x : α) (hx : l[i]? = some x) : ∃ rest : List Value, CB w g e ((K.flat (l.take i)) ++ (K.cells x ++ (K.flat (l.drop (i + 1)) ++ rest))) ∧ base ≤ g ∧ l.length ≤ cap ∧ cap ≤ maxLen ∧ (K.flat l).length + rest.length = cap * K.n := by
  rcases h with ⟨hlen, h0 | ⟨g', cap', cur, h1, hbg, hg, hn, hm, hcs, ht⟩⟩
  · cases h0.1
  · injection h1 with h1 h2 h3
    injection h1 with h1
    injection h1 with h1
    subst h1 h3
    obtain ⟨h6, h7⟩ := List.getElem?_eq_some_iff.1 hx
    have hfl : K.flat l = K.flat (l.take i) ++ (K.cells x ++ K.flat (l.drop (i + 1))) := by
      conv => lhs; rw [← List.take_append_drop i l, List.drop_eq_getElem_cons h6, h7]
      rw [K.flat_append, K.flat_cons]
    refine ⟨cur.toList.drop (l.length * K.n), ?_, hbg, hn, hm, ?_⟩
    · show w.heap[g]? = _
      rw [hg]
      congr 2
      rw [← List.append_assoc (K.cells x), ← List.append_assoc, ← hfl, ← ht, List.take_append_drop]
    · rw [List.length_drop, hlen]
      have h8 : cur.toList.length = cap * K.n := by rw [← hcs]; simp
      have h9 : l.length * K.n ≤ cap * K.n := Nat.mul_le_mul_right _ hn
      rw [h8]; omega
theorem OwnK.rng (h : OwnK K e w base (.slice (some ⟨g, 0, none⟩) l.length cap) l) {x : α} (hx : l[i]? = some x) : w.rangeAt g (i * K.n) (K.cells x) ∧ w.there g (i * K.n) (K.cells x).length := by
  have hi := (List.getElem?_eq_some_iff.1 hx).1
  obtain ⟨rest, hcb, _⟩ := h.parts hi x hx
  have hlt : (K.flat (l.take i)).length = i * K.n := by rw [K.flat_len, List.length_take, Nat.min_eq_left (by omega)]
  have hget : ∀ j, j < (K.cells x).length → w.cell? ⟨g, i * K.n + j, none⟩ = (K.cells x)[j]? := fun j hj => by
    rw [hcb.cell, List.getElem?_append_right (by omega), hlt, Nat.add_sub_cancel_left, List.getElem?_append_left hj]
  refine ⟨fun j u hu => ?_, fun j hj => ⟨?_, hcb.frozen _⟩⟩
  · rw [hget j (List.getElem?_eq_some_iff.1 hu).1]; exact hu
  · rw [hget j hj, List.getElem?_eq_getElem hj]; rfl
theorem OwnK.setEl (h : OwnK K e w base (.slice (some ⟨g, 0, none⟩) l.length cap) l) (hi : i < l.length) (b : α) : OwnK K e (w.setCells g (i * K.n) (K.cells b)) base (.slice (some ⟨g, 0, none⟩) l.length cap) (l.set i b) := by
  have hx : l[i]? = some l[i] := List.getElem?_eq_getElem hi
  obtain ⟨rest, hcb, hb, hnc, hm, hsz⟩ := h.parts hi _ hx
  have hlt : (K.flat (l.take i)).length = i * K.n := by rw [K.flat_len, List.length_take, Nat.min_eq_left (by omega)]
  have h2 := cb_setCells (K.cells b) (i * K.n) hcb
  have h3 := setL_mid (K.cells b) (K.cells l[i]) (K.flat (l.take i)) (K.flat (l.drop (i + 1)) ++ rest) (by rw [K.len, K.len])
  rw [hlt] at h3
  rw [h3] at h2
  have hfl : K.flat (l.set i b) = K.flat (l.take i) ++ (K.cells b ++ K.flat (l.drop (i + 1))) := by
    rw [List.set_eq_take_append_cons_drop, if_pos hi, K.flat_append, K.flat_cons]
  have hfl0 : (K.flat l).length = l.length * K.n := K.flat_len l
  have hfl1 : (K.flat (l.set i b)).length = l.length * K.n := by rw [K.flat_len, List.length_set]
  refine OwnK.mk (K := K) (by rw [List.length_set]) hb h2 hnc hm ?_ ?_
  · rw [← List.append_assoc (K.cells b), ← List.append_assoc, ← hfl]
    rw [List.size_toArray, List.length_append, hfl1]; omega
  · rw [← List.append_assoc (K.cells b), ← List.append_assoc, ← hfl]
    show List.take _ (K.flat (l.set i b) ++ rest) = _
    rw [List.take_append_of_le_length (by rw [hfl1]; exact Nat.le_refl _), List.take_of_length_le (by rw [hfl1]; exact Nat.le_refl _)]
end
theorem dg_rng {e : TypeId} {w : World} {base g cap i : Nat} {l : List Dg} {x : Dg} (h : OwnK digK e w base (.slice (some ⟨g, 0, none⟩) l.length cap) l) (hx : l[i]? = some x) : w.rangeAt g (i * 32) (bcells x.1) ∧ w.there g (i * 32) 32 := by
  have := h.rng hx
  rw [digK.len] at this
  exact this
theorem dg_rngN {e : TypeId} {w : World} {base g cap i n : Nat} {l : List Dg} {x : Dg} (hn : l.length = n) (h : OwnK digK e w base (.slice (some ⟨g, 0, none⟩) n cap) l) (hx : l[i]? = some x) : w.rangeAt g (i * 32) (bcells x.1) ∧ w.there g (i * 32) 32 := by
  subst hn; exact dg_rng h hx
theorem dg_setN {e : TypeId} {w : World} {base g cap i n : Nat} {l : List Dg} (hn : l.length = n) (h : OwnK digK e w base (.slice (some ⟨g, 0, none⟩) n cap) l) (hi : i < l.length) (b : Dg) : OwnK digK e (w.setCells g (i * 32) (bcells b.1)) base (.slice (some ⟨g, 0, none⟩) n cap) (l.set i b) := by
  subst hn; exact h.setEl hi b
section
variable {P : Program} {w : World} {ops : Array Oper} {o : Oper} {a : Act} {K : Act → World → Prop} {Q : Exit → Act → World → Prop} {E : Prop}
theorem wpIf_load_mid (hw : Region.wanted o (yielded ops a.tmps) = true) (ty : TypeId) (x : Operand) (ho : o.op = .load ty x) (b off : Nat) (hx : a.eval x = .pointer (some ⟨b, off, none⟩)) (cs : List Value) (d : TypeDesc) (hc : w.rangeAt b off cs)
    (hu : P.underlying ty = some d) (hd : d.isRow = true) (hi : (P.info? ty).map (·.size) = some cs.length) (h : K (a.put o.dst (.agg cs.toArray)) w) : if Region.wanted o (yielded ops a.tmps) = true then Oper.wp P o a w K Q else E := by
  rw [if_pos hw]; exact wp_load_mid ty x ho b off hx cs d hc hu hd hi h
theorem wpIf_store_mid (hw : Region.wanted o (yielded ops a.tmps) = true) (ty : TypeId) (x y : Operand) (ho : o.op = .store ty x y) (b off : Nat) (cells : Array Value) (hx : a.eval x = .pointer (some ⟨b, off, none⟩)) (hy : a.eval y = .agg cells)
    (ht : w.there b off cells.size) (hi : (P.info? ty).map (·.size) = some cells.size) (h1 : cells.all (·.oneCell') = true) (h : K (a.put o.dst undef) (w.setCells b off cells.toList)) : if Region.wanted o (yielded ops a.tmps) = true then Oper.wp P o a w K Q else E := by
  rw [if_pos hw]; exact wp_store_mid ty x y ho b off cells hx hy ht hi h1 h
end
/-- half-way through -/
def RevI (l m : List Dg) (i : Nat) : Prop := m.length = l.length ∧ ∀ k, k < l.length → m[k]? = if k < i ∨ l.length - 1 - k < i then l[l.length - 1 - k]? else l[k]?
theorem rev_end {l m : List Dg} {i : Nat} (h : RevI l m i) (hi : l.length ≤ 2 * i + 1) : m = l.reverse := by
  apply List.ext_getElem?
  intro k
  by_cases hk : k < l.length
  · rw [h.2 k hk, List.getElem?_reverse hk]
    by_cases hc : k < i ∨ l.length - 1 - k < i
    · rw [if_pos hc]
    · rw [if_neg hc, show l.length - 1 - k = k by omega]
  · rw [List.getElem?_eq_none (by rw [h.1]; omega), List.getElem?_eq_none (by rw [List.length_reverse]; omega)]
theorem rev_step {l m : List Dg} {i : Nat} {x y : Dg} (h : RevI l m i) (hi : 2 * i + 1 < l.length) (hx : m[i]? = some x) (hy : m[l.length - 1 - i]? = some y) : RevI l ((m.set i y).set (l.length - 1 - i) x) (i + 1) := by
  have hxi := h.2 i (by omega)
  have hyi := h.2 (l.length - 1 - i) (by omega)
  rw [if_neg (by omega)] at hxi hyi
  refine ⟨by rw [List.length_set, List.length_set]; exact h.1, fun k hk => ?_⟩
  have hm := h.1
  rw [List.getElem?_set, List.getElem?_set, List.length_set]
  by_cases h1 : l.length - 1 - i = k
  · rw [if_pos h1, if_pos (by omega), if_pos (by omega), show l.length - 1 - k = i by omega, ← hxi, hx]
  · rw [if_neg h1]
    by_cases h2 : i = k
    · rw [if_pos h2, if_pos (by omega), if_pos (by omega), ← h2, ← hyi, hy]
    · rw [if_neg h2, h.2 k hk]
      by_cases hc : k < i ∨ l.length - 1 - k < i
      · rw [if_pos hc, if_pos (by omega)]
      · rw [if_neg hc, if_neg (by omega)]
theorem rev_start (l : List Dg) : RevI l l 0 := ⟨rfl, fun k hk => by rw [if_neg (by omega)]⟩
structure RvRel (l : List Dg) (w : World) (base : Nat) (v : Value) (i j : Value) (wr : World) : Prop where
  h : ∃ (k : Nat) (m : List Dg), 2 * k ≤ l.length + 1 ∧ i = .int .i64 (k : Int) ∧ j = .int .i64 ((l.length : Int) - 1 - k) ∧ RevI l m k ∧ OwnK digK 29 wr base v m ∧ w.grownBy wr v.ownBlock
set_option maxRecDepth 100000 in
set_option maxHeartbeats 4000000 in
theorem reverse_any (l : List Dg) (v : Value) (base : Nat) (w : World) (hO : OwnK digK 29 w base v l) (h64 : l.length ≤ 1000) :
    Calls Tryd.prog 57 #[v] w fun e w' => e = .returned (.tuple #[]) ∧ OwnK digK 29 w' base v l.reverse ∧ w.grownBy w' v.ownBlock := by
  have HO := Lib.hid hO
  obtain ⟨oa, cap, rfl, _⟩ := hO.rd.shape
  have bl : (l.length : Int) ≤ 1000 := by omega
  clear hO h64
  go_enter Tryd.func57, Tryd.ntmps57
  go_wp2_with fail
  go_loopw [2, 3] (fun i j wr => RvRel l w base (.slice oa l.length cap) i j wr) (fun i j _ => (intOf j + 1 - intOf i).toNat)
  case atStart => exact ⟨⟨0, l, by omega, rfl, by simp, rev_start l, HO.out, grown_refl _ _⟩⟩
  case round =>
    obtain ⟨k, m, hk, rfl, rfl, hr, ho, hg⟩ := hrel.h
    have HR := Lib.hid hr; have HO2 := Lib.hid ho; have HG := Lib.hid hg
    clear hrel hr ho hg HO
    by_cases hlt : 2 * k + 1 < l.length
    case neg =>
      have tj : decide ((k : Int) < (l.length : Int) - 1 - (k : Int)) = false := by simp; omega
      have hrv := Lib.hid (rev_end HR.out (by omega))
      go_wp2_with fail
      go_end0
      exact ⟨rfl, by rw [← hrv.out]; exact HO2.out, HG.out⟩
    case pos =>
    obtain ⟨q, hq⟩ : ∃ q, l.length - 1 - k = q := ⟨_, rfl⟩
    have ej : (l.length : Int) - 1 - (k : Int) = (q : Int) := by omega
    have tj : decide ((k : Int) < (q : Int)) = true := by simp; omega
    have tj' : decide (k < q) = true := by simp; omega
    have kl : (k : Int) < (l.length : Int) := by omega
    have ql : (q : Int) < (l.length : Int) := by omega
    have hml : m.length = l.length := HR.out.1
    have qm : q < m.length := by omega
    have km : k < m.length := by omega
    have qn : q < l.length := by omega
    have kn : k < l.length := by omega
    obtain ⟨x, hx⟩ : ∃ x, m[k]? = some x := ⟨_, List.getElem?_eq_getElem (by omega)⟩
    obtain ⟨y, hy⟩ : ∃ y, m[q]? = some y := ⟨_, List.getElem?_eq_getElem (by omega)⟩
    have hst := rev_step HR.out hlt hx (by rw [hq]; exact hy)
    rw [hq] at hst
    obtain ⟨g, cp, cur, hoa, _⟩ : ∃ g cp cur, Value.slice oa l.length cap = .slice (some ⟨g, 0, none⟩) m.length cp ∧ cur = cp := by
      rcases HO2.out.2 with ⟨h0, h1⟩ | ⟨g, cp, cur, h1, _⟩
      · omega
      · exact ⟨g, cp, cp, h1, rfl⟩
    injection hoa with hoa _ _
    subst hoa
    have HS := Lib.hid hst; have Hx := Lib.hid hx; have Hy := Lib.hid hy; have Hq := Lib.hid hq; have Hml := Lib.hid hml; have Hlt := Lib.hid hlt
    have Hxl := Lib.hid x.2; have Hyl := Lib.hid y.2
    clear hst hx hy hml
    rw [ej]
    go_upto_region 3 with fail
    refine wp_region_held_drew (S := fun w' => True) (by kernel_rfl) trivial (fun hHeld => ?_)
    have KO := Lib.hid (HO2.out.ext (Below.refl wr.heap.size wr).drew)
    have KG : Hid (w.grownBy wr.drew (some g)) := ⟨HG.out.os, HG.out.tape, HG.out.output, HG.out.size, HG.out.block⟩
    clear HO2 HG
    generalize wr.drew = w1 at *
    refine take_dst (some 14) (i := 0) (v := ?vV0) rfl rfl (by kernel_rfl) (by kernel_rfl) (by kernel_rfl) (fun _ _ _ h => h) (Or.inl ⟨by rfl, fun wS hSw => ?hyV0⟩) (by assumption) ?restV0
    case hyV0 => (obtain _ := hSw; go_simp; first | done | with_reducible rfl)
    try simp only [Act.put, List.setIfInBounds_toArray, List.set_cons_zero, List.set_cons_succ]
    refine take_dst (some 15) (i := 1) (v := ?vV1) rfl rfl (by kernel_rfl) (by kernel_rfl) (by kernel_rfl) (fun _ _ _ h => h) (Or.inl ⟨by rfl, fun wS hSw => ?hyV1⟩) (by assumption) ?restV1
    case hyV1 => (obtain _ := hSw; go_simp; first | done | with_reducible rfl)
    try simp only [Act.put, List.setIfInBounds_toArray, List.set_cons_zero, List.set_cons_succ]
    refine take_dst (some 16) (i := 2) (v := ?vV2) rfl rfl (by kernel_rfl) (by kernel_rfl) (by kernel_rfl) (fun _ _ _ h => h) (Or.inl ⟨by rfl, fun wS hSw => ?hyV2⟩) (by assumption) ?restV2
    case hyV2 => (obtain _ := hSw; go_simp; first | done | with_reducible rfl)
    try simp only [Act.put, List.setIfInBounds_toArray, List.set_cons_zero, List.set_cons_succ]
    refine take_dst (some 17) (i := 3) (v := ?vV3) rfl rfl (by kernel_rfl) (by kernel_rfl) (by kernel_rfl) (fun _ _ _ h => h) (Or.inl ⟨by rfl, fun wS hSw => ?hyV3⟩) (by assumption) ?restV3
    case hyV3 => (obtain _ := hSw; go_simp; first | done | with_reducible rfl)
    try simp only [Act.put, List.setIfInBounds_toArray, List.set_cons_zero, List.set_cons_succ]
    refine take_dst (some 18) (i := 4) (v := ?vV4) rfl rfl (by kernel_rfl) (by kernel_rfl) (by kernel_rfl) (fun _ _ _ h => h) (Or.inl ⟨by rfl, fun wS hSw => ?hyV4⟩) (by assumption) ?restV4
    case hyV4 => (obtain _ := hSw; go_simp; first | done | with_reducible rfl)
    try simp only [Act.put, List.setIfInBounds_toArray, List.set_cons_zero, List.set_cons_succ]
    refine take_dst (some 19) (i := 5) (v := ?vV5) rfl rfl (by kernel_rfl) (by kernel_rfl) (by kernel_rfl) (fun _ _ _ h => h) (Or.inl ⟨by rfl, fun wS hSw => ?hyV5⟩) (by assumption) ?restV5
    case hyV5 => (obtain _ := hSw; go_simp; first | done | with_reducible rfl)
    try simp only [Act.put, List.setIfInBounds_toArray, List.set_cons_zero, List.set_cons_succ]
    refine take_dst (some 20) (i := 6) (v := ?vV6) rfl rfl (by kernel_rfl) (by kernel_rfl) (by kernel_rfl) (fun _ _ _ h => h) (Or.inl ⟨by rfl, fun wS hSw => ?hyV6⟩) (by assumption) ?restV6
    case hyV6 => (obtain _ := hSw; go_simp; first | done | with_reducible rfl)
    try simp only [Act.put, List.setIfInBounds_toArray, List.set_cons_zero, List.set_cons_succ]
    refine take_dst (some 22) (i := 8) (v := ?vV8) rfl rfl (by kernel_rfl) (by kernel_rfl) (by kernel_rfl) (fun _ _ _ h => h) (Or.inl ⟨by rfl, fun wS hSw => ?hyV8⟩) (by assumption) ?restV8
    case hyV8 => (obtain _ := hSw; go_simp; first | done | with_reducible rfl)
    try simp only [Act.put, List.setIfInBounds_toArray, List.set_cons_zero, List.set_cons_succ]
    refine take_dst (some 23) (i := 9) (v := ?vV9) rfl rfl (by kernel_rfl) (by kernel_rfl) (by kernel_rfl) (fun _ _ _ h => h) (Or.inl ⟨by rfl, fun wS hSw => ?hyV9⟩) (by assumption) ?restV9
    case hyV9 => (obtain _ := hSw; go_simp; first | done | with_reducible rfl)
    try simp only [Act.put, List.setIfInBounds_toArray, List.set_cons_zero, List.set_cons_succ]
    refine take_dst (some 24) (i := 10) (v := ?vV10) rfl rfl (by kernel_rfl) (by kernel_rfl) (by kernel_rfl) (fun _ _ _ h => h) (Or.inl ⟨by rfl, fun wS hSw => ?hyV10⟩) (by assumption) ?restV10
    case hyV10 => (obtain _ := hSw; go_simp; first | done | with_reducible rfl)
    try simp only [Act.put, List.setIfInBounds_toArray, List.set_cons_zero, List.set_cons_succ]
    refine wpAnyH_ready (rs := [7, 11]) (by kernel_rfl) (by simp) ?_
    refine AllReadyH.cons rfl (fun K hK => ?_) (AllReadyH.cons rfl (fun K hK => ?_) AllReadyH.nil)
    · skip
      refine wpIf_load_mid (by rfl) 29 _ rfl g (q * 32) rfl (bcells y.1) _ (dg_rngN Hml.out KO.out Hy.out).1 Tryd.underlying29 rfl (by rw [bcells_length, Hyl.out]; exact dig_sz) ?_
      refine hK.out (Act.put _ (some 21) (.agg (bcells y.1).toArray)) _ trivial (fun hHeld => ?_)
      clear hK K
      try simp only [Act.put, List.setIfInBounds_toArray, List.set_cons_zero, List.set_cons_succ]
      refine wpAnyH_ready (rs := [11]) (by kernel_rfl) (by simp) ?_
      refine AllReadyH.cons rfl (fun K hK => ?_) AllReadyH.nil
      refine wpIf_load_mid (by rfl) 29 _ rfl g (k * 32) rfl (bcells x.1) _ (dg_rngN Hml.out KO.out Hx.out).1 Tryd.underlying29 rfl (by rw [bcells_length, Hxl.out]; exact dig_sz) ?_
      refine hK.out (Act.put _ (some 25) (.agg (bcells x.1).toArray)) _ trivial (fun hHeld => ?_)
      clear hK K
      try simp only [Act.put, List.setIfInBounds_toArray, List.set_cons_zero, List.set_cons_succ]
      refine take_dst (some 26) (i := 12) (v := ?vWa12) rfl rfl (by kernel_rfl) (by kernel_rfl) (by kernel_rfl) (fun _ _ _ h => h) (Or.inl ⟨by rfl, fun wS hSw => ?hyWa12⟩) (by assumption) ?restWa12
      case hyWa12 => (obtain _ := hSw; go_simp; first | done | with_reducible rfl)
      try simp only [Act.put, List.setIfInBounds_toArray, List.set_cons_zero, List.set_cons_succ]
      refine wpAnyH_ready (rs := [13]) (by kernel_rfl) (by simp) ?_
      refine AllReadyH.cons rfl (fun K hK => ?_) AllReadyH.nil
      have hth := Lib.hid ((dg_rngN Hml.out KO.out Hx.out).2)
      have HN := Lib.hid (dg_setN (i := k) Hml.out KO.out (by rw [Hml.out]; have := Hlt.out; omega) y)
      have KN := Lib.hid (setCells_grown g (bcells y.1) (k * 32) w1 KG.out)
      refine wpIf_store_mid (by rfl) 29 _ _ rfl g (k * 32) (bcells y.1).toArray rfl rfl (by rw [List.size_toArray, bcells_length, Hyl.out]; exact hth.out) (by rw [List.size_toArray, bcells_length, Hyl.out]; exact dig_sz) (dig_one y.1) ?_
      change K _ (w1.setCells g (k * 32) (bcells y.1))
      change Hid (OwnK digK 29 (w1.setCells g (k * 32) (bcells y.1)) base _ _) at HN
      generalize hws : w1.setCells g (k * 32) (bcells y.1) = w2 at *
      clear hws hth
      refine hK.out (Act.put _ none undef) w2 trivial (fun hHeld => ?_)
      clear hK K
      try simp only [Act.put]
      have KO2 := Lib.hid HN.out; have KG2 := Lib.hid KN.out
      clear HN KN KO KG
      have hyq : (m.set k y)[q]? = some y := by rw [List.getElem?_set]; rw [if_neg (by have := Hq.out; have := Hlt.out; omega)]; exact Hy.out
      have Hyq := Lib.hid hyq
      clear hyq
      refine take_dst (some 27) (i := 14) (v := ?vXa14) rfl rfl (by kernel_rfl) (by kernel_rfl) (by kernel_rfl) (fun _ _ _ h => h) (Or.inl ⟨by rfl, fun wS hSw => ?hyXa14⟩) (by assumption) ?restXa14
      case hyXa14 => (obtain _ := hSw; go_simp; first | done | with_reducible rfl)
      try simp only [Act.put, List.setIfInBounds_toArray, List.set_cons_zero, List.set_cons_succ]
      refine wpAnyH_ready (rs := [15]) (by kernel_rfl) (by simp) ?_
      refine AllReadyH.cons rfl (fun K hK => ?_) AllReadyH.nil
      have hth := Lib.hid ((dg_rngN (by rw [List.length_set]; exact Hml.out) KO2.out Hyq.out).2)
      have HN := Lib.hid (dg_setN (i := q) (by rw [List.length_set]; exact Hml.out) KO2.out (by rw [List.length_set, Hml.out]; have := Hq.out; have := Hlt.out; omega) x)
      have KN := Lib.hid (setCells_grown g (bcells x.1) (q * 32) w2 KG2.out)
      refine wpIf_store_mid (by rfl) 29 _ _ rfl g (q * 32) (bcells x.1).toArray rfl rfl (by rw [List.size_toArray, bcells_length, Hxl.out]; exact hth.out) (by rw [List.size_toArray, bcells_length, Hxl.out]; exact dig_sz) (dig_one x.1) ?_
      change K _ (w2.setCells g (q * 32) (bcells x.1))
      change Hid (OwnK digK 29 (w2.setCells g (q * 32) (bcells x.1)) base _ _) at HN
      generalize hws : w2.setCells g (q * 32) (bcells x.1) = w3 at *
      clear hws hth
      refine hK.out (Act.put _ none undef) w3 trivial (fun hHeld => ?_)
      clear hK K
      try simp only [Act.put]
      refine wpAnyH_done (by kernel_rfl) ?_ _
      go_wp2_with fail
      go_roundw
      case rel => exact ⟨⟨k + 1, _, by omega, by go_num, by first | (have := Hq.out; congr 1; omega) | (rw [← ej]; congr 1; omega), HS.out, HN.out, KN.out⟩⟩
      case measure => simp [intOf]; omega
    · skip
      refine wpIf_load_mid (by rfl) 29 _ rfl g (k * 32) rfl (bcells x.1) _ (dg_rngN Hml.out KO.out Hx.out).1 Tryd.underlying29 rfl (by rw [bcells_length, Hxl.out]; exact dig_sz) ?_
      refine hK.out (Act.put _ (some 25) (.agg (bcells x.1).toArray)) _ trivial (fun hHeld => ?_)
      clear hK K
      try simp only [Act.put, List.setIfInBounds_toArray, List.set_cons_zero, List.set_cons_succ]
      refine wpAnyH_ready (rs := [7]) (by kernel_rfl) (by simp) ?_
      refine AllReadyH.cons rfl (fun K hK => ?_) AllReadyH.nil
      refine wpIf_load_mid (by rfl) 29 _ rfl g (q * 32) rfl (bcells y.1) _ (dg_rngN Hml.out KO.out Hy.out).1 Tryd.underlying29 rfl (by rw [bcells_length, Hyl.out]; exact dig_sz) ?_
      refine hK.out (Act.put _ (some 21) (.agg (bcells y.1).toArray)) _ trivial (fun hHeld => ?_)
      clear hK K
      try simp only [Act.put, List.setIfInBounds_toArray, List.set_cons_zero, List.set_cons_succ]
      refine take_dst (some 26) (i := 12) (v := ?vWb12) rfl rfl (by kernel_rfl) (by kernel_rfl) (by kernel_rfl) (fun _ _ _ h => h) (Or.inl ⟨by rfl, fun wS hSw => ?hyWb12⟩) (by assumption) ?restWb12
      case hyWb12 => (obtain _ := hSw; go_simp; first | done | with_reducible rfl)
      try simp only [Act.put, List.setIfInBounds_toArray, List.set_cons_zero, List.set_cons_succ]
      refine wpAnyH_ready (rs := [13]) (by kernel_rfl) (by simp) ?_
      refine AllReadyH.cons rfl (fun K hK => ?_) AllReadyH.nil
      have hth := Lib.hid ((dg_rngN Hml.out KO.out Hx.out).2)
      have HN := Lib.hid (dg_setN (i := k) Hml.out KO.out (by rw [Hml.out]; have := Hlt.out; omega) y)
      have KN := Lib.hid (setCells_grown g (bcells y.1) (k * 32) w1 KG.out)
      refine wpIf_store_mid (by rfl) 29 _ _ rfl g (k * 32) (bcells y.1).toArray rfl rfl (by rw [List.size_toArray, bcells_length, Hyl.out]; exact hth.out) (by rw [List.size_toArray, bcells_length, Hyl.out]; exact dig_sz) (dig_one y.1) ?_
      change K _ (w1.setCells g (k * 32) (bcells y.1))
      change Hid (OwnK digK 29 (w1.setCells g (k * 32) (bcells y.1)) base _ _) at HN
      generalize hws : w1.setCells g (k * 32) (bcells y.1) = w2 at *
      clear hws hth
      refine hK.out (Act.put _ none undef) w2 trivial (fun hHeld => ?_)
      clear hK K
      try simp only [Act.put]
      have KO2 := Lib.hid HN.out; have KG2 := Lib.hid KN.out
      clear HN KN KO KG
      have hyq : (m.set k y)[q]? = some y := by rw [List.getElem?_set]; rw [if_neg (by have := Hq.out; have := Hlt.out; omega)]; exact Hy.out
      have Hyq := Lib.hid hyq
      clear hyq
      refine take_dst (some 27) (i := 14) (v := ?vXb14) rfl rfl (by kernel_rfl) (by kernel_rfl) (by kernel_rfl) (fun _ _ _ h => h) (Or.inl ⟨by rfl, fun wS hSw => ?hyXb14⟩) (by assumption) ?restXb14
      case hyXb14 => (obtain _ := hSw; go_simp; first | done | with_reducible rfl)
      try simp only [Act.put, List.setIfInBounds_toArray, List.set_cons_zero, List.set_cons_succ]
      refine wpAnyH_ready (rs := [15]) (by kernel_rfl) (by simp) ?_
      refine AllReadyH.cons rfl (fun K hK => ?_) AllReadyH.nil
      have hth := Lib.hid ((dg_rngN (by rw [List.length_set]; exact Hml.out) KO2.out Hyq.out).2)
      have HN := Lib.hid (dg_setN (i := q) (by rw [List.length_set]; exact Hml.out) KO2.out (by rw [List.length_set, Hml.out]; have := Hq.out; have := Hlt.out; omega) x)
      have KN := Lib.hid (setCells_grown g (bcells x.1) (q * 32) w2 KG2.out)
      refine wpIf_store_mid (by rfl) 29 _ _ rfl g (q * 32) (bcells x.1).toArray rfl rfl (by rw [List.size_toArray, bcells_length, Hxl.out]; exact hth.out) (by rw [List.size_toArray, bcells_length, Hxl.out]; exact dig_sz) (dig_one x.1) ?_
      change K _ (w2.setCells g (q * 32) (bcells x.1))
      change Hid (OwnK digK 29 (w2.setCells g (q * 32) (bcells x.1)) base _ _) at HN
      generalize hws : w2.setCells g (q * 32) (bcells x.1) = w3 at *
      clear hws hth
      refine hK.out (Act.put _ none undef) w3 trivial (fun hHeld => ?_)
      clear hK K
      try simp only [Act.put]
      refine wpAnyH_done (by kernel_rfl) ?_ _
      go_wp2_with fail
      go_roundw
      case rel => exact ⟨⟨k + 1, _, by omega, by go_num, by first | (have := Hq.out; congr 1; omega) | (rw [← ej]; congr 1; omega), HS.out, HN.out, KN.out⟩⟩
      case measure => simp [intOf]; omega
end Go.Proofs.YtbonebmboolemaaDoor
/- the reference: Tree (printed by gen36t.py). -/
namespace Go.Proofs.YtbonebmboolemaaDoor
open Go.RowKit
set_option maxRecDepth 100000 in
set_option maxHeartbeats 2000000 in
theorem rtree_any_nil (l : List Dg) (v : Value) (w : World) (h0 : l.length = 0) (hl : LsAt digK w.heap.size w l v) :
    Calls Tryd.prog 34 #[v] w fun e w' => e = .returned (dv (treeD l).1) ∧ Below w.heap.size w w' := by
  obtain ⟨oa, cap, rfl, _⟩ := hl.shape
  obtain rfl : l = [] := List.eq_nil_of_length_eq_zero h0
  have H0 : Hid (CB (w.alloc ZD) w.heap.size 29 (bcells dgZ.1)) := cb_one w _ _ _ rfl
  have HB := Lib.hid (b_al (w := w) ZD)
  have hrl := (treeD []).2
  obtain ⟨r, hr⟩ : ∃ r, (treeD []).1 = r := ⟨_, rfl⟩
  rw [hr] at hrl ⊢
  have Hr := Lib.hid hr; have Hrl := Lib.hid hrl
  clear hr hrl
  have Hr2 : Hid (tagged emptyT [] = r) := by show _ = _; rw [← Hr.out, treeD_nil]; rfl
  have hcall := Lib.hid (rtagged_any ⟨#[101, 109, 112, 116, 121]⟩ (.slice none 0 0) [] (w.alloc ZD) (by decide) (by decide) (.inl ⟨rfl, none, 0, rfl, Nat.zero_le _⟩))
  clear hl h0
  go_enter Tryd.func34, Tryd.ntmps34
  go_upto_region 1 with fail
  change Code.wp _ _ _ _ (w.alloc ZD)
  generalize hw0 : w.alloc ZD = w0 at *
  clear hw0
  go_wp2_with fail
  refine hcall.out.mono ?_
  rintro e w6 ⟨rfl, hb6⟩
  rw [show tagged (ByteArray.data ⟨#[101, 109, 112, 116, 121]⟩).toList [] = r from Hr2.out]
  have HT : Hid (w6.heap[w.heap.size]? = some (.cells (bcells dgZ.1).toArray 29 (0, 0))) := H0.out.ext hb6
  have HB6 := Lib.hid (below_ext HB.out hb6)
  clear hb6
  go_wp2_with (with_reducible refine wpList_store_d (hgd := rfl) 29 (.tmp 2) (.tmp 7) rfl w.heap.size r Hrl.out rfl rfl 29 _ HT.out rfl dig_sz ?_; intro w7 hc7 hg7 hz7)
  refine bodyPost_ret (v := dv r) (results_cell_row rfl _ _ w.heap.size 29 (bcells r).toArray (0, 0) _ rfl hc7.out Tryd.underlying29 rfl (by rw [List.size_toArray, bcells_length, Hrl.out]; exact dig_sz)) rfl ?_
  exact ⟨rfl, HB6.out.grown hg7.out HB6.out.size (fun k hk => by injection hk; omega)⟩
set_option maxRecDepth 100000 in
set_option maxHeartbeats 2000000 in
theorem rtree_any_one (l : List Dg) (v : Value) (w : World) (h0 : l.length = 1) (hl : LsAt digK w.heap.size w l v) :
    Calls Tryd.prog 34 #[v] w fun e w' => e = .returned (dv (treeD l).1) ∧ Below w.heap.size w w' := by
  obtain ⟨d, rfl⟩ : ∃ d, l = [d] := by
    match l, h0 with
    | [d], _ => exact ⟨d, rfl⟩
  obtain ⟨b, off, cap, rfl, hlc, hcm⟩ := hl.some_at (by simp)
  have H0 : Hid (CB (w.alloc ZD) w.heap.size 29 (bcells dgZ.1)) := cb_one w _ _ _ rfl
  have HB := Lib.hid (b_al (w := w) ZD)
  have hrl := (treeD [d]).2
  obtain ⟨r, hr⟩ : ∃ r, (treeD [d]).1 = r := ⟨_, rfl⟩
  rw [hr] at hrl ⊢
  have Hr := Lib.hid hr; have Hrl := Lib.hid hrl
  clear hr hrl
  have hrg := LsAt.range rfl (hl.ext HB.out) (j := 0) (d := d) rfl
  rw [Nat.zero_mul, Nat.add_zero] at hrg
  have Hrg := Lib.hid hrg
  have hbt : BtsAt (w.alloc ZD).heap.size (w.alloc ZD) d.1 (.slice (some ⟨b, off, none⟩) 32 32) := by
    rcases hl.ext HB.out with ⟨h, _⟩ | ⟨b2, off2, cap2, h1, _, _, h4, _⟩
    · cases h
    · injection h1 with h1 _ _
      injection h1 with h1
      injection h1 with h7 h8
      subst h7 h8
      exact BtsAt.mk' d.2.symm (by omega) (by unfold maxLen; omega) h4 fun j c hj => Hrg.out j _ (by rw [bcells, List.getElem?_map, hj]; rfl)
  have hcall := Lib.hid (rtagged_any ⟨#[108, 101, 97, 102]⟩ _ d.1 (w.alloc ZD) (by decide) (by rw [d.2]; decide) hbt)
  have Hr2 : Hid (tagged leafT d.1 = r) := by show _ = _; rw [← Hr.out, treeD_one]; rfl
  clear hl h0 hlc hcm hrg hbt
  go_enter Tryd.func34, Tryd.ntmps34
  go_upto_region 1 with fail
  change Code.wp _ _ _ _ (w.alloc ZD)
  generalize hw0 : w.alloc ZD = w0 at *
  clear hw0
  go_wp2_with fail
  refine hcall.out.mono ?_
  rintro e w6 ⟨rfl, hb6⟩
  rw [show tagged (ByteArray.data ⟨#[108, 101, 97, 102]⟩).toList d.1 = r from Hr2.out]
  have HT : Hid (w6.heap[w.heap.size]? = some (.cells (bcells dgZ.1).toArray 29 (0, 0))) := H0.out.ext hb6
  have HB6 := Lib.hid (below_ext HB.out hb6)
  clear hb6
  go_wp2_with (with_reducible refine wpList_store_d (hgd := rfl) 29 (.tmp 2) (.tmp 14) rfl w.heap.size r Hrl.out rfl rfl 29 _ HT.out rfl dig_sz ?_; intro w7 hc7 hg7 hz7)
  refine bodyPost_ret (v := dv r) (results_cell_row rfl _ _ w.heap.size 29 (bcells r).toArray (0, 0) _ rfl hc7.out Tryd.underlying29 rfl (by rw [List.size_toArray, bcells_length, Hrl.out]; exact dig_sz)) rfl ?_
  exact ⟨rfl, HB6.out.grown hg7.out HB6.out.size (fun k hk => by injection hk; omega)⟩
set_option maxRecDepth 100000 in
set_option maxHeartbeats 4000000 in
theorem rtree_any : ∀ (n : Nat) (l : List Dg) (v : Value) (w : World), l.length ≤ n → l.length ≤ 64 → LsAt digK w.heap.size w l v → 
    Calls Tryd.prog 34 #[v] w fun e w' => e = .returned (dv (treeD l).1) ∧ Below w.heap.size w w' := by
  intro n
  induction n with
  | zero => intro l v w hn h64 hl; exact rtree_any_nil l v w (by omega) hl
  | succ n ih =>
    intro l v w hn h64 hl
    by_cases h0 : l.length = 0
    · exact rtree_any_nil l v w h0 hl
    by_cases h1 : l.length = 1
    · exact rtree_any_one l v w h1 hl
    have h2 : 2 ≤ l.length := by omega
    have hne : l ≠ [] := by intro e; rw [e] at h0; simp at h0
    obtain ⟨b, off, cap, rfl, hlc, hcm⟩ := hl.some_at hne
    obtain ⟨a1, a2, a3⟩ := half_lt h2
    have HH := Lib.hid (rhalf_any l.length (w.alloc ZD) h2 h64)
    obtain ⟨k, hk⟩ : ∃ k, halfN l.length = k := ⟨_, rfl⟩
    rw [hk] at HH a1 a2 a3
    have hlt1 : (l.take k).length ≤ n := by rw [List.length_take]; omega
    have hlt2 : (l.drop k).length ≤ n := by rw [List.length_drop]; omega
    have ht1 : (l.take k).length ≤ 64 := by rw [List.length_take]; omega
    have ht2 : (l.drop k).length ≤ 64 := by rw [List.length_drop]; omega
    have HT1 := Lib.hid (fun W hb => ih (l.take k) (.slice (some ⟨b, off, none⟩) k cap) W hlt1 ht1 ((hl.ext hb).takeS k hne (by omega)))
    have HT2 := Lib.hid (fun W hb => ih (l.drop k) (.slice (some ⟨b, off + k * 32, none⟩) (l.length - k) (cap - k)) W hlt2 ht2 ((hl.ext hb).dropS k _ _ hne (by omega) rfl rfl))
    have hres := treeD_two h2
    rw [hk] at hres
    obtain ⟨x, hx⟩ : ∃ x, treeD (l.take k) = x := ⟨_, rfl⟩
    obtain ⟨y, hy⟩ : ∃ y, treeD (l.drop k) = y := ⟨_, rfl⟩
    rw [hx] at HT1 hres; rw [hy] at HT2 hres
    have hxl := x.2; have hyl := y.2
    have hrl := (treeD l).2
    obtain ⟨r, hr⟩ : ∃ r, (treeD l).1 = r := ⟨_, rfl⟩
    have HRR : Hid ((nodeD x y).1 = r) := by show _ = _; rw [← hres, hr]
    rw [hr] at hrl ⊢
    have Hrl := Lib.hid hrl
    skip
    have b1 : (1 : Int) ≤ (k : Int) := by omega
    have b2 : (k : Int) < (l.length : Int) := by omega
    have b3 : (l.length : Int) ≤ (cap : Int) := by omega
    have b4 : (l.length : Int) ≤ 64 := by omega
    have b5 : (cap : Int) ≤ 9223372036854775807 := by unfold maxLen at hcm; omega
    have e0 : ((l.length : Int) == 0) = false := by rw [beq_eq_false_iff_ne]; omega
    have e1 : ((l.length : Int) == 1) = false := by rw [beq_eq_false_iff_ne]; omega
    have e2 : (cap = k) = False := by apply propext; constructor; (intro e; omega); (intro h; cases h)
    have e4 : k ≤ cap := by omega
    have e5 : k ≤ l.length := by omega
    have e3 : (l.length : Int) - (k : Int) = ((l.length - k : Nat) : Int) := by omega
    have H0 : Hid (CB (w.alloc ZD) w.heap.size 29 (bcells dgZ.1)) := cb_one w _ _ _ rfl
    have HB := Lib.hid (b_al (w := w) ZD)
    clear hn h64 hl h0 h1 h2 hne hlc hcm a1 a2 a3 hk hlt1 hlt2 ht1 ht2 hres hx hy hr hrl ih
    go_enter Tryd.func34, Tryd.ntmps34
    go_upto_region 1 with fail
    change Code.wp _ _ _ _ (w.alloc ZD)
    generalize hw0 : w.alloc ZD = w0 at *
    clear hw0
    go_upto_region 6 with (go_at_call 55; refine HH.out.mono ?_; rintro e w' ⟨rfl, rfl⟩)
    refine wp_region_held_drew (S := fun w' => True) (by kernel_rfl) trivial (fun hHeld => ?_)
    have K0 := Lib.hid (H0.out.ext (Below.refl w0.heap.size w0).drew); have KB := Lib.hid HB.out.drew
    clear H0 HB
    generalize w0.drew = w1 at *
    refine take_dst (some 18) (i := 0) (v := ?vT0) rfl rfl (by kernel_rfl) (by kernel_rfl) (by kernel_rfl) (fun _ _ _ h => h) (Or.inl ⟨by rfl, fun wS hSw => ?hyT0⟩) (by assumption) ?restT0
    case hyT0 => (obtain _ := hSw; go_simp; first | done | with_reducible rfl)
    try simp only [Act.put, List.setIfInBounds_toArray, List.set_cons_zero, List.set_cons_succ]
    refine take_dst (some 19) (i := 1) (v := ?vT1) rfl rfl (by kernel_rfl) (by kernel_rfl) (by kernel_rfl) (fun _ _ _ h => h) (Or.inl ⟨by rfl, fun wS hSw => ?hyT1⟩) (by assumption) ?restT1
    case hyT1 => (obtain _ := hSw; go_simp; first | done | with_reducible rfl)
    try simp only [Act.put, List.setIfInBounds_toArray, List.set_cons_zero, List.set_cons_succ]
    refine take_dst (some 20) (i := 2) (v := ?vT2) rfl rfl (by kernel_rfl) (by kernel_rfl) (by kernel_rfl) (fun _ _ _ h => h) (Or.inl ⟨by rfl, fun wS hSw => ?hyT2⟩) (by assumption) ?restT2
    case hyT2 => (obtain _ := hSw; go_simp; first | done | with_reducible rfl)
    try simp only [Act.put, List.setIfInBounds_toArray, List.set_cons_zero, List.set_cons_succ]
    refine take_dst (some 22) (i := 4) (v := ?vT4) rfl rfl (by kernel_rfl) (by kernel_rfl) (by kernel_rfl) (fun _ _ _ h => h) (Or.inl ⟨by rfl, fun wS hSw => ?hyT4⟩) (by assumption) ?restT4
    case hyT4 => (obtain _ := hSw; go_simp; first | done | with_reducible rfl)
    try simp only [Act.put, List.setIfInBounds_toArray, List.set_cons_zero, List.set_cons_succ]
    refine take_dst (some 23) (i := 5) (v := ?vT5) rfl rfl (by kernel_rfl) (by kernel_rfl) (by kernel_rfl) (fun _ _ _ h => h) (Or.inl ⟨by rfl, fun wS hSw => ?hyT5⟩) (by assumption) ?restT5
    case hyT5 => (obtain _ := hSw; go_simp; first | done | with_reducible rfl)
    try simp only [Act.put, List.setIfInBounds_toArray, List.set_cons_zero, List.set_cons_succ]
    refine take_dst (some 24) (i := 6) (v := ?vT6) rfl rfl (by kernel_rfl) (by kernel_rfl) (by kernel_rfl) (fun _ _ _ h => h) (Or.inl ⟨by rfl, fun wS hSw => ?hyT6⟩) (by assumption) ?restT6
    case hyT6 => (obtain _ := hSw; go_simp; first | done | with_reducible rfl)
    try simp only [Act.put, List.setIfInBounds_toArray, List.set_cons_zero, List.set_cons_succ]
    refine wpAnyH_ready (rs := [3]) (by kernel_rfl) (by simp) ?_
    refine AllReadyH.cons rfl (fun K hK => ?_) AllReadyH.nil
    go_simp
    refine (HT1.out w1 KB.out).mono ?_
    rintro e w2 ⟨rfl, hb2⟩
    have K02 := Lib.hid (K0.out.ext hb2); have KB2 := Lib.hid (below_ext KB.out hb2)
    clear hb2 K0 KB
    refine hK.out _ _ trivial (fun hHeld => ?_)
    clear hK K
    try simp only [Act.put, List.setIfInBounds_toArray, List.set_cons_zero, List.set_cons_succ]
    refine wpAnyH_ready (rs := [7]) (by kernel_rfl) (by simp) ?_
    refine AllReadyH.cons rfl (fun K hK => ?_) AllReadyH.nil
    go_simp
    refine (HT2.out w2 KB2.out).mono ?_
    rintro e w3 ⟨rfl, hb3⟩
    have K03 := Lib.hid (K02.out.ext hb3); have KB3 := Lib.hid (below_ext KB2.out hb3)
    clear hb3 K02 KB2
    refine hK.out _ _ trivial (fun hHeld => ?_)
    clear hK K
    try simp only [Act.put, List.setIfInBounds_toArray, List.set_cons_zero, List.set_cons_succ]
    refine wpAnyH_ready (rs := [8]) (by kernel_rfl) (by simp) ?_
    refine AllReadyH.cons rfl (fun K hK => ?_) AllReadyH.nil
    have hnode := Lib.hid (rnode_any x y w3)
    rw [HRR.out] at hnode
    go_simp
    refine hnode.out.mono ?_
    rintro e w4 ⟨rfl, hb4⟩
    have HT : Hid (w4.heap[w.heap.size]? = some (.cells (bcells dgZ.1).toArray 29 (0, 0))) := K03.out.ext hb4
    have HB6 := Lib.hid (below_ext KB3.out hb4)
    clear hb4 hnode K03 KB3
    refine hK.out _ _ trivial (fun hHeld => ?_)
    clear hK K
    try simp only [Act.put, List.setIfInBounds_toArray, List.set_cons_zero, List.set_cons_succ]
    refine wpAnyH_ready (rs := [9]) (by kernel_rfl) (by simp) ?_
    refine AllReadyH.cons rfl (fun K hK => ?_) AllReadyH.nil
    refine wpIf_store_d (by rfl) 29 (.tmp 2) (.tmp 26) rfl w.heap.size r Hrl.out rfl rfl 29 _ HT.out rfl dig_sz ?_
    intro w7 hc7 hg7 hz7
    refine hK.out (Act.put _ none undef) w7 trivial (fun hHeld => ?_)
    clear hK K
    try simp only [Act.put]
    refine wpAnyH_done (by kernel_rfl) ?_ _
    go_wp2_with fail
    refine bodyPost_ret (v := dv r) (results_cell_row rfl _ _ w.heap.size 29 (bcells r).toArray (0, 0) _ rfl hc7.out Tryd.underlying29 rfl (by rw [List.size_toArray, bcells_length, Hrl.out]; exact dig_sz)) rfl ?_
    exact ⟨rfl, HB6.out.grown hg7.out HB6.out.size (fun k hk => by injection hk; omega)⟩
theorem rtree_is {l : List Dg} {v : Value} {w : World} (h : l.length ≤ 64) (hl : LsAt digK w.heap.size w l v) : Calls Tryd.prog 34 #[v] w fun e w' => e = .returned (dv (treeD l).1) ∧ Below w.heap.size w w' := rtree_any l.length l v w (Nat.le_refl _) h hl
end Go.Proofs.YtbonebmboolemaaDoor
