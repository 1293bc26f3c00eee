/- Merged: Trc Trk Tpr. -/
import Derived.Test.YtbonebmboolemaaDoorK23
import Derived.Test.YtbonebmboolemaaDoorK27
import Derived.Test.YtbonebmboolemaaDoorK31
/- the reference's length, climb, Climb (printed by gen36l.py). -/
namespace Go.Proofs.YtbonebmboolemaaDoor
open Go.RowKit
theorem cb_rng {w : World} {g : Nat} {t : TypeId} {cs : List Value} (h : CB w g t cs) : w.rangeAt g 0 cs := fun i u hu => by rw [Nat.zero_add, h.cell]; exact hu
set_option maxRecDepth 100000 in
set_option maxHeartbeats 1000000 in
theorem length_any : ∀ (N n a : Nat) (w : World), n ≤ N → n ≤ 64 → a < n →
    Calls Tryd.prog 62 #[.int .i64 (a : Int), .int .i64 (n : Int)] w fun e w' => e = .returned (.int .i64 ((firsts n a).length : Int)) ∧ w = w' := by
  intro N
  induction N with
  | zero => intro n a w h1 _ h2; omega
  | succ N ih =>
    intro n a w hn h64 ha
    by_cases h1 : n = 1
    · subst h1
      rw [firsts_one a (Nat.le_refl _)]
      clear ih hn h64 ha
      go_enter Tryd.func62, Tryd.ntmps62
      go_wp2_with fail
      go_ret
      exact ⟨rfl, rfl⟩
    have h2 : 2 ≤ n := by omega
    have t1 : decide ((n : Int) = 1) = false := by simp; omega
    have t1' : decide (n = 1) = false := by simpa using h1
    have e0 : ((n : Int) == 1) = false := by rw [beq_eq_false_iff_ne]; omega
    obtain ⟨a1, a2, a3⟩ := half_lt h2
    have HH := Lib.hid (rhalf_any n w h2 h64)
    have Hlt := fun (h : a < halfN n) => firsts_lt h2 h
    have Hge := fun (h : ¬ a < halfN n) => firsts_ge h2 h
    obtain ⟨k, hk⟩ : ∃ k, halfN n = k := ⟨_, rfl⟩
    rw [hk] at HH a1 a2 a3 Hlt Hge
    clear hk
    have b4 : (n : Int) ≤ 64 := by omega
    have b6 : (a : Int) < (n : Int) := by omega
    by_cases hak : a < k
    · have tk : decide ((a : Int) < (k : Int)) = true := by simp; omega
      have tk' : decide (a < k) = true := by simp; omega
      have hr := ih k a w (by omega) (by omega) hak
      have hfl := firsts_len k a
      have hst := congrArg List.length (Hlt hak)
      rw [List.length_cons] at hst
      obtain ⟨m, hm⟩ : ∃ m, (firsts k a).length = m := ⟨_, rfl⟩
      rw [hm] at hr hfl hst
      have HR := Lib.hid hr; have HST := Lib.hid hst
      have m1 : (m : Int) ≤ 64 := by omega
      have m2 : (1 : Int) + (m : Int) = ((m + 1 : Nat) : Int) := by omega
      have m3 : IntKind.i64.wrap ((m + 1 : Nat) : Int) = ((m + 1 : Nat) : Int) := IntWalk.i64_in _ (by omega)
      rw [HST.out]
      clear Hlt Hge ih hm hr hst hn h64
      go_enter Tryd.func62, Tryd.ntmps62
      go_wp2_with (first
        | (go_at_call 55; refine HH.out.mono ?_; rintro e w' ⟨rfl, rfl⟩)
        | (go_at_call 62; refine HR.out.mono ?_; rintro e w' ⟨rfl, rfl⟩))
      go_ret
      exact ⟨by first | rfl | (rw [m2, m3]), rfl⟩
    · have tk : decide ((a : Int) < (k : Int)) = false := by simp; omega
      have tk' : decide (a < k) = false := by simp; omega
      have hr := ih (n - k) (a - k) w (by omega) (by omega) (by omega)
      have hfl := firsts_len (n - k) (a - k)
      have hst := congrArg List.length (Hge hak)
      rw [List.length_cons] at hst
      obtain ⟨m, hm⟩ : ∃ m, (firsts (n - k) (a - k)).length = m := ⟨_, rfl⟩
      rw [hm] at hr hfl hst
      have HR := Lib.hid hr; have HST := Lib.hid hst
      have m1 : (m : Int) ≤ 64 := by omega
      have m2 : (1 : Int) + (m : Int) = ((m + 1 : Nat) : Int) := by omega
      have m3 : IntKind.i64.wrap ((m + 1 : Nat) : Int) = ((m + 1 : Nat) : Int) := IntWalk.i64_in _ (by omega)
      have e3 : (a : Int) - (k : Int) = ((a - k : Nat) : Int) := by omega
      have e3w : IntKind.i64.wrap ((a - k : Nat) : Int) = ((a - k : Nat) : Int) := IntWalk.i64_in _ (by omega)
      have e4 : (n : Int) - (k : Int) = ((n - k : Nat) : Int) := by omega
      have e4w : IntKind.i64.wrap ((n - k : Nat) : Int) = ((n - k : Nat) : Int) := IntWalk.i64_in _ (by omega)
      rw [HST.out]
      clear Hlt Hge ih hm hr hst hn h64
      go_enter Tryd.func62, Tryd.ntmps62
      go_wp2_with (first
        | (go_at_call 55; refine HH.out.mono ?_; rintro e w' ⟨rfl, rfl⟩)
        | (go_at_call 62; refine HR.out.mono ?_; rintro e w' ⟨rfl, rfl⟩))
      go_ret
      exact ⟨by first | rfl | (rw [m2, m3]), rfl⟩
set_option maxRecDepth 100000 in
set_option maxHeartbeats 4000000 in
theorem rclimb_any : ∀ (N : Nat) (d : Dg) (a n : Nat) (p : List Dg) (v : Value) (w : World), n ≤ N → n ≤ 64 → a < n → p.length = (firsts n a).length → LsAt digK w.heap.size w p v →
    Calls Tryd.prog 63 #[dv d.1, .int .i64 (a : Int), .int .i64 (n : Int), v] w fun e w' => e = .returned (dv (riseD d n a p).1) ∧ Below w.heap.size w w' := by
  intro N
  induction N with
  | zero => intro d a n p v w h1 _ h2; omega
  | succ N ih =>
    intro d a n p v w hn h64 ha hpl hv
    have Hdl := Lib.hid d.2
    have H4 : Hid (CB ((w.alloc (bD d)).alloc ZD) w.heap.size 29 (bcells d.1)) := (cb_one w _ _ _ rfl).alloc _
    have H8 : Hid (CB ((w.alloc (bD d)).alloc ZD) (w.heap.size + 1) 29 (bcells dgZ.1)) := by
      have := cb_one (w.alloc (bD d)) ZD _ _ rfl
      rw [World.size_alloc] at this; exact this
    have HB : Hid (Below w.heap.size w ((w.alloc (bD d)).alloc ZD)) := by
      refine Below.alloc ((Below.refl w.heap.size w).alloc (Nat.le_refl _) _) ?_ _; simp only [World.size_alloc]; omega
    have HS : Hid (((w.alloc (bD d)).alloc ZD).heap.size = w.heap.size + 2) := by show _ = _; rw [World.size_alloc, World.size_alloc]
    by_cases h1 : n = 1
    · subst h1
      rw [firsts_one a (Nat.le_refl _)] at hpl
      obtain rfl : p = [] := List.eq_nil_of_length_eq_zero hpl
      rw [rise_one (Nat.le_refl _)]
      obtain ⟨oa, cap, rfl, _⟩ := hv.shape
      have hrl := (leafD d).2
      obtain ⟨r, hr⟩ : ∃ r, (leafD d).1 = r := ⟨_, rfl⟩
      have Hr : Hid (tagged leafT d.1 = r) := hr
      rw [hr] at hrl ⊢
      have Hrl := Lib.hid hrl
      clear ih hn h64 ha hv hpl hr hrl HS
      change Calls Tryd.prog 63 #[.agg (bcells d.1).toArray, _, _, _] w _
      go_enter Tryd.func63, Tryd.ntmps63
      go_upto_region 1 with fail
      change Code.wp _ _ _ _ ((w.alloc (bD d)).alloc ZD)
      generalize (w.alloc (bD d)).alloc ZD = w0 at *
      have hcall := Lib.hid (rtagged_any ⟨#[108, 101, 97, 102]⟩ _ d.1 w0 (by decide) (by rw [Hdl.out]; decide) (dig_bts H4.out Hdl.out))
      go_wp2_with fail
      refine hcall.out.mono ?_
      rintro e w6 ⟨rfl, hb6⟩
      rw [show tagged (ByteArray.data ⟨#[108, 101, 97, 102]⟩).toList d.1 = r from Hr.out]
      have HT : Hid (w6.heap[w.heap.size + 1]? = some (.cells (bcells dgZ.1).toArray 29 (0, 0))) := H8.out.ext hb6
      have HB6 := Lib.hid (below_ext HB.out hb6)
      clear hb6
      go_wp2_with (with_reducible refine wpList_store_d (hgd := rfl) 29 (.tmp 8) (.tmp 14) rfl (w.heap.size + 1) r Hrl.out rfl rfl 29 _ HT.out rfl dig_sz ?_; intro w7 hc7 hg7 hz7)
      refine bodyPost_ret (v := dv r) (results_cell_row rfl _ _ (w.heap.size + 1) 29 (bcells r).toArray (0, 0) _ rfl hc7.out Tryd.underlying29 rfl (by rw [List.size_toArray, bcells_length, Hrl.out]; exact dig_sz)) rfl ?_
      exact ⟨rfl, HB6.out.grown hg7.out HB6.out.size (fun k hk => by injection hk; omega)⟩
    have h2 : 2 ≤ n := by omega
    have t1 : decide ((n : Int) = 1) = false := by simp; omega
    have t1' : decide (n = 1) = false := by simpa using h1
    have e0 : ((n : Int) == 1) = false := by rw [beq_eq_false_iff_ne]; omega
    obtain ⟨a1, a2, a3⟩ := half_lt h2
    have HH : Hid (∀ W, _) := Lib.hid (fun W => rhalf_any n W h2 h64)
    have Hlt := fun (h : a < halfN n) => firsts_lt h2 h
    have Hge := fun (h : ¬ a < halfN n) => firsts_ge h2 h
    obtain ⟨k, hk⟩ : ∃ k, halfN n = k := ⟨_, rfl⟩
    rw [hk] at HH a1 a2 a3 Hlt Hge
    have b4 : (n : Int) ≤ 64 := by omega
    have b6 : (a : Int) < (n : Int) := by omega
    have hfl := firsts_len n a
    have hp1 : 1 ≤ p.length := by
      rw [hpl]
      by_cases hak : a < k
      · rw [Hlt hak]; simp
      · rw [Hge hak]; simp
    have hle : p ≠ [] := by intro e; rw [e] at hp1; simp at hp1
    obtain ⟨m, hm⟩ : ∃ m, p.length = m + 1 := ⟨p.length - 1, by omega⟩
    obtain ⟨y, hy⟩ : ∃ y, p[m]? = some y := ⟨_, List.getElem?_eq_getElem (by omega)⟩
    have hsplit : p.take m ++ [y] = p := by
      have := List.take_add_one (l := p) (i := m)
      rw [hy, List.take_of_length_le (by omega)] at this
      exact this.symm
    have Hyl := Lib.hid y.2
    obtain ⟨b, off, cap, rfl, hlc, hcm⟩ := hv.some_at hle
    have c1 : (p.length : Int) ≤ 64 := by omega
    have c2 : (p.length : Int) - 1 = (m : Int) := by omega
    have c3 : (m : Int) < (p.length : Int) := by omega
    have c2w : IntKind.i64.wrap (m : Int) = (m : Int) := IntWalk.i64_in _ (by omega)
    have c4 : m ≤ cap := by omega
    have c5 : (m : Int) ≤ (cap : Int) := by omega
    have c6 : (0 : Int) < (p.length : Int) := by omega
    by_cases hak : a < k
    · have tk : decide ((a : Int) < (k : Int)) = true := by simp; omega
      have tk' : decide (a < k) = true := by simp; omega
      have HR : Hid (∀ W, Below w.heap.size w W → Calls Tryd.prog 63 #[dv d.1, .int .i64 (a : Int), .int .i64 (k : Int), .slice (some ⟨b, off, none⟩) m cap] W fun e w' => e = .returned (dv (riseD d k a (p.take m)).1) ∧ Below W.heap.size W w') := fun W hW =>
        ih d a k (p.take m) _ W (by omega) (by omega) (by omega) (by rw [List.length_take, Nat.min_eq_left (by omega)]; have := congrArg List.length (Hlt hak); rw [List.length_cons] at this; omega) ((hv.ext hW).takeS m hle (by omega))
      have hrs := rise_lt (d := d) (x := y) (n := n) (a := a) (p := p.take m) h2 (by rw [hk]; exact hak) (by rw [hk, List.length_take, Nat.min_eq_left (by omega)]; have := congrArg List.length (Hlt hak); rw [List.length_cons] at this; omega)
      rw [hsplit, hk] at hrs
      obtain ⟨u, hu⟩ : ∃ u, riseD d k a (p.take m) = u := ⟨_, rfl⟩
      rw [hu] at HR hrs
      obtain ⟨z, hz⟩ : ∃ z, riseD d n a p = z := ⟨_, rfl⟩
      rw [hz] at hrs ⊢
      have hzl := z.2
      have HZ : Hid (nodeD u y = z) := hrs.symm
      have Hzl := Lib.hid hzl
      have Hv := Lib.hid hv; have Hy := Lib.hid hy
      clear hv hy ih Hlt Hge hrs hz hu hzl hsplit hn h64 hlc hcm hle hpl hk h2
      change Calls Tryd.prog 63 #[.agg (bcells d.1).toArray, _, _, _] w _
      go_enter Tryd.func63, Tryd.ntmps63
      go_upto_region 1 with fail
      change Code.wp _ _ _ _ ((w.alloc (bD d)).alloc ZD)
      generalize (w.alloc (bD d)).alloc ZD = w0 at *
      go_upto_region 4 with (go_at_call 55; refine (HH.out w0).mono ?_; rintro e w' ⟨rfl, rfl⟩)
      have Hyr := Lib.hid (LsAt.range rfl (Hv.out.ext HB.out) Hy.out)
      have HZ0 : Hid ((w0.alloc ZD).heap[w0.heap.size]? = some (.cells (bcells dgZ.1).toArray 29 (0, 0))) := cb_one w0 ZD _ _ rfl
      rw [HS.out] at HZ0
      have hS := HS.out
      go_upto_region 5 with (first
        | (with_reducible refine wpList_load_mid rfl 29 (.tmp 21) rfl b (off + m * 32) rfl (bcells y.1) _ Hyr.out Tryd.underlying29 rfl (by rw [bcells_length, Hyl.out]; exact dig_sz) ?_)
        | (refine wpList_store_d (hgd := rfl) 29 (.tmp 10) (.tmp 22) rfl (w.heap.size + 2) y.1 Hyl.out rfl rfl 29 _ HZ0.out rfl dig_sz ?_; go_loud (intro w2 hc2 hg2 hz2)))
      change Code.wp _ _ _ _ w2
      have H10 : Hid (CB w2 (w.heap.size + 2) 29 (bcells y.1)) := hc2.out
      have H4' := H4.out.lt; have H8' := H8.out.lt
      have H42 : Hid (CB w2 w.heap.size 29 (bcells d.1)) := (H4.out.alloc ZD).keep (hg2.out.block _ (by rw [World.size_alloc]; omega) (by intro e; injection e; omega))
      have H82 : Hid (CB w2 (w.heap.size + 1) 29 (bcells dgZ.1)) := (H8.out.alloc ZD).keep (hg2.out.block _ (by rw [World.size_alloc]; omega) (by intro e; injection e; omega))
      have HB2 : Hid (Below w.heap.size w w2) := (HB.out.alloc HB.out.size ZD).grown hg2.out (by rw [World.size_alloc]; have := HB.out.size; omega) (fun k hk => by injection hk; omega)
      clear hc2 hg2 hz2 H4 H8 HB HZ0 Hyr H4' H8' hS HS
      have H4 := Lib.hid H42.out; have H8 := Lib.hid H82.out; have HB := Lib.hid HB2.out
      clear H42 H82 HB2
      go_upto_region 6 with fail
      have K4 := Lib.hid (H4.out.ext (Below.refl w2.heap.size w2).drew); have K8 := Lib.hid (H8.out.ext (Below.refl w2.heap.size w2).drew); have K10 := Lib.hid (H10.out.ext (Below.refl w2.heap.size w2).drew); have KB := Lib.hid HB.out.drew
      refine wp_region_held_drew (S := fun w' => w'.rangeAt w.heap.size 0 (bcells d.1) ∧ w'.rangeAt (w.heap.size + 2) 0 (bcells y.1)) (by kernel_rfl) ⟨cb_rng K4.out, cb_rng K10.out⟩ (fun hHeld => ?_)
      clear H4 H8 H10 HB
      generalize w2.drew = w3 at *
      refine take_dst (some 27) (i := 1) (v := ?vP1) rfl rfl (by kernel_rfl) (by kernel_rfl) (by kernel_rfl) (fun _ _ _ h => h) (Or.inl ⟨by rfl, fun wS hSw => ?hyP1⟩) (by assumption) ?restP1
      case hyP1 => (obtain ⟨q1, q2⟩ := hSw; go_simp; first | done | with_reducible rfl)
      try simp only [Act.put, List.setIfInBounds_toArray, List.set_cons_zero, List.set_cons_succ]
      refine take_dst (some 28) (i := 2) (v := ?vP2) rfl rfl (by kernel_rfl) (by kernel_rfl) (by kernel_rfl) (fun _ _ _ h => h) (Or.inl ⟨by rfl, fun wS hSw => ?hyP2⟩) (by assumption) ?restP2
      case hyP2 => (obtain ⟨q1, q2⟩ := hSw; go_simp; first | done | with_reducible rfl)
      try simp only [Act.put, List.setIfInBounds_toArray, List.set_cons_zero, List.set_cons_succ]
      refine take_dst (some 29) (i := 3) (v := ?vP3) rfl rfl (by kernel_rfl) (by kernel_rfl) (by kernel_rfl) (fun _ _ _ h => h) (Or.inl ⟨by rfl, fun wS hSw => ?hyP3⟩) (by assumption) ?restP3
      case hyP3 => (obtain ⟨q1, q2⟩ := hSw; go_simp; first | done | with_reducible rfl)
      try simp only [Act.put, List.setIfInBounds_toArray, List.set_cons_zero, List.set_cons_succ]
      refine take_dst (some 30) (i := 4) (v := ?vP4) rfl rfl (by kernel_rfl) (by kernel_rfl) (by kernel_rfl) (fun _ _ _ h => h) (Or.inl ⟨by rfl, fun wS hSw => ?hyP4⟩) (by assumption) ?restP4
      case hyP4 => (obtain ⟨q1, q2⟩ := hSw; go_simp; first | done | with_reducible rfl)
      try simp only [Act.put, List.setIfInBounds_toArray, List.set_cons_zero, List.set_cons_succ]
      refine take_dst (some 31) (i := 5) (v := ?vP5) rfl rfl (by kernel_rfl) (by kernel_rfl) (by kernel_rfl) (fun _ _ _ h => h) (Or.inl ⟨by rfl, fun wS hSw => ?hyP5⟩) (by assumption) ?restP5
      case hyP5 => (obtain ⟨q1, q2⟩ := hSw; go_simp; first | done | with_reducible rfl)
      try simp only [Act.put, List.setIfInBounds_toArray, List.set_cons_zero, List.set_cons_succ]
      refine take_dst (some 32) (i := 6) (v := ?vP6) rfl rfl (by kernel_rfl) (by kernel_rfl) (by kernel_rfl) (fun _ _ _ h => h) (Or.inl ⟨by rfl, fun wS hSw => ?hyP6⟩) (by assumption) ?restP6
      case hyP6 => (obtain ⟨q1, q2⟩ := hSw; go_simp; first | done | with_reducible rfl)
      try simp only [Act.put, List.setIfInBounds_toArray, List.set_cons_zero, List.set_cons_succ]
      refine take_dst (some 33) (i := 7) (v := ?vP7) rfl rfl (by kernel_rfl) (by kernel_rfl) (by kernel_rfl) (fun _ _ _ h => h) (Or.inl ⟨by rfl, fun wS hSw => ?hyP7⟩) (by assumption) ?restP7
      case hyP7 => (obtain ⟨q1, q2⟩ := hSw; go_simp; first | done | with_reducible rfl)
      try simp only [Act.put, List.setIfInBounds_toArray, List.set_cons_zero, List.set_cons_succ]
      refine take_dst (some 26) (i := 0) (v := dv d.1) rfl rfl (by kernel_rfl) (by kernel_rfl) (by kernel_rfl) (fun _ _ _ h => h) (yieldsIf_load_mid (by rfl) 29 _ rfl w.heap.size 0 rfl (bcells d.1) _ (fun wS hSw => by obtain ⟨q1, q2⟩ := hSw; exact q1) Tryd.underlying29 rfl (by rw [bcells_length, Hdl.out]; exact dig_sz)) (by assumption) ?restP0
      try simp only [Act.put, List.setIfInBounds_toArray, List.set_cons_zero, List.set_cons_succ]
      refine take_dst (some 35) (i := 9) (v := dv y.1) rfl rfl (by kernel_rfl) (by kernel_rfl) (by kernel_rfl) (fun _ _ _ h => h) (yieldsIf_load_mid (by rfl) 29 _ rfl (w.heap.size + 2) 0 rfl (bcells y.1) _ (fun wS hSw => by obtain ⟨q1, q2⟩ := hSw; exact q2) Tryd.underlying29 rfl (by rw [bcells_length, Hyl.out]; exact dig_sz)) (by assumption) ?restP9
      try simp only [Act.put, List.setIfInBounds_toArray, List.set_cons_zero, List.set_cons_succ]
      refine wpAnyH_ready (rs := [8]) (by kernel_rfl) (by simp) ?_
      refine AllReadyH.cons rfl (fun K hK => ?_) AllReadyH.nil
      go_simp
      refine (HR.out w3 KB.out).mono ?_
      rintro e w4 ⟨rfl, hb4⟩
      have K44 := Lib.hid (K4.out.ext hb4); have K84 := Lib.hid (K8.out.ext hb4); have K104 := Lib.hid (K10.out.ext hb4); have KB4 := Lib.hid (below_ext KB.out hb4)
      clear hb4 K4 K8 K10 KB
      refine hK.out _ _ ⟨cb_rng K44.out, cb_rng K104.out⟩ (fun hHeld => ?_)
      clear hK K
      try simp only [Act.put, List.setIfInBounds_toArray, List.set_cons_zero, List.set_cons_succ]
      refine wpAnyH_ready (rs := [10]) (by kernel_rfl) (by simp) ?_
      refine AllReadyH.cons rfl (fun K hK => ?_) AllReadyH.nil
      have hnode := Lib.hid (rnode_any u y w4)
      rw [show nodeD u y = z from HZ.out] at hnode
      go_simp
      refine hnode.out.mono ?_
      rintro e w5 ⟨rfl, hb5⟩
      have K45 := Lib.hid (K44.out.ext hb5); have K85 : Hid (w5.heap[w.heap.size + 1]? = some (.cells (bcells dgZ.1).toArray 29 (0, 0))) := K84.out.ext hb5
      have K105 := Lib.hid (K104.out.ext hb5); have KB5 := Lib.hid (below_ext KB4.out hb5)
      clear hb5 hnode K44 K84 K104 KB4
      refine hK.out _ _ ⟨cb_rng K45.out, cb_rng K105.out⟩ (fun hHeld => ?_)
      clear hK K
      try simp only [Act.put, List.setIfInBounds_toArray, List.set_cons_zero, List.set_cons_succ]
      refine wpAnyH_ready (rs := [11]) (by kernel_rfl) (by simp) ?_
      refine AllReadyH.cons rfl (fun K hK => ?_) AllReadyH.nil
      refine wpIf_store_d (by rfl) 29 (.tmp 8) (.tmp 36) rfl (w.heap.size + 1) z.1 Hzl.out rfl rfl 29 _ K85.out rfl dig_sz ?_
      intro w7 hc7 hg7 hz7
      have K47 := Lib.hid (K45.out.keep (hg7.out.block _ K45.out.lt (by intro e; injection e; omega))); have K107 := Lib.hid (K105.out.keep (hg7.out.block _ K105.out.lt (by intro e; injection e; omega)))
      refine hK.out (Act.put _ none undef) w7 ⟨cb_rng K47.out, cb_rng K107.out⟩ (fun hHeld => ?_)
      clear hK K
      try simp only [Act.put]
      refine wpAnyH_done (by kernel_rfl) ?_ _
      go_wp2_with fail
      refine bodyPost_ret (v := dv z.1) (results_cell_row rfl _ _ (w.heap.size + 1) 29 (bcells z.1).toArray (0, 0) _ rfl hc7.out Tryd.underlying29 rfl (by rw [List.size_toArray, bcells_length, Hzl.out]; exact dig_sz)) rfl ?_
      exact ⟨rfl, KB5.out.grown hg7.out KB5.out.size (fun k hk => by injection hk; omega)⟩
    · have tk : decide ((a : Int) < (k : Int)) = false := by simp; omega
      have tk' : decide (a < k) = false := by simp; omega
      have HR : Hid (∀ W, Below w.heap.size w W → Calls Tryd.prog 63 #[dv d.1, .int .i64 ((a - k) : Nat), .int .i64 ((n - k) : Nat), .slice (some ⟨b, off, none⟩) m cap] W fun e w' => e = .returned (dv (riseD d (n - k) (a - k) (p.take m)).1) ∧ Below W.heap.size W w') := fun W hW =>
        ih d (a - k) (n - k) (p.take m) _ W (by omega) (by omega) (by omega) (by rw [List.length_take, Nat.min_eq_left (by omega)]; have := congrArg List.length (Hge hak); rw [List.length_cons] at this; omega) ((hv.ext hW).takeS m hle (by omega))
      have hrs := rise_ge (d := d) (x := y) (n := n) (a := a) (p := p.take m) h2 (by rw [hk]; exact hak) (by rw [hk, List.length_take, Nat.min_eq_left (by omega)]; have := congrArg List.length (Hge hak); rw [List.length_cons] at this; omega)
      rw [hsplit, hk] at hrs
      obtain ⟨u, hu⟩ : ∃ u, riseD d (n - k) (a - k) (p.take m) = u := ⟨_, rfl⟩
      rw [hu] at HR hrs
      obtain ⟨z, hz⟩ : ∃ z, riseD d n a p = z := ⟨_, rfl⟩
      rw [hz] at hrs ⊢
      have hzl := z.2
      have HZ : Hid (nodeD y u = z) := hrs.symm
      have Hzl := Lib.hid hzl
      have e3 : (a : Int) - (k : Int) = ((a - k : Nat) : Int) := by omega
      have e3w : IntKind.i64.wrap ((a - k : Nat) : Int) = ((a - k : Nat) : Int) := IntWalk.i64_in _ (by omega)
      have e4 : (n : Int) - (k : Int) = ((n - k : Nat) : Int) := by omega
      have e4w : IntKind.i64.wrap ((n - k : Nat) : Int) = ((n - k : Nat) : Int) := IntWalk.i64_in _ (by omega)
      have Hv := Lib.hid hv; have Hy := Lib.hid hy
      clear hv hy ih Hlt Hge hrs hz hu hzl hsplit hn h64 hlc hcm hle hpl hk h2
      change Calls Tryd.prog 63 #[.agg (bcells d.1).toArray, _, _, _] w _
      go_enter Tryd.func63, Tryd.ntmps63
      go_upto_region 1 with fail
      change Code.wp _ _ _ _ ((w.alloc (bD d)).alloc ZD)
      generalize (w.alloc (bD d)).alloc ZD = w0 at *
      go_upto_region 4 with (go_at_call 55; refine (HH.out w0).mono ?_; rintro e w' ⟨rfl, rfl⟩)
      have Hyr := Lib.hid (LsAt.range rfl (Hv.out.ext HB.out) Hy.out)
      have HZ0 : Hid ((w0.alloc ZD).heap[w0.heap.size]? = some (.cells (bcells dgZ.1).toArray 29 (0, 0))) := cb_one w0 ZD _ _ rfl
      rw [HS.out] at HZ0
      have hS := HS.out
      go_upto_region 5 with (first
        | (with_reducible refine wpList_load_mid rfl 29 (.tmp 21) rfl b (off + m * 32) rfl (bcells y.1) _ Hyr.out Tryd.underlying29 rfl (by rw [bcells_length, Hyl.out]; exact dig_sz) ?_)
        | (refine wpList_store_d (hgd := rfl) 29 (.tmp 10) (.tmp 22) rfl (w.heap.size + 2) y.1 Hyl.out rfl rfl 29 _ HZ0.out rfl dig_sz ?_; go_loud (intro w2 hc2 hg2 hz2)))
      change Code.wp _ _ _ _ w2
      have H10 : Hid (CB w2 (w.heap.size + 2) 29 (bcells y.1)) := hc2.out
      have H4' := H4.out.lt; have H8' := H8.out.lt
      have H42 : Hid (CB w2 w.heap.size 29 (bcells d.1)) := (H4.out.alloc ZD).keep (hg2.out.block _ (by rw [World.size_alloc]; omega) (by intro e; injection e; omega))
      have H82 : Hid (CB w2 (w.heap.size + 1) 29 (bcells dgZ.1)) := (H8.out.alloc ZD).keep (hg2.out.block _ (by rw [World.size_alloc]; omega) (by intro e; injection e; omega))
      have HB2 : Hid (Below w.heap.size w w2) := (HB.out.alloc HB.out.size ZD).grown hg2.out (by rw [World.size_alloc]; have := HB.out.size; omega) (fun k hk => by injection hk; omega)
      clear hc2 hg2 hz2 H4 H8 HB HZ0 Hyr H4' H8' hS HS
      have H4 := Lib.hid H42.out; have H8 := Lib.hid H82.out; have HB := Lib.hid HB2.out
      clear H42 H82 HB2
      go_upto_region 7 with fail
      have K4 := Lib.hid (H4.out.ext (Below.refl w2.heap.size w2).drew); have K8 := Lib.hid (H8.out.ext (Below.refl w2.heap.size w2).drew); have K10 := Lib.hid (H10.out.ext (Below.refl w2.heap.size w2).drew); have KB := Lib.hid HB.out.drew
      refine wp_region_held_drew (S := fun w' => w'.rangeAt w.heap.size 0 (bcells d.1) ∧ w'.rangeAt (w.heap.size + 2) 0 (bcells y.1)) (by kernel_rfl) ⟨cb_rng K4.out, cb_rng K10.out⟩ (fun hHeld => ?_)
      clear H4 H8 H10 HB
      generalize w2.drew = w3 at *
      refine take_dst (some 39) (i := 2) (v := ?vQ2) rfl rfl (by kernel_rfl) (by kernel_rfl) (by kernel_rfl) (fun _ _ _ h => h) (Or.inl ⟨by rfl, fun wS hSw => ?hyQ2⟩) (by assumption) ?restQ2
      case hyQ2 => (obtain ⟨q1, q2⟩ := hSw; go_simp; first | done | with_reducible rfl)
      try simp only [Act.put, List.setIfInBounds_toArray, List.set_cons_zero, List.set_cons_succ]
      refine take_dst (some 40) (i := 3) (v := ?vQ3) rfl rfl (by kernel_rfl) (by kernel_rfl) (by kernel_rfl) (fun _ _ _ h => h) (Or.inl ⟨by rfl, fun wS hSw => ?hyQ3⟩) (by assumption) ?restQ3
      case hyQ3 => (obtain ⟨q1, q2⟩ := hSw; go_simp; first | done | with_reducible rfl)
      try simp only [Act.put, List.setIfInBounds_toArray, List.set_cons_zero, List.set_cons_succ]
      refine take_dst (some 41) (i := 4) (v := ?vQ4) rfl rfl (by kernel_rfl) (by kernel_rfl) (by kernel_rfl) (fun _ _ _ h => h) (Or.inl ⟨by rfl, fun wS hSw => ?hyQ4⟩) (by assumption) ?restQ4
      case hyQ4 => (obtain ⟨q1, q2⟩ := hSw; go_simp; first | done | with_reducible rfl)
      try simp only [Act.put, List.setIfInBounds_toArray, List.set_cons_zero, List.set_cons_succ]
      refine take_dst (some 42) (i := 5) (v := ?vQ5) rfl rfl (by kernel_rfl) (by kernel_rfl) (by kernel_rfl) (fun _ _ _ h => h) (Or.inl ⟨by rfl, fun wS hSw => ?hyQ5⟩) (by assumption) ?restQ5
      case hyQ5 => (obtain ⟨q1, q2⟩ := hSw; go_simp; first | done | with_reducible rfl)
      try simp only [Act.put, List.setIfInBounds_toArray, List.set_cons_zero, List.set_cons_succ]
      refine take_dst (some 43) (i := 6) (v := ?vQ6) rfl rfl (by kernel_rfl) (by kernel_rfl) (by kernel_rfl) (fun _ _ _ h => h) (Or.inl ⟨by rfl, fun wS hSw => ?hyQ6⟩) (by assumption) ?restQ6
      case hyQ6 => (obtain ⟨q1, q2⟩ := hSw; go_simp; first | done | with_reducible rfl)
      try simp only [Act.put, List.setIfInBounds_toArray, List.set_cons_zero, List.set_cons_succ]
      refine take_dst (some 44) (i := 7) (v := ?vQ7) rfl rfl (by kernel_rfl) (by kernel_rfl) (by kernel_rfl) (fun _ _ _ h => h) (Or.inl ⟨by rfl, fun wS hSw => ?hyQ7⟩) (by assumption) ?restQ7
      case hyQ7 => (obtain ⟨q1, q2⟩ := hSw; go_simp; first | done | with_reducible rfl)
      try simp only [Act.put, List.setIfInBounds_toArray, List.set_cons_zero, List.set_cons_succ]
      refine take_dst (some 45) (i := 8) (v := ?vQ8) rfl rfl (by kernel_rfl) (by kernel_rfl) (by kernel_rfl) (fun _ _ _ h => h) (Or.inl ⟨by rfl, fun wS hSw => ?hyQ8⟩) (by assumption) ?restQ8
      case hyQ8 => (obtain ⟨q1, q2⟩ := hSw; go_simp; first | done | with_reducible rfl)
      try simp only [Act.put, List.setIfInBounds_toArray, List.set_cons_zero, List.set_cons_succ]
      refine take_dst (some 46) (i := 9) (v := ?vQ9) rfl rfl (by kernel_rfl) (by kernel_rfl) (by kernel_rfl) (fun _ _ _ h => h) (Or.inl ⟨by rfl, fun wS hSw => ?hyQ9⟩) (by assumption) ?restQ9
      case hyQ9 => (obtain ⟨q1, q2⟩ := hSw; go_simp; first | done | with_reducible rfl)
      try simp only [Act.put, List.setIfInBounds_toArray, List.set_cons_zero, List.set_cons_succ]
      refine take_dst (some 47) (i := 10) (v := ?vQ10) rfl rfl (by kernel_rfl) (by kernel_rfl) (by kernel_rfl) (fun _ _ _ h => h) (Or.inl ⟨by rfl, fun wS hSw => ?hyQ10⟩) (by assumption) ?restQ10
      case hyQ10 => (obtain ⟨q1, q2⟩ := hSw; go_simp; first | done | with_reducible rfl)
      try simp only [Act.put, List.setIfInBounds_toArray, List.set_cons_zero, List.set_cons_succ]
      refine take_dst (some 48) (i := 11) (v := ?vQ11) rfl rfl (by kernel_rfl) (by kernel_rfl) (by kernel_rfl) (fun _ _ _ h => h) (Or.inl ⟨by rfl, fun wS hSw => ?hyQ11⟩) (by assumption) ?restQ11
      case hyQ11 => (obtain ⟨q1, q2⟩ := hSw; go_simp; first | done | with_reducible rfl)
      try simp only [Act.put, List.setIfInBounds_toArray, List.set_cons_zero, List.set_cons_succ]
      refine take_dst (some 49) (i := 12) (v := ?vQ12) rfl rfl (by kernel_rfl) (by kernel_rfl) (by kernel_rfl) (fun _ _ _ h => h) (Or.inl ⟨by rfl, fun wS hSw => ?hyQ12⟩) (by assumption) ?restQ12
      case hyQ12 => (obtain ⟨q1, q2⟩ := hSw; go_simp; first | done | with_reducible rfl)
      try simp only [Act.put, List.setIfInBounds_toArray, List.set_cons_zero, List.set_cons_succ]
      refine take_dst (some 37) (i := 0) (v := dv y.1) rfl rfl (by kernel_rfl) (by kernel_rfl) (by kernel_rfl) (fun _ _ _ h => h) (yieldsIf_load_mid (by rfl) 29 _ rfl (w.heap.size + 2) 0 rfl (bcells y.1) _ (fun wS hSw => by obtain ⟨q1, q2⟩ := hSw; exact q2) Tryd.underlying29 rfl (by rw [bcells_length, Hyl.out]; exact dig_sz)) (by assumption) ?restQ0
      try simp only [Act.put, List.setIfInBounds_toArray, List.set_cons_zero, List.set_cons_succ]
      refine take_dst (some 38) (i := 1) (v := dv d.1) rfl rfl (by kernel_rfl) (by kernel_rfl) (by kernel_rfl) (fun _ _ _ h => h) (yieldsIf_load_mid (by rfl) 29 _ rfl w.heap.size 0 rfl (bcells d.1) _ (fun wS hSw => by obtain ⟨q1, q2⟩ := hSw; exact q1) Tryd.underlying29 rfl (by rw [bcells_length, Hdl.out]; exact dig_sz)) (by assumption) ?restQ1
      try simp only [Act.put, List.setIfInBounds_toArray, List.set_cons_zero, List.set_cons_succ]
      refine wpAnyH_ready (rs := [13]) (by kernel_rfl) (by simp) ?_
      refine AllReadyH.cons rfl (fun K hK => ?_) AllReadyH.nil
      go_simp
      refine (HR.out w3 KB.out).mono ?_
      rintro e w4 ⟨rfl, hb4⟩
      have K44 := Lib.hid (K4.out.ext hb4); have K84 := Lib.hid (K8.out.ext hb4); have K104 := Lib.hid (K10.out.ext hb4); have KB4 := Lib.hid (below_ext KB.out hb4)
      clear hb4 K4 K8 K10 KB
      refine hK.out _ _ ⟨cb_rng K44.out, cb_rng K104.out⟩ (fun hHeld => ?_)
      clear hK K
      try simp only [Act.put, List.setIfInBounds_toArray, List.set_cons_zero, List.set_cons_succ]
      refine wpAnyH_ready (rs := [14]) (by kernel_rfl) (by simp) ?_
      refine AllReadyH.cons rfl (fun K hK => ?_) AllReadyH.nil
      have hnode := Lib.hid (rnode_any y u w4)
      rw [show nodeD y u = z from HZ.out] at hnode
      go_simp
      refine hnode.out.mono ?_
      rintro e w5 ⟨rfl, hb5⟩
      have K45 := Lib.hid (K44.out.ext hb5); have K85 : Hid (w5.heap[w.heap.size + 1]? = some (.cells (bcells dgZ.1).toArray 29 (0, 0))) := K84.out.ext hb5
      have K105 := Lib.hid (K104.out.ext hb5); have KB5 := Lib.hid (below_ext KB4.out hb5)
      clear hb5 hnode K44 K84 K104 KB4
      refine hK.out _ _ ⟨cb_rng K45.out, cb_rng K105.out⟩ (fun hHeld => ?_)
      clear hK K
      try simp only [Act.put, List.setIfInBounds_toArray, List.set_cons_zero, List.set_cons_succ]
      refine wpAnyH_ready (rs := [15]) (by kernel_rfl) (by simp) ?_
      refine AllReadyH.cons rfl (fun K hK => ?_) AllReadyH.nil
      refine wpIf_store_d (by rfl) 29 (.tmp 8) (.tmp 51) rfl (w.heap.size + 1) z.1 Hzl.out rfl rfl 29 _ K85.out rfl dig_sz ?_
      intro w7 hc7 hg7 hz7
      have K47 := Lib.hid (K45.out.keep (hg7.out.block _ K45.out.lt (by intro e; injection e; omega))); have K107 := Lib.hid (K105.out.keep (hg7.out.block _ K105.out.lt (by intro e; injection e; omega)))
      refine hK.out (Act.put _ none undef) w7 ⟨cb_rng K47.out, cb_rng K107.out⟩ (fun hHeld => ?_)
      clear hK K
      try simp only [Act.put]
      refine wpAnyH_done (by kernel_rfl) ?_ _
      go_wp2_with fail
      refine bodyPost_ret (v := dv z.1) (results_cell_row rfl _ _ (w.heap.size + 1) 29 (bcells z.1).toArray (0, 0) _ rfl hc7.out Tryd.underlying29 rfl (by rw [List.size_toArray, bcells_length, Hzl.out]; exact dig_sz)) rfl ?_
      exact ⟨rfl, KB5.out.grown hg7.out KB5.out.size (fun k hk => by injection hk; omega)⟩
end Go.Proofs.YtbonebmboolemaaDoor
/- the reference's Climb (printed by gen36l.py). -/
namespace Go.Proofs.YtbonebmboolemaaDoor
open Go.RowKit
set_option maxRecDepth 100000 in
set_option maxHeartbeats 4000000 in
theorem rClimb_any (d : Dg) (A N : Nat) (p : List Dg) (v : Value) (w : World) (hl : LsAt digK w.heap.size w p v) (hN : N ≤ 64) (hA : A < N) :
    Calls Tryd.prog 45 #[dv d.1, .int .i64 (A : Int), .int .i64 (N : Int), v] w fun e w' => e = .returned (.tuple #[dv (climbD d N A p).1, .int .i64 (climbE N A p)]) ∧ Below w.heap.size w w' := by
  obtain ⟨oa, cap, rfl, hlm⟩ := hl.shape
  have b1 : decide ((N : Int) < 1) = false := by simp; omega
  have b2 : decide (1099511627776 < (N : Int)) = false := by simp; omega
  have b3 : decide ((A : Int) < 0) = false := by simp
  have b4 : decide ((N : Int) ≤ (A : Int)) = false := by simp; omega
  have b5 : decide (N ≤ A) = false := by simp; omega
  have Hdl := Lib.hid d.2
  have H4 : Hid (CB ((w.alloc (bD d)).alloc ZD) w.heap.size 29 (bcells d.1)) := (cb_one w _ _ _ rfl).alloc _
  have H8 : Hid (CB ((w.alloc (bD d)).alloc ZD) (w.heap.size + 1) 29 (bcells dgZ.1)) := by
    have := cb_one (w.alloc (bD d)) ZD _ _ rfl
    rw [World.size_alloc] at this; exact this
  have X8 : Hid (((w.alloc (bD d)).alloc ZD).heap[w.heap.size + 1]? = some (.cells (bcells dgZ.1).toArray 29 (0, 0))) := H8.out
  have HB : Hid (Below w.heap.size w ((w.alloc (bD d)).alloc ZD)) := by
    refine Below.alloc ((Below.refl w.heap.size w).alloc (Nat.le_refl _) _) ?_ _; simp only [World.size_alloc]; omega
  have HLN := Lib.hid (fun W => length_any N N A W (Nat.le_refl _) hN hA)
  have Hc := Lib.hid (fun (h : p.length = (firsts N A).length) W (hW : Below w.heap.size w W) => rclimb_any N d A N p (.slice oa p.length cap) W (Nat.le_refl _) hN hA h (hl.ext hW))
  obtain ⟨m, hm⟩ : ∃ m, (firsts N A).length = m := ⟨_, rfl⟩
  have hcd : climbD d N A p = if p.length = m then riseD d N A p else dgZ := by unfold climbD; rw [hm]
  have hce : climbE N A p = if p.length = m then 0 else 1 := by unfold climbE; rw [hm]
  rw [hm] at HLN Hc
  clear hl hN hA hm hlm
  by_cases hpl : p.length = m
  · rw [hcd, hce, if_pos hpl, if_pos hpl]
    have Hc2 := Lib.hid (Hc.out hpl)
    clear hcd hce Hc
    subst hpl
    have hrl := (riseD d N A p).2
    obtain ⟨r, hr⟩ : ∃ r, (riseD d N A p).1 = r := ⟨_, rfl⟩
    rw [hr] at hrl Hc2 ⊢
    have Hrl := Lib.hid hrl
    clear hr hrl
    change Calls Tryd.prog 45 #[.agg (bcells d.1).toArray, _, _, _] w _
    go_enter Tryd.func45, Tryd.ntmps45
    go_upto_region 1 with fail
    change Code.wp _ _ _ _ ((w.alloc (bD d)).alloc ZD)
    generalize (w.alloc (bD d)).alloc ZD = w0 at *
    go_wp2_with (first
      | (go_at_call 62; refine (HLN.out w0).mono ?_; rintro e w' ⟨rfl, rfl⟩)
      | (with_reducible refine wpList_load_d (hgd := rfl) 29 (.tmp 4) rfl w.heap.size d.1 Hdl.out rfl 29 _ H4.out Tryd.underlying29 rfl dig_sz ?_)
      | (go_at_call 63; refine (Hc2.out w0 HB.out).mono ?_; go_loud (
          rintro e w6 ⟨rfl, hb6⟩
          have HT : Hid (w6.heap[w.heap.size + 1]? = some (.cells (bcells dgZ.1).toArray 29 (0, 0))) := H8.out.ext hb6
          have HB6 := Lib.hid (below_ext HB.out hb6)
          clear hb6))
      | (with_reducible refine wpList_store_d (hgd := rfl) 29 (.tmp 8) (.tmp 38) rfl (w.heap.size + 1) r Hrl.out rfl rfl 29 _ HT.out rfl dig_sz ?_; intro w7 hc7 hg7 hz7))
    refine bodyPost_ret (v := .tuple #[dv r, .int .i64 0]) (results_row2 rfl _ _ (w.heap.size + 1) 29 (bcells r).toArray (0, 0) _ (.int .i64 0) rfl rfl hc7.out Tryd.underlying29 rfl (by rw [List.size_toArray, bcells_length, Hrl.out]; exact dig_sz)) rfl ?_
    exact ⟨rfl, HB6.out.grown hg7.out HB6.out.size (fun k hk => by injection hk; omega)⟩
  · rw [hcd, hce, if_neg hpl, if_neg hpl]
    have t1 : decide ((p.length : Int) = (m : Int)) = false := by simp; omega
    have t1' : decide (p.length = m) = false := by simpa using hpl
    have t2 : ((p.length : Int) == (m : Int)) = false := by rw [beq_eq_false_iff_ne]; omega
    have Hzl : Hid (dgZ.1.length = 32) := dgZ.2
    clear hcd hce Hc
    change Calls Tryd.prog 45 #[.agg (bcells d.1).toArray, _, _, _] w _
    go_enter Tryd.func45, Tryd.ntmps45
    go_upto_region 1 with fail
    change Code.wp _ _ _ _ ((w.alloc (bD d)).alloc ZD)
    generalize (w.alloc (bD d)).alloc ZD = w0 at *
    go_upto_region 2 with (go_at_call 62; refine (HLN.out w0).mono ?_; rintro e w' ⟨rfl, rfl⟩)
    go_wp2_with (refine wpList_store_d (hgd := rfl) 29 (.tmp 8) (.tmp 33) rfl (w.heap.size + 1) dgZ.1 Hzl.out rfl rfl 29 _ X8.out rfl dig_sz ?_; intro w7 hc7 hg7 hz7)
    refine bodyPost_ret (v := .tuple #[dv dgZ.1, .int .i64 1]) (results_row2 rfl _ _ (w.heap.size + 1) 29 (bcells dgZ.1).toArray (0, 0) _ (.int .i64 1) rfl rfl hc7.out Tryd.underlying29 rfl (by rw [List.size_toArray, bcells_length, Hzl.out]; exact dig_sz)) rfl ?_
    exact ⟨rfl, HB.out.grown hg7.out HB.out.size (fun k hk => by injection hk; omega)⟩
end Go.Proofs.YtbonebmboolemaaDoor
/- the reference's path, Path (printed by gen36r.py). -/
namespace Go.Proofs.YtbonebmboolemaaDoor
open Go.RowKit
set_option maxRecDepth 100000 in
set_option maxHeartbeats 4000000 in
theorem rpath_any : ∀ (N : Nat) (l : List Dg) (a : Nat) (v : Value) (w : World), l.length ≤ N → l.length ≤ 64 → a < l.length → LsAt digK w.heap.size w l v →
    Calls Tryd.prog 60 #[v, .int .i64 (a : Int)] w fun e w' => ∃ vp, e = .returned vp ∧ OwnK digK 29 w' w.heap.size vp (pathD l a) ∧ Below w.heap.size w w' := by
  intro N
  induction N with
  | zero => intro l a v w h1 _ h2; omega
  | succ N ih =>
    intro l a v w hn h64 ha hv
    have hle : l ≠ [] := by intro e; rw [e] at ha; simp at ha
    obtain ⟨b, off, cap2, rfl, hlc, hcm⟩ := hv.some_at hle
    by_cases h1 : l.length = 1
    · have t1 : decide ((l.length : Int) = 1) = true := by simp; omega
      have t1' : decide (l.length = 1) = true := by simpa using h1
      have e0 : ((l.length : Int) == 1) = true := by rw [beq_iff_eq]; omega
      have hp := Lib.hid (pathD_one (l := l) a (by omega))
      rw [h1]
      clear hv hle hlc hcm hn h64 ha ih e0 t1 t1' h1
      go_enter Tryd.func60, Tryd.ntmps60
      go_wp2_with fail
      go_ret
      refine ⟨_, rfl, ?_, ?_⟩
      · rw [hp.out]; exact OwnK.made _ _ w (Nat.le_refl _)
      · exact b_al _
    have h2 : 2 ≤ l.length := by omega
    have t1 : decide ((l.length : Int) = 1) = false := by simp; omega
    have t1' : decide (l.length = 1) = false := by simpa using h1
    have e0 : ((l.length : Int) == 1) = false := by rw [beq_eq_false_iff_ne]; omega
    obtain ⟨a1, a2, a3⟩ := half_lt h2
    have HH := Lib.hid (rhalf_any l.length w h2 h64)
    have Hlt := fun (h : a < halfN l.length) => pathD_lt h2 h
    have Hge := fun (h : ¬ a < halfN l.length) => pathD_ge h2 h
    obtain ⟨k, hk⟩ : ∃ k, halfN l.length = k := ⟨_, rfl⟩
    rw [hk] at HH a1 a2 a3 Hlt Hge
    have HLT := Lib.hid Hlt; have HGE := Lib.hid Hge
    clear Hlt Hge hk
    have b1 : (1 : Int) ≤ (k : Int) := by omega
    have b2 : (k : Int) < (l.length : Int) := by omega
    have b3 : (l.length : Int) ≤ (cap2 : Int) := by omega
    have b4 : (l.length : Int) ≤ 64 := by omega
    have b5 : (cap2 : Int) ≤ 9223372036854775807 := by unfold maxLen at hcm; omega
    have b6 : (a : Int) < (l.length : Int) := by omega
    have e2 : (cap2 = k) = False := by apply propext; constructor; (intro e; omega); (intro h; cases h)
    have e4 : k ≤ cap2 := by omega
    have e5 : k ≤ l.length := by omega
    have hv1 := Lib.hid (hv.takeS k hle e5)
    have hv2 := Lib.hid (hv.dropS k _ _ hle e5 rfl rfl)
    have Htl : Hid ((l.take k).length = k) := by show _ = _; rw [List.length_take, Nat.min_eq_left e5]
    have Hdl : Hid ((l.drop k).length = l.length - k) := by show _ = _; rw [List.length_drop]
    have Hih := Lib.hid ih
    have Hn := Lib.hid hn
    clear hv hle hlc hcm ih hn
    by_cases hak : a < k
    · have tk : decide ((a : Int) < (k : Int)) = true := by simp; omega
      have tk' : decide (a < k) = true := by simp; omega
      have hst := HLT.out hak
      have hpl := pathD_len k (l.take k) Htl.out a
      have hfl := firsts_len k a
      have HR : Hid (∀ W, Below w.heap.size w W → Calls Tryd.prog 60 #[.slice (some ⟨b, off, none⟩) k cap2, .int .i64 (a : Int)] W fun e w' => ∃ vp, e = .returned vp ∧ OwnK digK 29 w' W.heap.size vp (pathD (l.take k) a) ∧ Below W.heap.size W w') := fun W hW =>
        Hih.out (l.take k) a _ W (by rw [Htl.out]; have := Hn.out; omega) (by rw [Htl.out]; omega) (by rw [Htl.out]; exact hak) (hv1.out.ext hW)
      obtain ⟨p, hp⟩ : ∃ p, pathD (l.take k) a = p := ⟨_, rfl⟩
      obtain ⟨x, hx⟩ : ∃ x, treeD (l.drop k) = x := ⟨_, rfl⟩
      have HT : Hid (∀ W, Below w.heap.size w W → Calls Tryd.prog 34 #[.slice (some ⟨b, off + k * 32, none⟩) (l.length - k) (cap2 - k)] W fun e w' => e = .returned (dv x.1) ∧ Below W.heap.size W w') := fun W hW => by
        rw [← hx]; exact rtree_is (by rw [Hdl.out]; omega) (hv2.out.ext hW)
      rw [hp, hx] at hst
      rw [hp] at hpl HR
      have Hpl : Hid (p.length ≤ 64) := by show _ ≤ _; omega
      have HST := Lib.hid hst
      clear hx hp hst hpl hfl Hih h64
      go_enter Tryd.func60, Tryd.ntmps60
      go_upto_region 5 with (go_at_call 55; refine HH.out.mono ?_; rintro e w' ⟨rfl, rfl⟩)
      refine wp_region_held_drew (S := fun w' => True) (by kernel_rfl) trivial (fun hHeld => ?_)
      have KB : Hid (Below w.heap.size w w.drew) := Lib.hid (Below.refl w.heap.size w).drew
      generalize w.drew = w1 at *
      refine take_dst (some 16) (i := 0) (v := ?vP0) rfl rfl (by kernel_rfl) (by kernel_rfl) (by kernel_rfl) (fun _ _ _ h => h) (Or.inl ⟨by rfl, fun wS hSw => ?hyP0⟩) (by assumption) ?restP0
      case hyP0 => (obtain _ := hSw; go_simp; first | done | with_reducible rfl)
      try simp only [Act.put, List.setIfInBounds_toArray, List.set_cons_zero, List.set_cons_succ]
      refine take_dst (some 17) (i := 1) (v := ?vP1) rfl rfl (by kernel_rfl) (by kernel_rfl) (by kernel_rfl) (fun _ _ _ h => h) (Or.inl ⟨by rfl, fun wS hSw => ?hyP1⟩) (by assumption) ?restP1
      case hyP1 => (obtain _ := hSw; go_simp; first | done | with_reducible rfl)
      try simp only [Act.put, List.setIfInBounds_toArray, List.set_cons_zero, List.set_cons_succ]
      refine take_dst (some 18) (i := 2) (v := ?vP2) rfl rfl (by kernel_rfl) (by kernel_rfl) (by kernel_rfl) (fun _ _ _ h => h) (Or.inl ⟨by rfl, fun wS hSw => ?hyP2⟩) (by assumption) ?restP2
      case hyP2 => (obtain _ := hSw; go_simp; first | done | with_reducible rfl)
      try simp only [Act.put, List.setIfInBounds_toArray, List.set_cons_zero, List.set_cons_succ]
      refine take_dst (some 19) (i := 3) (v := ?vP3) rfl rfl (by kernel_rfl) (by kernel_rfl) (by kernel_rfl) (fun _ _ _ h => h) (Or.inl ⟨by rfl, fun wS hSw => ?hyP3⟩) (by assumption) ?restP3
      case hyP3 => (obtain _ := hSw; go_simp; first | done | with_reducible rfl)
      try simp only [Act.put, List.setIfInBounds_toArray, List.set_cons_zero, List.set_cons_succ]
      refine take_dst (some 21) (i := 5) (v := ?vP5) rfl rfl (by kernel_rfl) (by kernel_rfl) (by kernel_rfl) (fun _ _ _ h => h) (Or.inl ⟨by rfl, fun wS hSw => ?hyP5⟩) (by assumption) ?restP5
      case hyP5 => (obtain _ := hSw; go_simp; first | done | with_reducible rfl)
      try simp only [Act.put, List.setIfInBounds_toArray, List.set_cons_zero, List.set_cons_succ]
      refine take_dst (some 22) (i := 6) (v := ?vP6) rfl rfl (by kernel_rfl) (by kernel_rfl) (by kernel_rfl) (fun _ _ _ h => h) (Or.inl ⟨by rfl, fun wS hSw => ?hyP6⟩) (by assumption) ?restP6
      case hyP6 => (obtain _ := hSw; go_simp; first | done | with_reducible rfl)
      try simp only [Act.put, List.setIfInBounds_toArray, List.set_cons_zero, List.set_cons_succ]
      refine take_dst (some 23) (i := 7) (v := ?vP7) rfl rfl (by kernel_rfl) (by kernel_rfl) (by kernel_rfl) (fun _ _ _ h => h) (Or.inl ⟨by rfl, fun wS hSw => ?hyP7⟩) (by assumption) ?restP7
      case hyP7 => (obtain _ := hSw; go_simp; first | done | with_reducible rfl)
      try simp only [Act.put, List.setIfInBounds_toArray, List.set_cons_zero, List.set_cons_succ]
      refine wpAnyH_ready (rs := [4]) (by kernel_rfl) (by simp) ?_
      refine AllReadyH.cons rfl (fun K hK => ?_) AllReadyH.nil
      go_simp
      refine (HR.out w1 KB.out).mono ?_
      rintro e w2 ⟨vp, rfl, ho2, hb2⟩
      have KB2 := Lib.hid (below_ext KB.out hb2)
      have KP2 := Lib.hid (ho2.base (KB.out.size))
      clear hb2 ho2 KB
      refine hK.out _ _ trivial (fun hHeld => ?_)
      clear hK K
      try simp only [Act.put, List.setIfInBounds_toArray, List.set_cons_zero, List.set_cons_succ]
      refine wpAnyH_ready (rs := [8]) (by kernel_rfl) (by simp) ?_
      refine AllReadyH.cons rfl (fun K hK => ?_) AllReadyH.nil
      go_simp
      refine (HT.out w2 KB2.out).mono ?_
      rintro e w2' ⟨rfl, hb3⟩
      have KB2' := Lib.hid (below_ext KB2.out hb3)
      have KP2' := Lib.hid (KP2.out.ext hb3)
      clear hb3 KB2 KP2
      refine hK.out _ _ trivial (fun hHeld => ?_)
      clear hK K
      try simp only [Act.put, List.setIfInBounds_toArray, List.set_cons_zero, List.set_cons_succ]
      refine wpAnyH_ready (rs := [9]) (by kernel_rfl) (by simp) ?_
      refine AllReadyH.cons rfl (fun K hK => ?_) AllReadyH.nil
      refine step_bs rfl _ rfl x rfl ?_
      have KX : Hid (Src Tryd.prog 32 34 (.slice (some ⟨w2'.heap.size, 0, none⟩) 1 1) 1 (digK.flat [x]) (w2'.alloc (bD x))) := src_el (K := digK) (a := x) Tryd.underlying34 (cb_one w2' _ _ _ rfl)
      have KP3 := Lib.hid (KP2'.out.alloc (bD x)); have KB3 := Lib.hid (below_ext KB2'.out (b_al (bD x)))
      have KS := Lib.hid KB3.out.size
      clear KB2' KP2'
      refine hK.out (Act.put _ (some 25) _) _ trivial (fun hHeld => ?_)
      clear hK K
      generalize hw3 : w2'.alloc (bD x) = w3 at *
      clear hw3
      try simp only [Act.put, List.setIfInBounds_toArray, List.set_cons_zero, List.set_cons_succ]
      refine wpAnyH_ready (rs := [10]) (by kernel_rfl) (by simp) ?_
      refine AllReadyH.cons rfl (fun K hK => ?_) AllReadyH.nil
      refine step_append_x (e := 29) (z := .agg (bcells dgZ.1).toArray) (size := 32) (bytes := 32) Tryd.underlying34 dig_info2 rfl rfl _ _ rfl w.heap.size _ p.length (digK.flat p) rfl KP3.out _ 1 (digK.flat [x]) rfl KX.out (by have := Hpl.out; unfold maxLen; omega) (by have := Hpl.out; omega) KS.out ?_
      intro v4 w4 ho4 hg4 hn4
      have KP4 : Hid (OwnK digK 29 w4 w.heap.size v4 (p ++ [x])) := OwnK.append (K := digK) ho4 (by simp)
      have KB4 := Lib.hid (below_ownK KB3.out KP3.out hg4 (Nat.le_refl _))
      clear ho4 hg4 hn4 KX KP3 KB3 KS
      refine hK.out (Act.put _ (some 26) v4) w4 trivial (fun hHeld => ?_)
      clear hK K
      try simp only [Act.put, List.setIfInBounds_toArray, List.set_cons_zero, List.set_cons_succ]
      refine take_dst (some 4) (i := 11) (v := ?vP11) rfl rfl (by kernel_rfl) (by kernel_rfl) (by kernel_rfl) (fun _ _ _ h => h) (Or.inl ⟨by rfl, fun wS hSw => ?hyP11⟩) (by assumption) ?restP11
      case hyP11 => (obtain _ := hSw; go_simp; first | done | with_reducible rfl)
      try simp only [Act.put, List.setIfInBounds_toArray, List.set_cons_zero, List.set_cons_succ]
      refine wpAnyH_done (by kernel_rfl) ?_ _
      go_wp2_with fail
      go_ret
      exact ⟨_, rfl, by rw [HST.out]; exact KP4.out, KB4.out⟩
    · have tk : decide ((a : Int) < (k : Int)) = false := by simp; omega
      have tk' : decide (a < k) = false := by simp; omega
      have e3 : (a : Int) - (k : Int) = ((a - k : Nat) : Int) := by omega
      have e3' : ((a - k : Nat) : Int) ≤ 64 := by omega
      have e3w : IntKind.i64.wrap ((a - k : Nat) : Int) = ((a - k : Nat) : Int) := IntWalk.i64_in _ (by omega)
      have hst := HGE.out hak
      have hpl := pathD_len (l.length - k) (l.drop k) Hdl.out (a - k)
      have hfl := firsts_len (l.length - k) (a - k)
      have HR : Hid (∀ W, Below w.heap.size w W → Calls Tryd.prog 60 #[.slice (some ⟨b, off + k * 32, none⟩) (l.length - k) (cap2 - k), .int .i64 ((a - k : Nat) : Int)] W fun e w' => ∃ vp, e = .returned vp ∧ OwnK digK 29 w' W.heap.size vp (pathD (l.drop k) (a - k)) ∧ Below W.heap.size W w') := fun W hW =>
        Hih.out (l.drop k) (a - k) _ W (by rw [Hdl.out]; have := Hn.out; omega) (by rw [Hdl.out]; omega) (by rw [Hdl.out]; omega) (hv2.out.ext hW)
      obtain ⟨p, hp⟩ : ∃ p, pathD (l.drop k) (a - k) = p := ⟨_, rfl⟩
      obtain ⟨x, hx⟩ : ∃ x, treeD (l.take k) = x := ⟨_, rfl⟩
      have HT : Hid (∀ W, Below w.heap.size w W → Calls Tryd.prog 34 #[.slice (some ⟨b, off, none⟩) k cap2] W fun e w' => e = .returned (dv x.1) ∧ Below W.heap.size W w') := fun W hW => by
        rw [← hx]; exact rtree_is (by rw [Htl.out]; omega) (hv1.out.ext hW)
      rw [hp, hx] at hst
      rw [hp] at hpl HR
      have Hpl : Hid (p.length ≤ 64) := by show _ ≤ _; omega
      have HST := Lib.hid hst
      clear hx hp hst hpl hfl Hih h64
      go_enter Tryd.func60, Tryd.ntmps60
      go_upto_region 6 with (go_at_call 55; refine HH.out.mono ?_; rintro e w' ⟨rfl, rfl⟩)
      refine wp_region_held_drew (S := fun w' => True) (by kernel_rfl) trivial (fun hHeld => ?_)
      have KB : Hid (Below w.heap.size w w.drew) := Lib.hid (Below.refl w.heap.size w).drew
      generalize w.drew = w1 at *
      refine take_dst (some 27) (i := 0) (v := ?vQ0) rfl rfl (by kernel_rfl) (by kernel_rfl) (by kernel_rfl) (fun _ _ _ h => h) (Or.inl ⟨by rfl, fun wS hSw => ?hyQ0⟩) (by assumption) ?restQ0
      case hyQ0 => (obtain _ := hSw; go_simp; first | done | with_reducible rfl)
      try simp only [Act.put, List.setIfInBounds_toArray, List.set_cons_zero, List.set_cons_succ]
      refine take_dst (some 28) (i := 1) (v := ?vQ1) rfl rfl (by kernel_rfl) (by kernel_rfl) (by kernel_rfl) (fun _ _ _ h => h) (Or.inl ⟨by rfl, fun wS hSw => ?hyQ1⟩) (by assumption) ?restQ1
      case hyQ1 => (obtain _ := hSw; go_simp; first | done | with_reducible rfl)
      try simp only [Act.put, List.setIfInBounds_toArray, List.set_cons_zero, List.set_cons_succ]
      refine take_dst (some 29) (i := 2) (v := ?vQ2) rfl rfl (by kernel_rfl) (by kernel_rfl) (by kernel_rfl) (fun _ _ _ h => h) (Or.inl ⟨by rfl, fun wS hSw => ?hyQ2⟩) (by assumption) ?restQ2
      case hyQ2 => (obtain _ := hSw; go_simp; first | done | with_reducible rfl)
      try simp only [Act.put, List.setIfInBounds_toArray, List.set_cons_zero, List.set_cons_succ]
      refine take_dst (some 30) (i := 3) (v := ?vQ3) rfl rfl (by kernel_rfl) (by kernel_rfl) (by kernel_rfl) (fun _ _ _ h => h) (Or.inl ⟨by rfl, fun wS hSw => ?hyQ3⟩) (by assumption) ?restQ3
      case hyQ3 => (obtain _ := hSw; go_simp; first | done | with_reducible rfl)
      try simp only [Act.put, List.setIfInBounds_toArray, List.set_cons_zero, List.set_cons_succ]
      refine take_dst (some 31) (i := 4) (v := ?vQ4) rfl rfl (by kernel_rfl) (by kernel_rfl) (by kernel_rfl) (fun _ _ _ h => h) (Or.inl ⟨by rfl, fun wS hSw => ?hyQ4⟩) (by assumption) ?restQ4
      case hyQ4 => (obtain _ := hSw; go_simp; first | done | with_reducible rfl)
      try simp only [Act.put, List.setIfInBounds_toArray, List.set_cons_zero, List.set_cons_succ]
      refine take_dst (some 32) (i := 5) (v := ?vQ5) rfl rfl (by kernel_rfl) (by kernel_rfl) (by kernel_rfl) (fun _ _ _ h => h) (Or.inl ⟨by rfl, fun wS hSw => ?hyQ5⟩) (by assumption) ?restQ5
      case hyQ5 => (obtain _ := hSw; go_simp; first | done | with_reducible rfl)
      try simp only [Act.put, List.setIfInBounds_toArray, List.set_cons_zero, List.set_cons_succ]
      refine take_dst (some 34) (i := 7) (v := ?vQ7) rfl rfl (by kernel_rfl) (by kernel_rfl) (by kernel_rfl) (fun _ _ _ h => h) (Or.inl ⟨by rfl, fun wS hSw => ?hyQ7⟩) (by assumption) ?restQ7
      case hyQ7 => (obtain _ := hSw; go_simp; first | done | with_reducible rfl)
      try simp only [Act.put, List.setIfInBounds_toArray, List.set_cons_zero, List.set_cons_succ]
      refine take_dst (some 35) (i := 8) (v := ?vQ8) rfl rfl (by kernel_rfl) (by kernel_rfl) (by kernel_rfl) (fun _ _ _ h => h) (Or.inl ⟨by rfl, fun wS hSw => ?hyQ8⟩) (by assumption) ?restQ8
      case hyQ8 => (obtain _ := hSw; go_simp; first | done | with_reducible rfl)
      try simp only [Act.put, List.setIfInBounds_toArray, List.set_cons_zero, List.set_cons_succ]
      refine take_dst (some 36) (i := 9) (v := ?vQ9) rfl rfl (by kernel_rfl) (by kernel_rfl) (by kernel_rfl) (fun _ _ _ h => h) (Or.inl ⟨by rfl, fun wS hSw => ?hyQ9⟩) (by assumption) ?restQ9
      case hyQ9 => (obtain _ := hSw; go_simp; first | done | with_reducible rfl)
      try simp only [Act.put, List.setIfInBounds_toArray, List.set_cons_zero, List.set_cons_succ]
      refine wpAnyH_ready (rs := [6]) (by kernel_rfl) (by simp) ?_
      refine AllReadyH.cons rfl (fun K hK => ?_) AllReadyH.nil
      go_simp
      refine (HR.out w1 KB.out).mono ?_
      rintro e w2 ⟨vp, rfl, ho2, hb2⟩
      have KB2 := Lib.hid (below_ext KB.out hb2)
      have KP2 := Lib.hid (ho2.base (KB.out.size))
      clear hb2 ho2 KB
      refine hK.out _ _ trivial (fun hHeld => ?_)
      clear hK K
      try simp only [Act.put, List.setIfInBounds_toArray, List.set_cons_zero, List.set_cons_succ]
      refine wpAnyH_ready (rs := [10]) (by kernel_rfl) (by simp) ?_
      refine AllReadyH.cons rfl (fun K hK => ?_) AllReadyH.nil
      go_simp
      refine (HT.out w2 KB2.out).mono ?_
      rintro e w2' ⟨rfl, hb3⟩
      have KB2' := Lib.hid (below_ext KB2.out hb3)
      have KP2' := Lib.hid (KP2.out.ext hb3)
      clear hb3 KB2 KP2
      refine hK.out _ _ trivial (fun hHeld => ?_)
      clear hK K
      try simp only [Act.put, List.setIfInBounds_toArray, List.set_cons_zero, List.set_cons_succ]
      refine wpAnyH_ready (rs := [11]) (by kernel_rfl) (by simp) ?_
      refine AllReadyH.cons rfl (fun K hK => ?_) AllReadyH.nil
      refine step_bs rfl _ rfl x rfl ?_
      have KX : Hid (Src Tryd.prog 32 34 (.slice (some ⟨w2'.heap.size, 0, none⟩) 1 1) 1 (digK.flat [x]) (w2'.alloc (bD x))) := src_el (K := digK) (a := x) Tryd.underlying34 (cb_one w2' _ _ _ rfl)
      have KP3 := Lib.hid (KP2'.out.alloc (bD x)); have KB3 := Lib.hid (below_ext KB2'.out (b_al (bD x)))
      have KS := Lib.hid KB3.out.size
      clear KB2' KP2'
      refine hK.out (Act.put _ (some 38) _) _ trivial (fun hHeld => ?_)
      clear hK K
      generalize hw3 : w2'.alloc (bD x) = w3 at *
      clear hw3
      try simp only [Act.put, List.setIfInBounds_toArray, List.set_cons_zero, List.set_cons_succ]
      refine wpAnyH_ready (rs := [12]) (by kernel_rfl) (by simp) ?_
      refine AllReadyH.cons rfl (fun K hK => ?_) AllReadyH.nil
      refine step_append_x (e := 29) (z := .agg (bcells dgZ.1).toArray) (size := 32) (bytes := 32) Tryd.underlying34 dig_info2 rfl rfl _ _ rfl w.heap.size _ p.length (digK.flat p) rfl KP3.out _ 1 (digK.flat [x]) rfl KX.out (by have := Hpl.out; unfold maxLen; omega) (by have := Hpl.out; omega) KS.out ?_
      intro v4 w4 ho4 hg4 hn4
      have KP4 : Hid (OwnK digK 29 w4 w.heap.size v4 (p ++ [x])) := OwnK.append (K := digK) ho4 (by simp)
      have KB4 := Lib.hid (below_ownK KB3.out KP3.out hg4 (Nat.le_refl _))
      clear ho4 hg4 hn4 KX KP3 KB3 KS
      refine hK.out (Act.put _ (some 39) v4) w4 trivial (fun hHeld => ?_)
      clear hK K
      try simp only [Act.put, List.setIfInBounds_toArray, List.set_cons_zero, List.set_cons_succ]
      refine take_dst (some 4) (i := 13) (v := ?vQ13) rfl rfl (by kernel_rfl) (by kernel_rfl) (by kernel_rfl) (fun _ _ _ h => h) (Or.inl ⟨by rfl, fun wS hSw => ?hyQ13⟩) (by assumption) ?restQ13
      case hyQ13 => (obtain _ := hSw; go_simp; first | done | with_reducible rfl)
      try simp only [Act.put, List.setIfInBounds_toArray, List.set_cons_zero, List.set_cons_succ]
      refine wpAnyH_done (by kernel_rfl) ?_ _
      go_wp2_with fail
      go_ret
      exact ⟨_, rfl, by rw [HST.out]; exact KP4.out, KB4.out⟩
set_option maxRecDepth 100000 in
set_option maxHeartbeats 1000000 in
theorem rPath_any (l : List Dg) (a : Nat) (v : Value) (w : World) (h64 : l.length ≤ 64) (ha : a < l.length) (hl : LsAt digK w.heap.size w l v) :
    Calls Tryd.prog 39 #[v, .int .i64 (a : Int)] w (PathPost l a w) := by
  have hp := Lib.hid (rpath_any l.length l a v w (Nat.le_refl _) h64 ha hl)
  obtain ⟨oa, cap, rfl, hlm⟩ := hl.shape
  have b0 : decide ((a : Int) < 0) = false := by simp
  have b1 : decide ((l.length : Int) ≤ (a : Int)) = false := by simp; omega
  have b2 : decide (l.length ≤ a) = false := by simp; omega
  clear hl ha h64 hlm
  unfold PathPost
  go_enter Tryd.func39, Tryd.ntmps39
  go_wp2_with (go_at_call 60; refine hp.out.mono ?_; rintro e w' ⟨vp, rfl, ho, hb⟩; have HO := Lib.hid ho; have HB := Lib.hid hb; clear ho hb)
  go_ret2
  exact ⟨_, rfl, HO.out, HB.out⟩
end Go.Proofs.YtbonebmboolemaaDoor
