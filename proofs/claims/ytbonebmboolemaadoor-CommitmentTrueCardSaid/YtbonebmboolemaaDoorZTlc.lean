/- the law's climb: what is hashed on a way (printed by gen36q.py). -/
import Derived.Test.YtbonebmboolemaaDoorZThl
import Derived.Test.YtbonebmboolemaaDoorK34
import Derived.Test.YtbonebmboolemaaDoorK32
import Derived.Test.YtbonebmboolemaaDoorK40
import Derived.Laws.ResultCell
namespace Go.Proofs.YtbonebmboolemaaDoor
open Go.RowKit
theorem results_tmp_row {P : Program} {fn : Func} {p u : Tmp} {ty : TypeId} (h : fn.results = #[.tmp u, .cell p ty]) (tmps : Array Value) (w : World) (g : Nat) (t : TypeId) (cs : Array Value) (fr : Nat × Nat) (d : TypeDesc) (x : Value)
    (hp : tmps.getD p undef = .pointer (some ⟨g, 0, none⟩)) (hx : tmps.getD u undef = x) (hg : w.heap[g]? = some (.cells cs t fr))
    (hu : P.underlying ty = some d) (hd : (match d with | .struct _ | .array _ _ => true | _ => false) = true) (hi : (P.info? ty).map (·.size) = some cs.size) :
    (results fn tmps).run P w = .ok (.tuple #[x, .agg cs]) w := by
  have hp' : tmps[p]?.getD undef = .pointer (some ⟨g, 0, none⟩) := by simpa using hp
  have hx' : tmps[u]?.getD undef = x := by simpa using hx
  simp only [results, h]
  simp [hp', hx', asAddr, Result.andThen, run_loadVar_row w g t ty cs fr d hg hu hd hi]
/-- what is hashed, as an element -/
def stK : EK Stp := ⟨2, fun s => [.string ⟨s.1.toArray⟩, .string ⟨s.2.toArray⟩], fun _ => rfl, fun s u hu => by
  simp only [List.mem_cons, List.not_mem_nil, or_false] at hu
  rcases hu with rfl | rfl <;> rfl, by decide⟩
theorem st_info : (Tryd.prog.info? 67).map (fun i => (i.zero, i.size, i.bytes)) = some (some (.agg #[.string ⟨#[]⟩, .string ⟨#[]⟩]), 2, 32) := by kernel_rfl
def bS (s : Stp) : Obj := .cells (stK.cells s).toArray 67
theorem grown_below {w w1 : World} {G : Option Nat} (h : Below w.heap.size w w1) : w.grownBy w1 G := ⟨h.os, h.tape, h.output, h.size, fun k hk _ => h.block k hk⟩
theorem OwnK.none_of {α : Type} {K : EK α} {e : TypeId} {w : World} {b g : Nat} {v : Value} {l : List α} (h : OwnK K e w b v l) (hg : w.heap.size ≤ g) : v.ownBlock ≠ some g := fun e => by have := (h.lt _ e).2; omega
/-- what the law's climb leaves -/
def ClPost (d : Dg) (n a : Nat) (p : List Dg) (l : List Stp) (v : Value) (wb w : World) (e : Ending) (w' : World) : Prop :=
  ∃ v', e = .returned (.tuple #[v', dv (topW d n a p).1]) ∧ OwnK stK 67 w' wb.heap.size v' (l ++ stW d n a p) ∧ w.grownBy w' v.ownBlock ∧ Next w v v'
theorem stW_most (d : Dg) (m n a : Nat) (p : List Dg) (h : p.length ≤ m) : (stW d n a p).length ≤ m + 1 := by
  induction m generalizing n a p with
  | zero => rw [stW_end (.inr (List.eq_nil_of_length_eq_zero (by omega)))]; simp
  | succ m ih =>
    by_cases h0 : n ≤ 1 ∨ p = []
    · rw [stW_end h0]; simp
    · simp only [not_or] at h0
      obtain ⟨q, z, rfl⟩ : ∃ q z, p = q ++ [z] := ⟨_, _, (List.dropLast_concat_getLast h0.2).symm⟩
      rw [List.length_append, List.length_singleton] at h
      by_cases ha : a < halfN n
      · rw [stW_lt (by omega) ha, List.length_append, List.length_singleton]; have := ih (halfN n) a q (by omega); omega
      · rw [stW_ge (by omega) ha, List.length_append, List.length_singleton]; have := ih (n - halfN n) (a - halfN n) q (by omega); omega
theorem grown_next {w w1 w2 : World} {v v1 : Value} (h : w.grownBy w1 v.ownBlock) (hn : Next w v v1) (h2 : w1.grownBy w2 v1.ownBlock) : w.grownBy w2 v.ownBlock := by
  rcases hn with hn | hn
  · exact grown_trans h h2 (.inl hn)
  · exact grown_trans h h2 (.inr hn)
theorem ownB_ne {α : Type} {K : EK α} {w : World} {b c : Nat} {v u : Value} {x : List UInt8} {l : List α} (h : OwnB 5 w b v x) (k : OwnK K 67 w c u l) : v.ownBlock = none ∨ v.ownBlock ≠ u.ownBlock := by
  rcases h.2 with ⟨rfl, _⟩ | ⟨g, cap, cur, rfl, _, hg, _⟩
  · exact .inl rfl
  · right
    intro e
    rcases k.2 with ⟨rfl, _⟩ | ⟨g', cap', cur', rfl, _, hg', _⟩
    · cases e
    · have : g = g' := by simpa [Value.ownBlock] using e
      subst this
      rw [hg] at hg'
      injection hg' with hg'
      injection hg' with _ hg' _
      exact absurd hg' (by decide)
set_option maxRecDepth 100000 in
set_option maxHeartbeats 4000000 in
theorem lclimb_end (d : Dg) (n a : Nat) (p : List Dg) (l : List Stp) (v pv : Value) (wb w : World) (h : n ≤ 1 ∨ p = []) (hn : n ≤ 64) (hp6 : p.length ≤ 64) (hp : LsAt digK wb.heap.size wb p pv) (ho : OwnK stK 67 w wb.heap.size v l) (hb0 : Below wb.heap.size wb w) (hl : l.length ≤ 200) (hLd : Laid wb) :
    Calls Tryd.prog 46 #[v, dv d.1, .int .i64 (a : Int), .int .i64 (n : Int), pv] w (ClPost d n a p l v wb w) := by
  have HT := Lib.hid (topW_end (d := d) (a := a) h); have HW := Lib.hid (stW_end (d := d) (a := a) h)
  obtain ⟨oa, cap, rfl, -⟩ := hp.shape
  have n1 : (n : Int) ≤ 64 := by omega
  have p1 : (p.length : Int) ≤ 64 := by omega
  have hrl := (leafD d).2
  obtain ⟨r, hr⟩ : ∃ r, leafD d = r := ⟨_, rfl⟩
  have Hr : Hid (tagged leafT d.1 = r.1) := by show _ = _; rw [← hr]; rfl
  rw [hr] at hrl HT
  have Hrl := Lib.hid hrl
  clear hr hrl hp
  have Hdl := Lib.hid d.2
  have H6 : Hid (CB ((w.alloc (bD d)).alloc ZD) w.heap.size 29 (bcells d.1)) := (cb_one w _ _ _ rfl).alloc _
  have H11 : Hid (CB ((w.alloc (bD d)).alloc ZD) (w.heap.size + 1) 29 (bcells dgZ.1)) := by
    have := cb_one (w.alloc (bD d)) ZD _ _ rfl
    rw [World.size_alloc] at this; exact this
  have HB : Hid (Below w.heap.size w ((w.alloc (bD d)).alloc ZD)) := by
    refine Below.alloc ((Below.refl w.heap.size w).alloc (Nat.le_refl _) _) ?_ _; simp only [World.size_alloc]; omega
  have HS : Hid (((w.alloc (bD d)).alloc ZD).heap.size = w.heap.size + 2) := by show _ = _; rw [World.size_alloc, World.size_alloc]
  have HO : Hid (OwnK stK 67 ((w.alloc (bD d)).alloc ZD) wb.heap.size v l) := (ho.alloc _).alloc _
  have HL := Lib.hid hLd; have Hb0 := Lib.hid hb0; have Hll := Lib.hid hl; have How := Lib.hid ho
  clear hb0 hl ho hLd
  by_cases h1 : n ≤ 1
  · have t1 : decide ((n : Int) ≤ 1) = true := decide_eq_true (by omega)
    have t1' : decide (n ≤ 1) = true := decide_eq_true h1
    clear h hn hp6 h1
    change Calls Tryd.prog 46 #[_, .agg (bcells d.1).toArray, _, _, _] w _
    go_enter Tryd.func46, Tryd.ntmps46
    go_upto_region 1 with fail
    change Code.wp _ _ _ _ ((w.alloc (bD d)).alloc ZD)
    generalize (w.alloc (bD d)).alloc ZD = w0 at *
    go_upto_region 2 with fail
    have K6 := Lib.hid (H6.out.ext (Below.refl w0.heap.size w0).drew); have K11 := Lib.hid (H11.out.ext (Below.refl w0.heap.size w0).drew); have KB := Lib.hid HB.out.drew; have KO := Lib.hid (HO.out.ext (Below.refl w0.heap.size w0).drew)
    refine wp_region_held_drew (S := fun w' => CB w' w.heap.size 29 (bcells d.1)) (by kernel_rfl) K6.out (fun hHeld => ?_)
    clear H6 H11 HB HO
    generalize w0.drew = w1 at *
    refine take_dst (some 23) (i := 0) (v := ?vL0) rfl rfl (by kernel_rfl) (by kernel_rfl) (by kernel_rfl) (fun _ _ _ h => h) (Or.inl ⟨by rfl, fun wS hSw => ?hyL0⟩) (by assumption) ?restL0
    case hyL0 => (obtain s1 := hSw; go_simp; first | done | with_reducible rfl)
    try simp only [Act.put, List.setIfInBounds_toArray, List.set_cons_zero, List.set_cons_succ]
    refine take_dst (some 24) (i := 1) (v := ?vL1) rfl rfl (by kernel_rfl) (by kernel_rfl) (by kernel_rfl) (fun _ _ _ h => h) (Or.inl ⟨by rfl, fun wS hSw => ?hyL1⟩) (by assumption) ?restL1
    case hyL1 => (obtain s1 := hSw; go_simp; first | done | with_reducible rfl)
    try simp only [Act.put, List.setIfInBounds_toArray, List.set_cons_zero, List.set_cons_succ]
    refine take_dst (some 25) (i := 2) (v := .string ⟨d.1.toArray⟩) rfl rfl (by kernel_rfl) (by kernel_rfl) (by kernel_rfl) (fun _ _ _ h => h) (Or.inl ⟨by rfl, fun wS hSw => ?hyL2⟩) (by assumption) ?restL2
    case hyL2 => (have hcv := conv_bts (dig_bts (show CB wS w.heap.size 29 (bcells d.1) from hSw) Hdl.out); go_simp; first | done | with_reducible rfl)
    try simp only [Act.put, List.setIfInBounds_toArray, List.set_cons_zero, List.set_cons_succ]
    refine take_dst (some 26) (i := 3) (v := ?vL3) rfl rfl (by kernel_rfl) (by kernel_rfl) (by kernel_rfl) (fun _ _ _ h => h) (Or.inl ⟨by rfl, fun wS hSw => ?hyL3⟩) (by assumption) ?restL3
    case hyL3 => (obtain s1 := hSw; go_simp; first | done | with_reducible rfl)
    try simp only [Act.put, List.setIfInBounds_toArray, List.set_cons_zero, List.set_cons_succ]
    refine take_dst (some 29) (i := 6) (v := ?vL6) rfl rfl (by kernel_rfl) (by kernel_rfl) (by kernel_rfl) (fun _ _ _ h => h) (Or.inl ⟨by rfl, fun wS hSw => ?hyL6⟩) (by assumption) ?restL6
    case hyL6 => (obtain s1 := hSw; go_simp; first | done | with_reducible rfl)
    try simp only [Act.put, List.setIfInBounds_toArray, List.set_cons_zero, List.set_cons_succ]
    refine wpAnyH_ready (rs := [4]) (by kernel_rfl) (by simp) ?_
    refine AllReadyH.cons rfl (fun K hK => ?_) AllReadyH.nil
    go_simp
    change K _ (w1.alloc (bS (leafT, d.1)))
    have KX : Hid (Src Tryd.prog 2 45 (.slice (some ⟨w1.heap.size, 0, none⟩) 1 1) 1 (stK.flat [(leafT, d.1)]) (w1.alloc (bS (leafT, d.1)))) := src_el (K := stK) (a := (leafT, d.1)) Tryd.underlying45 (cb_one w1 _ _ _ rfl)
    have K62 := Lib.hid (K6.out.alloc (bS (leafT, d.1))); have K112 := Lib.hid (K11.out.alloc (bS (leafT, d.1))); have KB2 := Lib.hid (below_ext KB.out (b_al (bS (leafT, d.1)))); have KO2 := Lib.hid (KO.out.alloc (bS (leafT, d.1)))
    clear K6 K11 KB KO
    generalize w1.alloc (bS (leafT, d.1)) = w2 at *
    refine hK.out _ _ K62.out (fun hHeld => ?_)
    clear hK K
    try simp only [Act.put, List.setIfInBounds_toArray, List.set_cons_zero, List.set_cons_succ]
    refine wpAnyH_ready (rs := [5]) (by kernel_rfl) (by simp) ?_
    refine AllReadyH.cons rfl (fun K hK => ?_) AllReadyH.nil
    refine step_append_x (e := 67) (z := .agg #[.string ⟨#[]⟩, .string ⟨#[]⟩]) (size := 2) (bytes := 32) Tryd.underlying45 st_info rfl rfl (.tmp 23) (.tmp 27) rfl wb.heap.size v l.length (stK.flat l) rfl KO2.out _ 1 (stK.flat [(leafT, d.1)]) rfl KX.out (by have := Hll.out; unfold maxLen; omega) (by have := Hll.out; omega) (Nat.le_trans Hb0.out.size KB2.out.size) ?_
    intro v3 w3 ho3 hg3 hn3
    have KO3 : Hid (OwnK stK 67 w3 wb.heap.size v3 (l ++ [(leafT, d.1)])) := OwnK.append (K := stK) ho3 (by simp)
    have K63 := Lib.hid (cb_app K62.out KO2.out hg3 (by decide)); have K113 := Lib.hid (cb_app K112.out KO2.out hg3 (by decide))
    have GW3 := Lib.hid (grown_trans (grown_below KB2.out) hg3 (.inl rfl)); have NX3 := Lib.hid (Next.trans (Next.refl w v) KB2.out.size hn3)
    have HB3 := Lib.hid (OwnK.below (w0 := wb) (below_ext Hb0.out KB2.out) KO2.out hg3 (Nat.le_refl _))
    clear ho3 hg3 hn3 K62 K112 KB2 KO2 KX
    refine hK.out (Act.put _ (some 28) v3) w3 K63.out (fun hHeld => ?_)
    clear hK K
    try simp only [Act.put, List.setIfInBounds_toArray, List.set_cons_zero, List.set_cons_succ]
    refine wpAnyH_ready (rs := [7]) (by kernel_rfl) (by simp) ?_
    refine AllReadyH.cons rfl (fun K hK => ?_) AllReadyH.nil
    have hcall := Lib.hid (tagged_any ⟨#[108, 101, 97, 102]⟩ _ d.1 w3 (by decide) (by rw [Hdl.out]; decide) (dig_bts K63.out Hdl.out) (HL.out.ext HB3.out))
    go_simp
    refine hcall.out.mono ?_
    rintro e w4 ⟨rfl, hb4⟩
    rw [show tagged (ByteArray.data ⟨#[108, 101, 97, 102]⟩).toList d.1 = r.1 from Hr.out]
    have K114 : Hid (w4.heap[w.heap.size + 1]? = some (.cells (bcells dgZ.1).toArray 29 (0, 0))) := K113.out.ext hb4
    have K64 := Lib.hid (K63.out.ext hb4); have KO4 := Lib.hid (KO3.out.ext hb4); have GW4 := Lib.hid (grown_trans GW3.out (grown_below hb4) (.inl rfl))
    clear hb4 hcall K63 K113 KO3 GW3 HB3
    refine hK.out _ _ K64.out (fun hHeld => ?_)
    clear hK K
    try simp only [Act.put, List.setIfInBounds_toArray, List.set_cons_zero, List.set_cons_succ]
    refine take_dst (some 10) (i := 8) (v := ?vL8) rfl rfl (by kernel_rfl) (by kernel_rfl) (by kernel_rfl) (fun _ _ _ h => h) (Or.inl ⟨by rfl, fun wS hSw => ?hyL8⟩) (by assumption) ?restL8
    case hyL8 => (obtain s1 := hSw; go_simp; first | done | with_reducible rfl)
    try simp only [Act.put, List.setIfInBounds_toArray, List.set_cons_zero, List.set_cons_succ]
    refine wpAnyH_ready (rs := [9]) (by kernel_rfl) (by simp) ?_
    refine AllReadyH.cons rfl (fun K hK => ?_) AllReadyH.nil
    refine wpIf_store_d (by rfl) 29 (.tmp 11) (.tmp 30) rfl (w.heap.size + 1) r.1 Hrl.out rfl rfl 29 _ K114.out rfl dig_sz ?_
    intro w5 hc5 hg5 hz5
    have K65 := Lib.hid (K64.out.keep (hg5.out.block _ K64.out.lt (by intro e; injection e; omega)))
    have KO5 := Lib.hid (KO4.out.keepR hg5.out (.inr (own_ne KO4.out (show CB w4 (w.heap.size + 1) 29 (bcells dgZ.1) from K114.out) (by decide))))
    have GW5 := Lib.hid (grown_trans GW4.out hg5.out (.inr fun k hk => by injection hk; omega))
    refine hK.out (Act.put _ none undef) w5 K65.out (fun hHeld => ?_)
    clear hK K
    try simp only [Act.put]
    refine wpAnyH_done (by kernel_rfl) ?_ _
    go_wp2_with fail
    refine bodyPost_ret (v := .tuple #[v3, dv r.1]) (results_tmp_row rfl _ _ (w.heap.size + 1) 29 (bcells r.1).toArray (0, 0) _ v3 rfl rfl hc5.out Tryd.underlying29 rfl (by rw [List.size_toArray, bcells_length, Hrl.out]; exact dig_sz)) rfl ?_
    exact ⟨v3, by rw [HT.out], by rw [HW.out]; exact KO5.out, GW5.out, NX3.out⟩
  · have t1 : decide ((n : Int) ≤ 1) = false := decide_eq_false (by omega)
    have t1' : decide (n ≤ 1) = false := decide_eq_false h1
    have hp0 : p.length = 0 := by rcases h with h | h; omega; rw [h]; rfl
    have t2 : decide ((p.length : Int) = 0) = true := decide_eq_true (by omega)
    have t2' : decide (p.length = 0) = true := decide_eq_true hp0
    have t3 : ((p.length : Int) == 0) = true := by rw [beq_iff_eq]; omega
    clear h hn hp6 h1 hp0
    change Calls Tryd.prog 46 #[_, .agg (bcells d.1).toArray, _, _, _] w _
    go_enter Tryd.func46, Tryd.ntmps46
    go_upto_region 1 with fail
    change Code.wp _ _ _ _ ((w.alloc (bD d)).alloc ZD)
    generalize (w.alloc (bD d)).alloc ZD = w0 at *
    go_upto_region 2 with fail
    have K6 := Lib.hid (H6.out.ext (Below.refl w0.heap.size w0).drew); have K11 := Lib.hid (H11.out.ext (Below.refl w0.heap.size w0).drew); have KB := Lib.hid HB.out.drew; have KO := Lib.hid (HO.out.ext (Below.refl w0.heap.size w0).drew)
    refine wp_region_held_drew (S := fun w' => CB w' w.heap.size 29 (bcells d.1)) (by kernel_rfl) K6.out (fun hHeld => ?_)
    clear H6 H11 HB HO
    generalize w0.drew = w1 at *
    refine take_dst (some 23) (i := 0) (v := ?vM0) rfl rfl (by kernel_rfl) (by kernel_rfl) (by kernel_rfl) (fun _ _ _ h => h) (Or.inl ⟨by rfl, fun wS hSw => ?hyM0⟩) (by assumption) ?restM0
    case hyM0 => (obtain s1 := hSw; go_simp; first | done | with_reducible rfl)
    try simp only [Act.put, List.setIfInBounds_toArray, List.set_cons_zero, List.set_cons_succ]
    refine take_dst (some 24) (i := 1) (v := ?vM1) rfl rfl (by kernel_rfl) (by kernel_rfl) (by kernel_rfl) (fun _ _ _ h => h) (Or.inl ⟨by rfl, fun wS hSw => ?hyM1⟩) (by assumption) ?restM1
    case hyM1 => (obtain s1 := hSw; go_simp; first | done | with_reducible rfl)
    try simp only [Act.put, List.setIfInBounds_toArray, List.set_cons_zero, List.set_cons_succ]
    refine take_dst (some 25) (i := 2) (v := .string ⟨d.1.toArray⟩) rfl rfl (by kernel_rfl) (by kernel_rfl) (by kernel_rfl) (fun _ _ _ h => h) (Or.inl ⟨by rfl, fun wS hSw => ?hyM2⟩) (by assumption) ?restM2
    case hyM2 => (have hcv := conv_bts (dig_bts (show CB wS w.heap.size 29 (bcells d.1) from hSw) Hdl.out); go_simp; first | done | with_reducible rfl)
    try simp only [Act.put, List.setIfInBounds_toArray, List.set_cons_zero, List.set_cons_succ]
    refine take_dst (some 26) (i := 3) (v := ?vM3) rfl rfl (by kernel_rfl) (by kernel_rfl) (by kernel_rfl) (fun _ _ _ h => h) (Or.inl ⟨by rfl, fun wS hSw => ?hyM3⟩) (by assumption) ?restM3
    case hyM3 => (obtain s1 := hSw; go_simp; first | done | with_reducible rfl)
    try simp only [Act.put, List.setIfInBounds_toArray, List.set_cons_zero, List.set_cons_succ]
    refine take_dst (some 29) (i := 6) (v := ?vM6) rfl rfl (by kernel_rfl) (by kernel_rfl) (by kernel_rfl) (fun _ _ _ h => h) (Or.inl ⟨by rfl, fun wS hSw => ?hyM6⟩) (by assumption) ?restM6
    case hyM6 => (obtain s1 := hSw; go_simp; first | done | with_reducible rfl)
    try simp only [Act.put, List.setIfInBounds_toArray, List.set_cons_zero, List.set_cons_succ]
    refine wpAnyH_ready (rs := [4]) (by kernel_rfl) (by simp) ?_
    refine AllReadyH.cons rfl (fun K hK => ?_) AllReadyH.nil
    go_simp
    change K _ (w1.alloc (bS (leafT, d.1)))
    have KX : Hid (Src Tryd.prog 2 45 (.slice (some ⟨w1.heap.size, 0, none⟩) 1 1) 1 (stK.flat [(leafT, d.1)]) (w1.alloc (bS (leafT, d.1)))) := src_el (K := stK) (a := (leafT, d.1)) Tryd.underlying45 (cb_one w1 _ _ _ rfl)
    have K62 := Lib.hid (K6.out.alloc (bS (leafT, d.1))); have K112 := Lib.hid (K11.out.alloc (bS (leafT, d.1))); have KB2 := Lib.hid (below_ext KB.out (b_al (bS (leafT, d.1)))); have KO2 := Lib.hid (KO.out.alloc (bS (leafT, d.1)))
    clear K6 K11 KB KO
    generalize w1.alloc (bS (leafT, d.1)) = w2 at *
    refine hK.out _ _ K62.out (fun hHeld => ?_)
    clear hK K
    try simp only [Act.put, List.setIfInBounds_toArray, List.set_cons_zero, List.set_cons_succ]
    refine wpAnyH_ready (rs := [5]) (by kernel_rfl) (by simp) ?_
    refine AllReadyH.cons rfl (fun K hK => ?_) AllReadyH.nil
    refine step_append_x (e := 67) (z := .agg #[.string ⟨#[]⟩, .string ⟨#[]⟩]) (size := 2) (bytes := 32) Tryd.underlying45 st_info rfl rfl (.tmp 23) (.tmp 27) rfl wb.heap.size v l.length (stK.flat l) rfl KO2.out _ 1 (stK.flat [(leafT, d.1)]) rfl KX.out (by have := Hll.out; unfold maxLen; omega) (by have := Hll.out; omega) (Nat.le_trans Hb0.out.size KB2.out.size) ?_
    intro v3 w3 ho3 hg3 hn3
    have KO3 : Hid (OwnK stK 67 w3 wb.heap.size v3 (l ++ [(leafT, d.1)])) := OwnK.append (K := stK) ho3 (by simp)
    have K63 := Lib.hid (cb_app K62.out KO2.out hg3 (by decide)); have K113 := Lib.hid (cb_app K112.out KO2.out hg3 (by decide))
    have GW3 := Lib.hid (grown_trans (grown_below KB2.out) hg3 (.inl rfl)); have NX3 := Lib.hid (Next.trans (Next.refl w v) KB2.out.size hn3)
    have HB3 := Lib.hid (OwnK.below (w0 := wb) (below_ext Hb0.out KB2.out) KO2.out hg3 (Nat.le_refl _))
    clear ho3 hg3 hn3 K62 K112 KB2 KO2 KX
    refine hK.out (Act.put _ (some 28) v3) w3 K63.out (fun hHeld => ?_)
    clear hK K
    try simp only [Act.put, List.setIfInBounds_toArray, List.set_cons_zero, List.set_cons_succ]
    refine wpAnyH_ready (rs := [7]) (by kernel_rfl) (by simp) ?_
    refine AllReadyH.cons rfl (fun K hK => ?_) AllReadyH.nil
    have hcall := Lib.hid (tagged_any ⟨#[108, 101, 97, 102]⟩ _ d.1 w3 (by decide) (by rw [Hdl.out]; decide) (dig_bts K63.out Hdl.out) (HL.out.ext HB3.out))
    go_simp
    refine hcall.out.mono ?_
    rintro e w4 ⟨rfl, hb4⟩
    rw [show tagged (ByteArray.data ⟨#[108, 101, 97, 102]⟩).toList d.1 = r.1 from Hr.out]
    have K114 : Hid (w4.heap[w.heap.size + 1]? = some (.cells (bcells dgZ.1).toArray 29 (0, 0))) := K113.out.ext hb4
    have K64 := Lib.hid (K63.out.ext hb4); have KO4 := Lib.hid (KO3.out.ext hb4); have GW4 := Lib.hid (grown_trans GW3.out (grown_below hb4) (.inl rfl))
    clear hb4 hcall K63 K113 KO3 GW3 HB3
    refine hK.out _ _ K64.out (fun hHeld => ?_)
    clear hK K
    try simp only [Act.put, List.setIfInBounds_toArray, List.set_cons_zero, List.set_cons_succ]
    refine take_dst (some 10) (i := 8) (v := ?vM8) rfl rfl (by kernel_rfl) (by kernel_rfl) (by kernel_rfl) (fun _ _ _ h => h) (Or.inl ⟨by rfl, fun wS hSw => ?hyM8⟩) (by assumption) ?restM8
    case hyM8 => (obtain s1 := hSw; go_simp; first | done | with_reducible rfl)
    try simp only [Act.put, List.setIfInBounds_toArray, List.set_cons_zero, List.set_cons_succ]
    refine wpAnyH_ready (rs := [9]) (by kernel_rfl) (by simp) ?_
    refine AllReadyH.cons rfl (fun K hK => ?_) AllReadyH.nil
    refine wpIf_store_d (by rfl) 29 (.tmp 11) (.tmp 30) rfl (w.heap.size + 1) r.1 Hrl.out rfl rfl 29 _ K114.out rfl dig_sz ?_
    intro w5 hc5 hg5 hz5
    have K65 := Lib.hid (K64.out.keep (hg5.out.block _ K64.out.lt (by intro e; injection e; omega)))
    have KO5 := Lib.hid (KO4.out.keepR hg5.out (.inr (own_ne KO4.out (show CB w4 (w.heap.size + 1) 29 (bcells dgZ.1) from K114.out) (by decide))))
    have GW5 := Lib.hid (grown_trans GW4.out hg5.out (.inr fun k hk => by injection hk; omega))
    refine hK.out (Act.put _ none undef) w5 K65.out (fun hHeld => ?_)
    clear hK K
    try simp only [Act.put]
    refine wpAnyH_done (by kernel_rfl) ?_ _
    go_wp2_with fail
    refine bodyPost_ret (v := .tuple #[v3, dv r.1]) (results_tmp_row rfl _ _ (w.heap.size + 1) 29 (bcells r.1).toArray (0, 0) _ v3 rfl rfl hc5.out Tryd.underlying29 rfl (by rw [List.size_toArray, bcells_length, Hrl.out]; exact dig_sz)) rfl ?_
    exact ⟨v3, by rw [HT.out], by rw [HW.out]; exact KO5.out, GW5.out, NX3.out⟩
set_option maxRecDepth 100000 in
set_option maxHeartbeats 8000000 in
theorem lclimb_any (K : Nat) : ∀ (d : Dg) (n a : Nat) (p : List Dg) (l : List Stp) (v pv : Value) (wb w : World), p.length = K → K ≤ 64 → n ≤ 64 → a ≤ 64 → LsAt digK wb.heap.size wb p pv → OwnK stK 67 w wb.heap.size v l → Below wb.heap.size wb w → l.length + K ≤ 200 → Laid wb →
    Calls Tryd.prog 46 #[v, dv d.1, .int .i64 (a : Int), .int .i64 (n : Int), pv] w (ClPost d n a p l v wb w) := by
  induction K with
  | zero =>
    intro d n a p l v pv wb w hpl hK hn ha hp ho hb0 hl hLd
    exact lclimb_end d n a p l v pv wb w (.inr (List.eq_nil_of_length_eq_zero hpl)) hn (by omega) hp ho hb0 (by omega) hLd
  | succ m ih =>
    intro d n a p l v pv wb w hpl hK h64 ha hp ho hb0 hl hLd
    by_cases hn : n ≤ 1
    · exact lclimb_end d n a p l v pv wb w (.inl hn) h64 (by omega) hp ho hb0 (by omega) hLd
    have Hdl := Lib.hid d.2
    have H6 : Hid (CB ((w.alloc (bD d)).alloc ZD) w.heap.size 29 (bcells d.1)) := (cb_one w _ _ _ rfl).alloc _
    have H11 : Hid (CB ((w.alloc (bD d)).alloc ZD) (w.heap.size + 1) 29 (bcells dgZ.1)) := by
      have := cb_one (w.alloc (bD d)) ZD _ _ rfl
      rw [World.size_alloc] at this; exact this
    have HB : Hid (Below w.heap.size w ((w.alloc (bD d)).alloc ZD)) := by
      refine Below.alloc ((Below.refl w.heap.size w).alloc (Nat.le_refl _) _) ?_ _; simp only [World.size_alloc]; omega
    have HS : Hid (((w.alloc (bD d)).alloc ZD).heap.size = w.heap.size + 2) := by show _ = _; rw [World.size_alloc, World.size_alloc]
    have HO : Hid (OwnK stK 67 ((w.alloc (bD d)).alloc ZD) wb.heap.size v l) := (ho.alloc _).alloc _
    have HL := Lib.hid hLd; have Hb0 := Lib.hid hb0; have Hll := Lib.hid hl; have How := Lib.hid ho
    have h2 : 2 ≤ n := by omega
    have t1 : decide ((n : Int) ≤ 1) = false := decide_eq_false (by omega)
    have t1' : decide (n ≤ 1) = false := decide_eq_false hn
    have t2 : decide ((p.length : Int) = 0) = false := decide_eq_false (by omega)
    have t2' : decide (p.length = 0) = false := decide_eq_false (by omega)
    have t3 : ((p.length : Int) == 0) = false := by rw [beq_eq_false_iff_ne]; omega
    obtain ⟨a1, a2, a3⟩ := half_lt h2
    have HH : Hid (∀ W, _) := Lib.hid (fun W => lhalf_any n W h2 h64)
    obtain ⟨k, hk⟩ : ∃ k, halfN n = k := ⟨_, rfl⟩
    rw [hk] at HH a1 a2 a3
    have b4 : (n : Int) ≤ 64 := by omega
    have b5 : (a : Int) ≤ 64 := by omega
    have hle : p ≠ [] := by intro e; rw [e] at hpl; simp at hpl
    obtain ⟨y, hy⟩ : ∃ y, p[m]? = some y := ⟨_, List.getElem?_eq_getElem (by omega)⟩
    have hsplit : p.take m ++ [y] = p := by
      have := List.take_add_one (l := p) (i := m)
      rw [hy, List.take_of_length_le (by omega)] at this
      exact this.symm
    have Hyl := Lib.hid y.2
    obtain ⟨b, off, cap, rfl, hlc, hcm⟩ := hp.some_at hle
    have c1 : (p.length : Int) ≤ 64 := by omega
    have c2 : (p.length : Int) - 1 = (m : Int) := by omega
    have c3 : (m : Int) < (p.length : Int) := by omega
    have c2w : IntKind.i64.wrap (m : Int) = (m : Int) := IntWalk.i64_in _ (by omega)
    have c4 : m ≤ cap := by omega
    have c5 : (m : Int) ≤ (cap : Int) := by omega
    have c6 : (0 : Int) < (p.length : Int) := by omega
    by_cases hak : a < k
    · skip
      have tk : decide ((a : Int) < (k : Int)) = true := by simp; omega
      have tk' : decide (a < k) = true := by simp; omega
      have HR : Hid (∀ W, OwnK stK 67 W wb.heap.size v l → Below wb.heap.size wb W → Calls Tryd.prog 46 #[v, dv d.1, .int .i64 ((a : Nat) : Int), .int .i64 ((k : Nat) : Int), .slice (some ⟨b, off, none⟩) m cap] W (ClPost d k a (p.take m) l v wb W)) := fun W hoW hbW =>
        ih d k a (p.take m) l v _ wb W (by rw [List.length_take]; omega) (by omega) (by omega) (by omega) (hp.takeS m hle (by omega)) hoW hbW (by omega) hLd
      have hrs := topW_lt (d := d) (z := y) (n := n) (a := a) (p := p.take m) h2 (by rw [hk]; exact hak)
      have hss := stW_lt (d := d) (z := y) (n := n) (a := a) (p := p.take m) h2 (by rw [hk]; exact hak)
      rw [hsplit, hk] at hrs hss
      have hwl := stW_most d m k a (p.take m) (by rw [List.length_take]; omega)
      obtain ⟨u, hu⟩ : ∃ u, topW d k a (p.take m) = u := ⟨_, rfl⟩
      rw [hu] at hrs hss
      obtain ⟨z, hz⟩ : ∃ z, topW d n a p = z := ⟨_, rfl⟩
      rw [hz] at hrs
      obtain ⟨lu, hlu⟩ : ∃ lu, l ++ stW d k a (p.take m) = lu := ⟨_, rfl⟩
      have Hst : Hid (l ++ stW d n a p = lu ++ [(nodeT, u.1 ++ y.1)]) := by show _ = _; rw [hss, ← List.append_assoc, hlu]
      have Hlu : Hid (lu.length ≤ 400) := by show _ ≤ _; rw [← hlu, List.length_append]; omega
      have hul := u.2; have hzl := z.2
      have HU := Lib.hid hu
      have HZ : Hid (nodeD u y = z) := hrs.symm
      have HZ : Hid (tagged nodeT (u.1 ++ y.1) = z.1) := congrArg Subtype.val HZ.out
      have Hul := Lib.hid hul; have Hzl := Lib.hid hzl; have HTz := Lib.hid hz; have Hluu := Lib.hid hlu
      have Hv := Lib.hid hp; have Hy := Lib.hid hy
      change Calls _ _ _ _ (fun e w' => ∃ v', e = .returned (.tuple #[v', dv (topW d n a p).1]) ∧ OwnK stK 67 w' wb.heap.size v' (l ++ stW d n a p) ∧ w.grownBy w' v.ownBlock ∧ Next w v v')
      rw [hz]
      clear hp hy ih hrs hss hwl hu hz hlu hul hzl hsplit hn h64 hpl hlc hcm hle hk h2 hb0 hl ho hLd hK
      change Calls Tryd.prog 46 #[_, .agg (bcells d.1).toArray, _, _, _] w _
      go_enter Tryd.func46, Tryd.ntmps46
      go_upto_region 1 with fail
      change Code.wp _ _ _ _ ((w.alloc (bD d)).alloc ZD)
      generalize (w.alloc (bD d)).alloc ZD = w0 at *
      go_upto_region 3 with fail
      have Hyr := Lib.hid (LsAt.range rfl (Hv.out.ext (below_ext Hb0.out HB.out)) Hy.out)
      have HZ0 : Hid ((w0.alloc ZD).heap[w0.heap.size]? = some (.cells (bcells dgZ.1).toArray 29 (0, 0))) := cb_one w0 ZD _ _ rfl
      rw [HS.out] at HZ0
      have hS := HS.out
      go_upto_region 4 with (first
        | (with_reducible refine wpList_load_mid rfl 29 (.tmp 35) rfl b (off + m * 32) rfl (bcells y.1) _ Hyr.out Tryd.underlying29 rfl (by rw [bcells_length, Hyl.out]; exact dig_sz) ?_)
        | (have _g := HZ0.out; refine wpList_store_d (hgd := rfl) 29 (.tmp 12) (.tmp 36) rfl (w.heap.size + 2) y.1 Hyl.out rfl rfl 29 _ HZ0.out rfl dig_sz ?_; go_loud (intro w2 hc2 hg2 hz2)))
      change Code.wp _ _ _ _ w2
      have H122 : Hid (CB w2 (w.heap.size + 2) 29 (bcells y.1)) := hc2.out
      have H6' := H6.out.lt; have H11' := H11.out.lt
      have H62 : Hid (CB w2 w.heap.size 29 (bcells d.1)) := (H6.out.alloc ZD).keep (hg2.out.block _ (by rw [World.size_alloc]; omega) (by intro e; injection e; omega))
      have H112 : Hid (CB w2 (w.heap.size + 1) 29 (bcells dgZ.1)) := (H11.out.alloc ZD).keep (hg2.out.block _ (by rw [World.size_alloc]; omega) (by intro e; injection e; omega))
      have HB2 : Hid (Below w.heap.size w w2) := (HB.out.alloc HB.out.size ZD).grown hg2.out (by rw [World.size_alloc]; have := HB.out.size; omega) (fun k hk => by injection hk; omega)
      have HO2 : Hid (OwnK stK 67 w2 wb.heap.size v l) := How.out.ext HB2.out
      have HG14 : Hid (w.heap.size + 2 < w2.heap.size) := H122.out.lt
      clear hc2 hg2 hz2 H6 H11 HB HO HZ0 Hyr H6' H11' hS HS
      have H6 : Hid (CB (w2.alloc ZD) w.heap.size 29 (bcells d.1)) := H62.out.alloc _
      have H11 : Hid (CB (w2.alloc ZD) (w.heap.size + 1) 29 (bcells dgZ.1)) := H112.out.alloc _
      have H12 : Hid (CB (w2.alloc ZD) (w.heap.size + 2) 29 (bcells y.1)) := H122.out.alloc _
      have H14 : Hid (CB (w2.alloc ZD) w2.heap.size 29 (bcells dgZ.1)) := cb_one w2 ZD _ _ rfl
      have HB : Hid (Below w.heap.size w (w2.alloc ZD)) := below_ext HB2.out (b_al ZD)
      have HO : Hid (OwnK stK 67 (w2.alloc ZD) wb.heap.size v l) := HO2.out.alloc _
      clear H62 H112 H122 HB2 HO2
      go_upto_region 8 with (go_at_call 64; refine (HH.out w2).mono ?_; rintro e w' ⟨rfl, rfl⟩)
      change Code.wp _ _ _ _ (w2.alloc ZD)
      generalize hg14 : w2.heap.size = g14 at *
      have Hg14 : Hid (w.heap.size + 2 < g14) := HG14.out
      clear hg14 HG14
      generalize w2.alloc ZD = w3 at *
      have K6 := Lib.hid (H6.out.ext (Below.refl w3.heap.size w3).drew); have K11 := Lib.hid (H11.out.ext (Below.refl w3.heap.size w3).drew); have K12 := Lib.hid (H12.out.ext (Below.refl w3.heap.size w3).drew); have K14 := Lib.hid (H14.out.ext (Below.refl w3.heap.size w3).drew); have KB := Lib.hid HB.out.drew; have KO := Lib.hid (HO.out.ext (Below.refl w3.heap.size w3).drew)
      refine wp_region_held_drew (S := fun w' => w'.rangeAt w.heap.size 0 (bcells d.1)) (by kernel_rfl) (cb_rng K6.out) (fun hHeld => ?_)
      clear H6 H11 H12 H14 HB HO
      generalize w3.drew = w4 at *
      refine take_dst (some 43) (i := 0) (v := ?vP0) rfl rfl (by kernel_rfl) (by kernel_rfl) (by kernel_rfl) (fun _ _ _ h => h) (Or.inl ⟨by rfl, fun wS hSw => ?hyP0⟩) (by assumption) ?restP0
      case hyP0 => (obtain s1 := hSw; go_simp; first | done | with_reducible rfl)
      try simp only [Act.put, List.setIfInBounds_toArray, List.set_cons_zero, List.set_cons_succ]
      refine take_dst (some 44) (i := 1) (v := dv d.1) rfl rfl (by kernel_rfl) (by kernel_rfl) (by kernel_rfl) (fun _ _ _ h => h) (yieldsIf_load_mid (by rfl) 29 _ rfl w.heap.size 0 rfl (bcells d.1) _ (fun wS hSw => by exact hSw) Tryd.underlying29 rfl (by rw [bcells_length, Hdl.out]; exact dig_sz)) (by assumption) ?restP1
      try simp only [Act.put, List.setIfInBounds_toArray, List.set_cons_zero, List.set_cons_succ]
      refine take_dst (some 45) (i := 2) (v := ?vP2) rfl rfl (by kernel_rfl) (by kernel_rfl) (by kernel_rfl) (fun _ _ _ h => h) (Or.inl ⟨by rfl, fun wS hSw => ?hyP2⟩) (by assumption) ?restP2
      case hyP2 => (obtain s1 := hSw; go_simp; first | done | with_reducible rfl)
      try simp only [Act.put, List.setIfInBounds_toArray, List.set_cons_zero, List.set_cons_succ]
      refine take_dst (some 46) (i := 3) (v := ?vP3) rfl rfl (by kernel_rfl) (by kernel_rfl) (by kernel_rfl) (fun _ _ _ h => h) (Or.inl ⟨by rfl, fun wS hSw => ?hyP3⟩) (by assumption) ?restP3
      case hyP3 => (obtain s1 := hSw; go_simp; first | done | with_reducible rfl)
      try simp only [Act.put, List.setIfInBounds_toArray, List.set_cons_zero, List.set_cons_succ]
      refine take_dst (some 47) (i := 4) (v := ?vP4) rfl rfl (by kernel_rfl) (by kernel_rfl) (by kernel_rfl) (fun _ _ _ h => h) (Or.inl ⟨by rfl, fun wS hSw => ?hyP4⟩) (by assumption) ?restP4
      case hyP4 => (obtain s1 := hSw; go_simp; first | done | with_reducible rfl)
      try simp only [Act.put, List.setIfInBounds_toArray, List.set_cons_zero, List.set_cons_succ]
      refine take_dst (some 48) (i := 5) (v := ?vP5) rfl rfl (by kernel_rfl) (by kernel_rfl) (by kernel_rfl) (fun _ _ _ h => h) (Or.inl ⟨by rfl, fun wS hSw => ?hyP5⟩) (by assumption) ?restP5
      case hyP5 => (obtain s1 := hSw; go_simp; first | done | with_reducible rfl)
      try simp only [Act.put, List.setIfInBounds_toArray, List.set_cons_zero, List.set_cons_succ]
      refine take_dst (some 49) (i := 6) (v := ?vP6) rfl rfl (by kernel_rfl) (by kernel_rfl) (by kernel_rfl) (fun _ _ _ h => h) (Or.inl ⟨by rfl, fun wS hSw => ?hyP6⟩) (by assumption) ?restP6
      case hyP6 => (obtain s1 := hSw; go_simp; first | done | with_reducible rfl)
      try simp only [Act.put, List.setIfInBounds_toArray, List.set_cons_zero, List.set_cons_succ]
      refine take_dst (some 50) (i := 7) (v := ?vP7) rfl rfl (by kernel_rfl) (by kernel_rfl) (by kernel_rfl) (fun _ _ _ h => h) (Or.inl ⟨by rfl, fun wS hSw => ?hyP7⟩) (by assumption) ?restP7
      case hyP7 => (obtain s1 := hSw; go_simp; first | done | with_reducible rfl)
      try simp only [Act.put, List.setIfInBounds_toArray, List.set_cons_zero, List.set_cons_succ]
      refine take_dst (some 51) (i := 8) (v := ?vP8) rfl rfl (by kernel_rfl) (by kernel_rfl) (by kernel_rfl) (fun _ _ _ h => h) (Or.inl ⟨by rfl, fun wS hSw => ?hyP8⟩) (by assumption) ?restP8
      case hyP8 => (obtain s1 := hSw; go_simp; first | done | with_reducible rfl)
      try simp only [Act.put, List.setIfInBounds_toArray, List.set_cons_zero, List.set_cons_succ]
      refine wpAnyH_ready (rs := [9]) (by kernel_rfl) (by simp) ?_
      refine AllReadyH.cons rfl (fun K hK => ?_) AllReadyH.nil
      go_simp
      refine (HR.out w4 KO.out (below_ext Hb0.out KB.out)).mono ?_
      rintro e w5 ⟨v5, rfl, ho5, hg5, hn5⟩
      rw [Hluu.out] at ho5
      have K65 := Lib.hid (cb_app K6.out KO.out hg5 (by decide)); have K115 := Lib.hid (cb_app K11.out KO.out hg5 (by decide)); have K125 := Lib.hid (cb_app K12.out KO.out hg5 (by decide))
      have K145 : Hid (w5.heap[g14]? = some (.cells (bcells dgZ.1).toArray 29 (0, 0))) := cb_app K14.out KO.out hg5 (by decide)
      have KO5 := Lib.hid ho5; have GW5 := Lib.hid (grown_trans (grown_below KB.out) hg5 (.inl rfl)); have NX5 := Lib.hid (Next.trans (Next.refl w v) KB.out.size hn5)
      have HB5 := Lib.hid (OwnK.below (w0 := wb) (below_ext Hb0.out KB.out) KO.out hg5 (Nat.le_refl _))
      rw [HU.out]
      clear ho5 hg5 hn5 K6 K11 K12 K14 KB KO
      refine hK.out _ _ (cb_rng K65.out) (fun hHeld => ?_)
      clear hK K
      try simp only [Act.put, List.setIfInBounds_toArray, List.set_cons_zero, List.set_cons_succ]
      refine take_dst (some 42) (i := 10) (v := ?vP10) rfl rfl (by kernel_rfl) (by kernel_rfl) (by kernel_rfl) (fun _ _ _ h => h) (Or.inl ⟨by rfl, fun wS hSw => ?hyP10⟩) (by assumption) ?restP10
      case hyP10 => (obtain s1 := hSw; go_simp; first | done | with_reducible rfl)
      try simp only [Act.put, List.setIfInBounds_toArray, List.set_cons_zero, List.set_cons_succ]
      refine take_dst (some 53) (i := 11) (v := ?vP11) rfl rfl (by kernel_rfl) (by kernel_rfl) (by kernel_rfl) (fun _ _ _ h => h) (Or.inl ⟨by rfl, fun wS hSw => ?hyP11⟩) (by assumption) ?restP11
      case hyP11 => (obtain s1 := hSw; go_simp; first | done | with_reducible rfl)
      try simp only [Act.put, List.setIfInBounds_toArray, List.set_cons_zero, List.set_cons_succ]
      refine take_dst (some 54) (i := 12) (v := ?vP12) rfl rfl (by kernel_rfl) (by kernel_rfl) (by kernel_rfl) (fun _ _ _ h => h) (Or.inl ⟨by rfl, fun wS hSw => ?hyP12⟩) (by assumption) ?restP12
      case hyP12 => (obtain s1 := hSw; go_simp; first | done | with_reducible rfl)
      try simp only [Act.put, List.setIfInBounds_toArray, List.set_cons_zero, List.set_cons_succ]
      refine take_dst (some 0) (i := 13) (v := ?vP13) rfl rfl (by kernel_rfl) (by kernel_rfl) (by kernel_rfl) (fun _ _ _ h => h) (Or.inl ⟨by rfl, fun wS hSw => ?hyP13⟩) (by assumption) ?restP13
      case hyP13 => (obtain s1 := hSw; go_simp; first | done | with_reducible rfl)
      try simp only [Act.put, List.setIfInBounds_toArray, List.set_cons_zero]
      refine wpAnyH_ready (rs := [14]) (by kernel_rfl) (by simp) ?_
      refine AllReadyH.cons rfl (fun K hK => ?_) AllReadyH.nil
      refine wpIf_store_d (by rfl) 29 (.tmp 14) (.tmp 54) rfl g14 u.1 Hul.out rfl rfl 29 _ K145.out rfl dig_sz ?_
      intro w6 hc6 hg6 hz6
      have K66 := Lib.hid (K65.out.keep (hg6.out.block _ K65.out.lt (by intro e; injection e with e; have := Hg14.out; omega))); have K116 := Lib.hid (K115.out.keep (hg6.out.block _ K115.out.lt (by intro e; injection e with e; have := Hg14.out; omega))); have K126 := Lib.hid (K125.out.keep (hg6.out.block _ K125.out.lt (by intro e; injection e with e; have := Hg14.out; omega)))
      have KO6 := Lib.hid (KO5.out.keepR hg6.out (.inr (own_ne KO5.out (show CB w5 g14 29 (bcells dgZ.1) from K145.out) (by decide))))
      have GW6 := Lib.hid (grown_trans GW5.out hg6.out (.inr fun k hk => by injection hk with hk; have := Hg14.out; omega))
      have HB6 := Lib.hid (HB5.out.grown hg6.out HB5.out.size (fun k hk => by injection hk with hk; have := Hg14.out; have := Hb0.out.size; omega))
      refine hK.out (Act.put _ none undef) w6 (cb_rng K66.out) (fun hHeld => ?_)
      clear hK K
      try simp only [Act.put]
      refine wpAnyH_done (by kernel_rfl) ?_ _
      have K146 : Hid (CB w6 g14 29 (bcells u.1)) := hc6.out
      clear hc6 hg6 hz6 K65 K115 K125 K145 KO5 GW5 HB5 K66
      go_upto_region 9 with fail
      have J11 := Lib.hid (K116.out.ext (Below.refl w6.heap.size w6).drew); have J12 := Lib.hid (K126.out.ext (Below.refl w6.heap.size w6).drew); have J14 := Lib.hid (K146.out.ext (Below.refl w6.heap.size w6).drew); have JB := Lib.hid HB6.out.drew; have JO := Lib.hid (KO6.out.ext (Below.refl w6.heap.size w6).drew); have JG := Lib.hid (grown_trans GW6.out (grown_below (Below.refl w6.heap.size w6).drew) (.inl rfl))
      refine wp_region_held_drew (S := fun w' => True) (by kernel_rfl) trivial (fun hHeld => ?_)
      clear K116 K126 K146 HB6 KO6 GW6
      generalize w6.drew = w7 at *
      refine take_dst (some 55) (i := 0) (v := ?vPa0) rfl rfl (by kernel_rfl) (by kernel_rfl) (by kernel_rfl) (fun _ _ _ h => h) (Or.inl ⟨by rfl, fun wS hSw => ?hyPa0⟩) (by assumption) ?restPa0
      case hyPa0 => (obtain s1 := hSw; go_simp; first | done | with_reducible rfl)
      try simp only [Act.put, List.setIfInBounds_toArray, List.set_cons_zero, List.set_cons_succ]
      refine take_dst (some 56) (i := 1) (v := ?vPa1) rfl rfl (by kernel_rfl) (by kernel_rfl) (by kernel_rfl) (fun _ _ _ h => h) (Or.inl ⟨by rfl, fun wS hSw => ?hyPa1⟩) (by assumption) ?restPa1
      case hyPa1 => (obtain s1 := hSw; go_simp; first | done | with_reducible rfl)
      try simp only [Act.put, List.setIfInBounds_toArray, List.set_cons_zero, List.set_cons_succ]
      refine take_dst (some 58) (i := 3) (v := ?vPa3) rfl rfl (by kernel_rfl) (by kernel_rfl) (by kernel_rfl) (fun _ _ _ h => h) (Or.inl ⟨by rfl, fun wS hSw => ?hyPa3⟩) (by assumption) ?restPa3
      case hyPa3 => (obtain s1 := hSw; go_simp; first | done | with_reducible rfl)
      try simp only [Act.put, List.setIfInBounds_toArray, List.set_cons_zero, List.set_cons_succ]
      refine wpAnyH_ready (rs := [2]) (by kernel_rfl) (by simp) ?_
      refine AllReadyH.cons rfl (fun K hK => ?_) AllReadyH.nil
      refine step_append_B (e := 5) Tryd.underlying50 (by kernel_rfl) rfl (.tmp 55) (.tmp 56) rfl w7.heap.size _ [] rfl (OwnB.nil _ _ _) _ u.1 rfl (SrcB.ofBts (P := Tryd.prog) (tx := 50) Tryd.underlying50 (dig_bts J14.out Hul.out)) (by simp [Hul.out]) (Nat.le_refl _) ?_
      intro v8 w8 ho8 hg8 hn8
      have HO8 := Lib.hid ho8; have hb8 : Below w7.heap.size w7 w8 := (Below.refl w7.heap.size w7).grown hg8 (Nat.le_refl _) (fun k hk => by cases hk)
      have Hb8 := Lib.hid hb8
      have J128 := Lib.hid (J12.out.ext hb8); have J148 := Lib.hid (J14.out.ext hb8)
      clear ho8 hg8 hn8 hb8
      refine hK.out (Act.put _ (some 57) v8) w8 trivial (fun hHeld => ?_)
      clear hK K
      try simp only [Act.put, List.setIfInBounds_toArray, List.set_cons_zero, List.set_cons_succ]
      refine wpAnyH_ready (rs := [4]) (by kernel_rfl) (by simp) ?_
      refine AllReadyH.cons rfl (fun K hK => ?_) AllReadyH.nil
      refine step_append_B (e := 5) Tryd.underlying50 (by kernel_rfl) rfl (.tmp 57) (.tmp 58) rfl w7.heap.size _ ([] ++ u.1) rfl HO8.out _ y.1 rfl (SrcB.ofBts (P := Tryd.prog) (tx := 50) Tryd.underlying50 (dig_bts J128.out Hyl.out)) (by simp [Hyl.out, Hul.out]) Hb8.out.size ?_
      intro v9 w9 ho9 hg9 hn9
      have HO9 := Lib.hid ho9; have hb9 : Below w7.heap.size w7 w9 := Hb8.out.grown hg9 Hb8.out.size (fun k hk => (World.ownsRow.lt HO8.out k hk).1)
      have J119 : Hid (CB w9 (w.heap.size + 1) 29 (bcells dgZ.1)) := J11.out.ext hb9
      have JB9 := Lib.hid (below_ext JB.out hb9); have JO9 := Lib.hid (JO.out.ext hb9); have JG9 := Lib.hid (grown_trans JG.out (grown_below hb9) (.inl rfl))
      clear ho9 hg9 hn9 hb9 JB JO JG J11 J12 J14 J128 J148 HO8 Hb8
      refine hK.out (Act.put _ (some 59) v9) w9 trivial (fun hHeld => ?_)
      clear hK K
      try simp only [Act.put, List.setIfInBounds_toArray, List.set_cons_zero, List.set_cons_succ]
      refine take_dst (some 15) (i := 5) (v := ?vPa5) rfl rfl (by kernel_rfl) (by kernel_rfl) (by kernel_rfl) (fun _ _ _ h => h) (Or.inl ⟨by rfl, fun wS hSw => ?hyPa5⟩) (by assumption) ?restPa5
      case hyPa5 => (obtain s1 := hSw; go_simp; first | done | with_reducible rfl)
      try simp only [Act.put, List.setIfInBounds_toArray, List.set_cons_zero, List.set_cons_succ]
      refine wpAnyH_done (by kernel_rfl) ?_ _
      rw [List.nil_append] at HO9
      have hcv := conv_bts (own_bts HO9.out)
      have hbb : (u.1 ++ y.1).length = 64 := by rw [List.length_append, Hyl.out, Hul.out]
      have hz2 : tagged nodeT (u.1 ++ y.1) = z.1 := HZ.out
      have hst2 := Hst.out
      obtain ⟨bb, hbe⟩ : ∃ bb, u.1 ++ y.1 = bb := ⟨_, rfl⟩
      rw [hbe] at HO9 hcv hbb hz2 hst2
      have Hz2 := Lib.hid hz2; have Hst2 := Lib.hid hst2; have Hbl := Lib.hid hbb
      clear hbe hbb hz2 hst2
      have KX : Hid (Src Tryd.prog 2 45 (.slice (some ⟨w9.heap.size, 0, none⟩) 1 1) 1 (stK.flat [(nodeT, bb)]) (w9.alloc (bS (nodeT, bb)))) := src_el (K := stK) (a := (nodeT, bb)) Tryd.underlying45 (cb_one w9 _ _ _ rfl)
      have JOA := Lib.hid (JO9.out.alloc (bS (nodeT, bb))); have J11A := Lib.hid (J119.out.alloc (bS (nodeT, bb))); have JBA := Lib.hid (below_ext JB9.out (b_al (bS (nodeT, bb)))); have JGA := Lib.hid (grown_alloc JG9.out (bS (nodeT, bb))); have HOA := Lib.hid (OwnB.alloc HO9.out (bS (nodeT, bb)))
      skip
      clear JO9 J119 JB9 JG9 HO9
      go_wp2_with (first
        | (at_builtin; go_loud (
            refine wpList_append_x (e := 67) (z := .agg #[.string ⟨#[]⟩, .string ⟨#[]⟩]) (size := 2) (bytes := 32) Tryd.underlying45 st_info rfl rfl (.tmp 82) (.tmp 86) rfl wb.heap.size _ _ (stK.flat lu) rfl JOA.out _ 1 (stK.flat [(nodeT, bb)]) rfl KX.out (by have := Hlu.out; unfold maxLen; omega) (by have := Hlu.out; omega) JBA.out.size ?_
            intro vE wE hoE hgE hnE
            have KOE : Hid (OwnK stK 67 wE wb.heap.size vE (lu ++ [(nodeT, bb)])) := OwnK.append (K := stK) hoE (by simp)
            have K11E := Lib.hid (cb_app J11A.out JOA.out hgE (by decide))
            have HBE := Lib.hid (OwnK.below (w0 := wb) JBA.out JOA.out hgE (Nat.le_refl _))
            have GWE := Lib.hid (grown_next JGA.out NX5.out hgE); have NXE := Lib.hid (Next.trans NX5.out JGA.out.size hnE)
            have HOE := Lib.hid (OwnB.kept HOA.out hgE (ownB_ne HOA.out JOA.out))
            have hcall := Lib.hid (tagged_any ⟨#[110, 111, 100, 101]⟩ v9 bb wE (by decide) (by rw [Hbl.out]; decide) (own_bts HOE.out) (HL.out.ext HBE.out))
            clear hoE hgE hnE KX JOA J11A JBA JGA HOA))
        | (go_at_call 23; refine hcall.out.mono ?_; go_loud (
            rintro e wF ⟨rfl, hbF⟩
            rw [show tagged (ByteArray.data ⟨#[110, 111, 100, 101]⟩).toList bb = z.1 from Hz2.out]
            have K11F : Hid (wF.heap[w.heap.size + 1]? = some (.cells (bcells dgZ.1).toArray 29 (0, 0))) := K11E.out.ext hbF
            have KOF := Lib.hid (KOE.out.ext hbF); have GWF := Lib.hid (grown_trans GWE.out (grown_below hbF) (.inl rfl))
            clear hbF hcall K11E KOE GWE HBE))
        | (have _g := K11F.out; refine wpList_store_d (hgd := rfl) 29 (.tmp 11) (.tmp 89) rfl (w.heap.size + 1) z.1 Hzl.out rfl rfl 29 _ K11F.out rfl dig_sz ?_; go_loud (
            intro wG hcG hgG hzG
            have KOG := Lib.hid (KOF.out.keepR hgG.out (.inr (own_ne KOF.out (show CB wF (w.heap.size + 1) 29 (bcells dgZ.1) from K11F.out) (by decide))))
            have GWG := Lib.hid (grown_trans GWF.out hgG.out (.inr fun k hk => by injection hk; omega))
            clear K11F KOF GWF)))
      refine bodyPost_ret (v := .tuple #[vE, dv z.1]) (results_tmp_row rfl _ _ (w.heap.size + 1) 29 (bcells z.1).toArray (0, 0) _ vE rfl rfl hcG.out Tryd.underlying29 rfl (by rw [List.size_toArray, bcells_length, Hzl.out]; exact dig_sz)) rfl ?_
      exact ⟨vE, rfl, by rw [Hst2.out]; exact KOG.out, GWG.out, NXE.out⟩
    · skip
      have tk : decide ((a : Int) < (k : Int)) = false := by simp; omega
      have tk' : decide (a < k) = false := by simp; omega
      have e3 : (a : Int) - (k : Int) = ((a - k : Nat) : Int) := by omega
      have e3w : IntKind.i64.wrap ((a - k : Nat) : Int) = ((a - k : Nat) : Int) := IntWalk.i64_in _ (by omega)
      have e4 : (n : Int) - (k : Int) = ((n - k : Nat) : Int) := by omega
      have e4w : IntKind.i64.wrap ((n - k : Nat) : Int) = ((n - k : Nat) : Int) := IntWalk.i64_in _ (by omega)
      have HR : Hid (∀ W, OwnK stK 67 W wb.heap.size v l → Below wb.heap.size wb W → Calls Tryd.prog 46 #[v, dv d.1, .int .i64 (((a - k) : Nat) : Int), .int .i64 (((n - k) : Nat) : Int), .slice (some ⟨b, off, none⟩) m cap] W (ClPost d (n - k) (a - k) (p.take m) l v wb W)) := fun W hoW hbW =>
        ih d (n - k) (a - k) (p.take m) l v _ wb W (by rw [List.length_take]; omega) (by omega) (by omega) (by omega) (hp.takeS m hle (by omega)) hoW hbW (by omega) hLd
      have hrs := topW_ge (d := d) (z := y) (n := n) (a := a) (p := p.take m) h2 (by rw [hk]; exact hak)
      have hss := stW_ge (d := d) (z := y) (n := n) (a := a) (p := p.take m) h2 (by rw [hk]; exact hak)
      rw [hsplit, hk] at hrs hss
      have hwl := stW_most d m (n - k) (a - k) (p.take m) (by rw [List.length_take]; omega)
      obtain ⟨u, hu⟩ : ∃ u, topW d (n - k) (a - k) (p.take m) = u := ⟨_, rfl⟩
      rw [hu] at hrs hss
      obtain ⟨z, hz⟩ : ∃ z, topW d n a p = z := ⟨_, rfl⟩
      rw [hz] at hrs
      obtain ⟨lu, hlu⟩ : ∃ lu, l ++ stW d (n - k) (a - k) (p.take m) = lu := ⟨_, rfl⟩
      have Hst : Hid (l ++ stW d n a p = lu ++ [(nodeT, y.1 ++ u.1)]) := by show _ = _; rw [hss, ← List.append_assoc, hlu]
      have Hlu : Hid (lu.length ≤ 400) := by show _ ≤ _; rw [← hlu, List.length_append]; omega
      have hul := u.2; have hzl := z.2
      have HU := Lib.hid hu
      have HZ : Hid (nodeD y u = z) := hrs.symm
      have HZ : Hid (tagged nodeT (y.1 ++ u.1) = z.1) := congrArg Subtype.val HZ.out
      have Hul := Lib.hid hul; have Hzl := Lib.hid hzl; have HTz := Lib.hid hz; have Hluu := Lib.hid hlu
      have Hv := Lib.hid hp; have Hy := Lib.hid hy
      change Calls _ _ _ _ (fun e w' => ∃ v', e = .returned (.tuple #[v', dv (topW d n a p).1]) ∧ OwnK stK 67 w' wb.heap.size v' (l ++ stW d n a p) ∧ w.grownBy w' v.ownBlock ∧ Next w v v')
      rw [hz]
      clear hp hy ih hrs hss hwl hu hz hlu hul hzl hsplit hn h64 hpl hlc hcm hle hk h2 hb0 hl ho hLd hK
      change Calls Tryd.prog 46 #[_, .agg (bcells d.1).toArray, _, _, _] w _
      go_enter Tryd.func46, Tryd.ntmps46
      go_upto_region 1 with fail
      change Code.wp _ _ _ _ ((w.alloc (bD d)).alloc ZD)
      generalize (w.alloc (bD d)).alloc ZD = w0 at *
      go_upto_region 3 with fail
      have Hyr := Lib.hid (LsAt.range rfl (Hv.out.ext (below_ext Hb0.out HB.out)) Hy.out)
      have HZ0 : Hid ((w0.alloc ZD).heap[w0.heap.size]? = some (.cells (bcells dgZ.1).toArray 29 (0, 0))) := cb_one w0 ZD _ _ rfl
      rw [HS.out] at HZ0
      have hS := HS.out
      go_upto_region 4 with (first
        | (with_reducible refine wpList_load_mid rfl 29 (.tmp 35) rfl b (off + m * 32) rfl (bcells y.1) _ Hyr.out Tryd.underlying29 rfl (by rw [bcells_length, Hyl.out]; exact dig_sz) ?_)
        | (have _g := HZ0.out; refine wpList_store_d (hgd := rfl) 29 (.tmp 12) (.tmp 36) rfl (w.heap.size + 2) y.1 Hyl.out rfl rfl 29 _ HZ0.out rfl dig_sz ?_; go_loud (intro w2 hc2 hg2 hz2)))
      change Code.wp _ _ _ _ w2
      have H122 : Hid (CB w2 (w.heap.size + 2) 29 (bcells y.1)) := hc2.out
      have H6' := H6.out.lt; have H11' := H11.out.lt
      have H62 : Hid (CB w2 w.heap.size 29 (bcells d.1)) := (H6.out.alloc ZD).keep (hg2.out.block _ (by rw [World.size_alloc]; omega) (by intro e; injection e; omega))
      have H112 : Hid (CB w2 (w.heap.size + 1) 29 (bcells dgZ.1)) := (H11.out.alloc ZD).keep (hg2.out.block _ (by rw [World.size_alloc]; omega) (by intro e; injection e; omega))
      have HB2 : Hid (Below w.heap.size w w2) := (HB.out.alloc HB.out.size ZD).grown hg2.out (by rw [World.size_alloc]; have := HB.out.size; omega) (fun k hk => by injection hk; omega)
      have HO2 : Hid (OwnK stK 67 w2 wb.heap.size v l) := How.out.ext HB2.out
      have HG14 : Hid (w.heap.size + 2 < w2.heap.size) := H122.out.lt
      clear hc2 hg2 hz2 H6 H11 HB HO HZ0 Hyr H6' H11' hS HS
      have H6 : Hid (CB (w2.alloc ZD) w.heap.size 29 (bcells d.1)) := H62.out.alloc _
      have H11 : Hid (CB (w2.alloc ZD) (w.heap.size + 1) 29 (bcells dgZ.1)) := H112.out.alloc _
      have H12 : Hid (CB (w2.alloc ZD) (w.heap.size + 2) 29 (bcells y.1)) := H122.out.alloc _
      have H14 : Hid (CB (w2.alloc ZD) w2.heap.size 29 (bcells dgZ.1)) := cb_one w2 ZD _ _ rfl
      have HB : Hid (Below w.heap.size w (w2.alloc ZD)) := below_ext HB2.out (b_al ZD)
      have HO : Hid (OwnK stK 67 (w2.alloc ZD) wb.heap.size v l) := HO2.out.alloc _
      clear H62 H112 H122 HB2 HO2
      go_upto_region 10 with (go_at_call 64; refine (HH.out w2).mono ?_; rintro e w' ⟨rfl, rfl⟩)
      change Code.wp _ _ _ _ (w2.alloc ZD)
      generalize hg14 : w2.heap.size = g14 at *
      have Hg14 : Hid (w.heap.size + 2 < g14) := HG14.out
      clear hg14 HG14
      generalize w2.alloc ZD = w3 at *
      have K6 := Lib.hid (H6.out.ext (Below.refl w3.heap.size w3).drew); have K11 := Lib.hid (H11.out.ext (Below.refl w3.heap.size w3).drew); have K12 := Lib.hid (H12.out.ext (Below.refl w3.heap.size w3).drew); have K14 := Lib.hid (H14.out.ext (Below.refl w3.heap.size w3).drew); have KB := Lib.hid HB.out.drew; have KO := Lib.hid (HO.out.ext (Below.refl w3.heap.size w3).drew)
      refine wp_region_held_drew (S := fun w' => w'.rangeAt w.heap.size 0 (bcells d.1)) (by kernel_rfl) (cb_rng K6.out) (fun hHeld => ?_)
      clear H6 H11 H12 H14 HB HO
      generalize w3.drew = w4 at *
      refine take_dst (some 61) (i := 0) (v := ?vQ0) rfl rfl (by kernel_rfl) (by kernel_rfl) (by kernel_rfl) (fun _ _ _ h => h) (Or.inl ⟨by rfl, fun wS hSw => ?hyQ0⟩) (by assumption) ?restQ0
      case hyQ0 => (obtain s1 := hSw; go_simp; first | done | with_reducible rfl)
      try simp only [Act.put, List.setIfInBounds_toArray, List.set_cons_zero, List.set_cons_succ]
      refine take_dst (some 62) (i := 1) (v := dv d.1) rfl rfl (by kernel_rfl) (by kernel_rfl) (by kernel_rfl) (fun _ _ _ h => h) (yieldsIf_load_mid (by rfl) 29 _ rfl w.heap.size 0 rfl (bcells d.1) _ (fun wS hSw => by exact hSw) Tryd.underlying29 rfl (by rw [bcells_length, Hdl.out]; exact dig_sz)) (by assumption) ?restQ1
      try simp only [Act.put, List.setIfInBounds_toArray, List.set_cons_zero, List.set_cons_succ]
      refine take_dst (some 63) (i := 2) (v := ?vQ2) rfl rfl (by kernel_rfl) (by kernel_rfl) (by kernel_rfl) (fun _ _ _ h => h) (Or.inl ⟨by rfl, fun wS hSw => ?hyQ2⟩) (by assumption) ?restQ2
      case hyQ2 => (obtain s1 := hSw; go_simp; first | done | with_reducible rfl)
      try simp only [Act.put, List.setIfInBounds_toArray, List.set_cons_zero, List.set_cons_succ]
      refine take_dst (some 64) (i := 3) (v := ?vQ3) rfl rfl (by kernel_rfl) (by kernel_rfl) (by kernel_rfl) (fun _ _ _ h => h) (Or.inl ⟨by rfl, fun wS hSw => ?hyQ3⟩) (by assumption) ?restQ3
      case hyQ3 => (obtain s1 := hSw; go_simp; first | done | with_reducible rfl)
      try simp only [Act.put, List.setIfInBounds_toArray, List.set_cons_zero, List.set_cons_succ]
      refine take_dst (some 65) (i := 4) (v := ?vQ4) rfl rfl (by kernel_rfl) (by kernel_rfl) (by kernel_rfl) (fun _ _ _ h => h) (Or.inl ⟨by rfl, fun wS hSw => ?hyQ4⟩) (by assumption) ?restQ4
      case hyQ4 => (obtain s1 := hSw; go_simp; first | done | with_reducible rfl)
      try simp only [Act.put, List.setIfInBounds_toArray, List.set_cons_zero, List.set_cons_succ]
      refine take_dst (some 66) (i := 5) (v := ?vQ5) rfl rfl (by kernel_rfl) (by kernel_rfl) (by kernel_rfl) (fun _ _ _ h => h) (Or.inl ⟨by rfl, fun wS hSw => ?hyQ5⟩) (by assumption) ?restQ5
      case hyQ5 => (obtain s1 := hSw; go_simp; first | done | with_reducible rfl)
      try simp only [Act.put, List.setIfInBounds_toArray, List.set_cons_zero, List.set_cons_succ]
      refine take_dst (some 67) (i := 6) (v := ?vQ6) rfl rfl (by kernel_rfl) (by kernel_rfl) (by kernel_rfl) (fun _ _ _ h => h) (Or.inl ⟨by rfl, fun wS hSw => ?hyQ6⟩) (by assumption) ?restQ6
      case hyQ6 => (obtain s1 := hSw; go_simp; first | done | with_reducible rfl)
      try simp only [Act.put, List.setIfInBounds_toArray, List.set_cons_zero, List.set_cons_succ]
      refine take_dst (some 68) (i := 7) (v := ?vQ7) rfl rfl (by kernel_rfl) (by kernel_rfl) (by kernel_rfl) (fun _ _ _ h => h) (Or.inl ⟨by rfl, fun wS hSw => ?hyQ7⟩) (by assumption) ?restQ7
      case hyQ7 => (obtain s1 := hSw; go_simp; first | done | with_reducible rfl)
      try simp only [Act.put, List.setIfInBounds_toArray, List.set_cons_zero, List.set_cons_succ]
      refine take_dst (some 69) (i := 8) (v := ?vQ8) rfl rfl (by kernel_rfl) (by kernel_rfl) (by kernel_rfl) (fun _ _ _ h => h) (Or.inl ⟨by rfl, fun wS hSw => ?hyQ8⟩) (by assumption) ?restQ8
      case hyQ8 => (obtain s1 := hSw; go_simp; first | done | with_reducible rfl)
      try simp only [Act.put, List.setIfInBounds_toArray, List.set_cons_zero, List.set_cons_succ]
      refine take_dst (some 70) (i := 9) (v := ?vQ9) rfl rfl (by kernel_rfl) (by kernel_rfl) (by kernel_rfl) (fun _ _ _ h => h) (Or.inl ⟨by rfl, fun wS hSw => ?hyQ9⟩) (by assumption) ?restQ9
      case hyQ9 => (obtain s1 := hSw; go_simp; first | done | with_reducible rfl)
      try simp only [Act.put, List.setIfInBounds_toArray, List.set_cons_zero, List.set_cons_succ]
      refine take_dst (some 71) (i := 10) (v := ?vQ10) rfl rfl (by kernel_rfl) (by kernel_rfl) (by kernel_rfl) (fun _ _ _ h => h) (Or.inl ⟨by rfl, fun wS hSw => ?hyQ10⟩) (by assumption) ?restQ10
      case hyQ10 => (obtain s1 := hSw; go_simp; first | done | with_reducible rfl)
      try simp only [Act.put, List.setIfInBounds_toArray, List.set_cons_zero, List.set_cons_succ]
      refine take_dst (some 72) (i := 11) (v := ?vQ11) rfl rfl (by kernel_rfl) (by kernel_rfl) (by kernel_rfl) (fun _ _ _ h => h) (Or.inl ⟨by rfl, fun wS hSw => ?hyQ11⟩) (by assumption) ?restQ11
      case hyQ11 => (obtain s1 := hSw; go_simp; first | done | with_reducible rfl)
      try simp only [Act.put, List.setIfInBounds_toArray, List.set_cons_zero, List.set_cons_succ]
      refine take_dst (some 73) (i := 12) (v := ?vQ12) rfl rfl (by kernel_rfl) (by kernel_rfl) (by kernel_rfl) (fun _ _ _ h => h) (Or.inl ⟨by rfl, fun wS hSw => ?hyQ12⟩) (by assumption) ?restQ12
      case hyQ12 => (obtain s1 := hSw; go_simp; first | done | with_reducible rfl)
      try simp only [Act.put, List.setIfInBounds_toArray, List.set_cons_zero, List.set_cons_succ]
      refine wpAnyH_ready (rs := [13]) (by kernel_rfl) (by simp) ?_
      refine AllReadyH.cons rfl (fun K hK => ?_) AllReadyH.nil
      go_simp
      refine (HR.out w4 KO.out (below_ext Hb0.out KB.out)).mono ?_
      rintro e w5 ⟨v5, rfl, ho5, hg5, hn5⟩
      rw [Hluu.out] at ho5
      have K65 := Lib.hid (cb_app K6.out KO.out hg5 (by decide)); have K115 := Lib.hid (cb_app K11.out KO.out hg5 (by decide)); have K125 := Lib.hid (cb_app K12.out KO.out hg5 (by decide))
      have K145 : Hid (w5.heap[g14]? = some (.cells (bcells dgZ.1).toArray 29 (0, 0))) := cb_app K14.out KO.out hg5 (by decide)
      have KO5 := Lib.hid ho5; have GW5 := Lib.hid (grown_trans (grown_below KB.out) hg5 (.inl rfl)); have NX5 := Lib.hid (Next.trans (Next.refl w v) KB.out.size hn5)
      have HB5 := Lib.hid (OwnK.below (w0 := wb) (below_ext Hb0.out KB.out) KO.out hg5 (Nat.le_refl _))
      rw [HU.out]
      clear ho5 hg5 hn5 K6 K11 K12 K14 KB KO
      refine hK.out _ _ (cb_rng K65.out) (fun hHeld => ?_)
      clear hK K
      try simp only [Act.put, List.setIfInBounds_toArray, List.set_cons_zero, List.set_cons_succ]
      refine take_dst (some 60) (i := 14) (v := ?vQ14) rfl rfl (by kernel_rfl) (by kernel_rfl) (by kernel_rfl) (fun _ _ _ h => h) (Or.inl ⟨by rfl, fun wS hSw => ?hyQ14⟩) (by assumption) ?restQ14
      case hyQ14 => (obtain s1 := hSw; go_simp; first | done | with_reducible rfl)
      try simp only [Act.put, List.setIfInBounds_toArray, List.set_cons_zero, List.set_cons_succ]
      refine take_dst (some 75) (i := 15) (v := ?vQ15) rfl rfl (by kernel_rfl) (by kernel_rfl) (by kernel_rfl) (fun _ _ _ h => h) (Or.inl ⟨by rfl, fun wS hSw => ?hyQ15⟩) (by assumption) ?restQ15
      case hyQ15 => (obtain s1 := hSw; go_simp; first | done | with_reducible rfl)
      try simp only [Act.put, List.setIfInBounds_toArray, List.set_cons_zero, List.set_cons_succ]
      refine take_dst (some 76) (i := 16) (v := ?vQ16) rfl rfl (by kernel_rfl) (by kernel_rfl) (by kernel_rfl) (fun _ _ _ h => h) (Or.inl ⟨by rfl, fun wS hSw => ?hyQ16⟩) (by assumption) ?restQ16
      case hyQ16 => (obtain s1 := hSw; go_simp; first | done | with_reducible rfl)
      try simp only [Act.put, List.setIfInBounds_toArray, List.set_cons_zero, List.set_cons_succ]
      refine take_dst (some 0) (i := 17) (v := ?vQ17) rfl rfl (by kernel_rfl) (by kernel_rfl) (by kernel_rfl) (fun _ _ _ h => h) (Or.inl ⟨by rfl, fun wS hSw => ?hyQ17⟩) (by assumption) ?restQ17
      case hyQ17 => (obtain s1 := hSw; go_simp; first | done | with_reducible rfl)
      try simp only [Act.put, List.setIfInBounds_toArray, List.set_cons_zero]
      refine wpAnyH_ready (rs := [18]) (by kernel_rfl) (by simp) ?_
      refine AllReadyH.cons rfl (fun K hK => ?_) AllReadyH.nil
      refine wpIf_store_d (by rfl) 29 (.tmp 14) (.tmp 76) rfl g14 u.1 Hul.out rfl rfl 29 _ K145.out rfl dig_sz ?_
      intro w6 hc6 hg6 hz6
      have K66 := Lib.hid (K65.out.keep (hg6.out.block _ K65.out.lt (by intro e; injection e with e; have := Hg14.out; omega))); have K116 := Lib.hid (K115.out.keep (hg6.out.block _ K115.out.lt (by intro e; injection e with e; have := Hg14.out; omega))); have K126 := Lib.hid (K125.out.keep (hg6.out.block _ K125.out.lt (by intro e; injection e with e; have := Hg14.out; omega)))
      have KO6 := Lib.hid (KO5.out.keepR hg6.out (.inr (own_ne KO5.out (show CB w5 g14 29 (bcells dgZ.1) from K145.out) (by decide))))
      have GW6 := Lib.hid (grown_trans GW5.out hg6.out (.inr fun k hk => by injection hk with hk; have := Hg14.out; omega))
      have HB6 := Lib.hid (HB5.out.grown hg6.out HB5.out.size (fun k hk => by injection hk with hk; have := Hg14.out; have := Hb0.out.size; omega))
      refine hK.out (Act.put _ none undef) w6 (cb_rng K66.out) (fun hHeld => ?_)
      clear hK K
      try simp only [Act.put]
      refine wpAnyH_done (by kernel_rfl) ?_ _
      have K146 : Hid (CB w6 g14 29 (bcells u.1)) := hc6.out
      clear hc6 hg6 hz6 K65 K115 K125 K145 KO5 GW5 HB5 K66
      go_upto_region 11 with fail
      have J11 := Lib.hid (K116.out.ext (Below.refl w6.heap.size w6).drew); have J12 := Lib.hid (K126.out.ext (Below.refl w6.heap.size w6).drew); have J14 := Lib.hid (K146.out.ext (Below.refl w6.heap.size w6).drew); have JB := Lib.hid HB6.out.drew; have JO := Lib.hid (KO6.out.ext (Below.refl w6.heap.size w6).drew); have JG := Lib.hid (grown_trans GW6.out (grown_below (Below.refl w6.heap.size w6).drew) (.inl rfl))
      refine wp_region_held_drew (S := fun w' => True) (by kernel_rfl) trivial (fun hHeld => ?_)
      clear K116 K126 K146 HB6 KO6 GW6
      generalize w6.drew = w7 at *
      refine take_dst (some 77) (i := 0) (v := ?vQa0) rfl rfl (by kernel_rfl) (by kernel_rfl) (by kernel_rfl) (fun _ _ _ h => h) (Or.inl ⟨by rfl, fun wS hSw => ?hyQa0⟩) (by assumption) ?restQa0
      case hyQa0 => (obtain s1 := hSw; go_simp; first | done | with_reducible rfl)
      try simp only [Act.put, List.setIfInBounds_toArray, List.set_cons_zero, List.set_cons_succ]
      refine take_dst (some 78) (i := 1) (v := ?vQa1) rfl rfl (by kernel_rfl) (by kernel_rfl) (by kernel_rfl) (fun _ _ _ h => h) (Or.inl ⟨by rfl, fun wS hSw => ?hyQa1⟩) (by assumption) ?restQa1
      case hyQa1 => (obtain s1 := hSw; go_simp; first | done | with_reducible rfl)
      try simp only [Act.put, List.setIfInBounds_toArray, List.set_cons_zero, List.set_cons_succ]
      refine take_dst (some 80) (i := 3) (v := ?vQa3) rfl rfl (by kernel_rfl) (by kernel_rfl) (by kernel_rfl) (fun _ _ _ h => h) (Or.inl ⟨by rfl, fun wS hSw => ?hyQa3⟩) (by assumption) ?restQa3
      case hyQa3 => (obtain s1 := hSw; go_simp; first | done | with_reducible rfl)
      try simp only [Act.put, List.setIfInBounds_toArray, List.set_cons_zero, List.set_cons_succ]
      refine wpAnyH_ready (rs := [2]) (by kernel_rfl) (by simp) ?_
      refine AllReadyH.cons rfl (fun K hK => ?_) AllReadyH.nil
      refine step_append_B (e := 5) Tryd.underlying50 (by kernel_rfl) rfl (.tmp 77) (.tmp 78) rfl w7.heap.size _ [] rfl (OwnB.nil _ _ _) _ y.1 rfl (SrcB.ofBts (P := Tryd.prog) (tx := 50) Tryd.underlying50 (dig_bts J12.out Hyl.out)) (by simp [Hyl.out]) (Nat.le_refl _) ?_
      intro v8 w8 ho8 hg8 hn8
      have HO8 := Lib.hid ho8; have hb8 : Below w7.heap.size w7 w8 := (Below.refl w7.heap.size w7).grown hg8 (Nat.le_refl _) (fun k hk => by cases hk)
      have Hb8 := Lib.hid hb8
      have J128 := Lib.hid (J12.out.ext hb8); have J148 := Lib.hid (J14.out.ext hb8)
      clear ho8 hg8 hn8 hb8
      refine hK.out (Act.put _ (some 79) v8) w8 trivial (fun hHeld => ?_)
      clear hK K
      try simp only [Act.put, List.setIfInBounds_toArray, List.set_cons_zero, List.set_cons_succ]
      refine wpAnyH_ready (rs := [4]) (by kernel_rfl) (by simp) ?_
      refine AllReadyH.cons rfl (fun K hK => ?_) AllReadyH.nil
      refine step_append_B (e := 5) Tryd.underlying50 (by kernel_rfl) rfl (.tmp 79) (.tmp 80) rfl w7.heap.size _ ([] ++ y.1) rfl HO8.out _ u.1 rfl (SrcB.ofBts (P := Tryd.prog) (tx := 50) Tryd.underlying50 (dig_bts J148.out Hul.out)) (by simp [Hyl.out, Hul.out]) Hb8.out.size ?_
      intro v9 w9 ho9 hg9 hn9
      have HO9 := Lib.hid ho9; have hb9 : Below w7.heap.size w7 w9 := Hb8.out.grown hg9 Hb8.out.size (fun k hk => (World.ownsRow.lt HO8.out k hk).1)
      have J119 : Hid (CB w9 (w.heap.size + 1) 29 (bcells dgZ.1)) := J11.out.ext hb9
      have JB9 := Lib.hid (below_ext JB.out hb9); have JO9 := Lib.hid (JO.out.ext hb9); have JG9 := Lib.hid (grown_trans JG.out (grown_below hb9) (.inl rfl))
      clear ho9 hg9 hn9 hb9 JB JO JG J11 J12 J14 J128 J148 HO8 Hb8
      refine hK.out (Act.put _ (some 81) v9) w9 trivial (fun hHeld => ?_)
      clear hK K
      try simp only [Act.put, List.setIfInBounds_toArray, List.set_cons_zero, List.set_cons_succ]
      refine take_dst (some 15) (i := 5) (v := ?vQa5) rfl rfl (by kernel_rfl) (by kernel_rfl) (by kernel_rfl) (fun _ _ _ h => h) (Or.inl ⟨by rfl, fun wS hSw => ?hyQa5⟩) (by assumption) ?restQa5
      case hyQa5 => (obtain s1 := hSw; go_simp; first | done | with_reducible rfl)
      try simp only [Act.put, List.setIfInBounds_toArray, List.set_cons_zero, List.set_cons_succ]
      refine wpAnyH_done (by kernel_rfl) ?_ _
      rw [List.nil_append] at HO9
      have hcv := conv_bts (own_bts HO9.out)
      have hbb : (y.1 ++ u.1).length = 64 := by rw [List.length_append, Hyl.out, Hul.out]
      have hz2 : tagged nodeT (y.1 ++ u.1) = z.1 := HZ.out
      have hst2 := Hst.out
      obtain ⟨bb, hbe⟩ : ∃ bb, y.1 ++ u.1 = bb := ⟨_, rfl⟩
      rw [hbe] at HO9 hcv hbb hz2 hst2
      have Hz2 := Lib.hid hz2; have Hst2 := Lib.hid hst2; have Hbl := Lib.hid hbb
      clear hbe hbb hz2 hst2
      have KX : Hid (Src Tryd.prog 2 45 (.slice (some ⟨w9.heap.size, 0, none⟩) 1 1) 1 (stK.flat [(nodeT, bb)]) (w9.alloc (bS (nodeT, bb)))) := src_el (K := stK) (a := (nodeT, bb)) Tryd.underlying45 (cb_one w9 _ _ _ rfl)
      have JOA := Lib.hid (JO9.out.alloc (bS (nodeT, bb))); have J11A := Lib.hid (J119.out.alloc (bS (nodeT, bb))); have JBA := Lib.hid (below_ext JB9.out (b_al (bS (nodeT, bb)))); have JGA := Lib.hid (grown_alloc JG9.out (bS (nodeT, bb))); have HOA := Lib.hid (OwnB.alloc HO9.out (bS (nodeT, bb)))
      skip
      clear JO9 J119 JB9 JG9 HO9
      go_wp2_with (first
        | (at_builtin; go_loud (
            refine wpList_append_x (e := 67) (z := .agg #[.string ⟨#[]⟩, .string ⟨#[]⟩]) (size := 2) (bytes := 32) Tryd.underlying45 st_info rfl rfl (.tmp 82) (.tmp 86) rfl wb.heap.size _ _ (stK.flat lu) rfl JOA.out _ 1 (stK.flat [(nodeT, bb)]) rfl KX.out (by have := Hlu.out; unfold maxLen; omega) (by have := Hlu.out; omega) JBA.out.size ?_
            intro vE wE hoE hgE hnE
            have KOE : Hid (OwnK stK 67 wE wb.heap.size vE (lu ++ [(nodeT, bb)])) := OwnK.append (K := stK) hoE (by simp)
            have K11E := Lib.hid (cb_app J11A.out JOA.out hgE (by decide))
            have HBE := Lib.hid (OwnK.below (w0 := wb) JBA.out JOA.out hgE (Nat.le_refl _))
            have GWE := Lib.hid (grown_next JGA.out NX5.out hgE); have NXE := Lib.hid (Next.trans NX5.out JGA.out.size hnE)
            have HOE := Lib.hid (OwnB.kept HOA.out hgE (ownB_ne HOA.out JOA.out))
            have hcall := Lib.hid (tagged_any ⟨#[110, 111, 100, 101]⟩ v9 bb wE (by decide) (by rw [Hbl.out]; decide) (own_bts HOE.out) (HL.out.ext HBE.out))
            clear hoE hgE hnE KX JOA J11A JBA JGA HOA))
        | (go_at_call 23; refine hcall.out.mono ?_; go_loud (
            rintro e wF ⟨rfl, hbF⟩
            rw [show tagged (ByteArray.data ⟨#[110, 111, 100, 101]⟩).toList bb = z.1 from Hz2.out]
            have K11F : Hid (wF.heap[w.heap.size + 1]? = some (.cells (bcells dgZ.1).toArray 29 (0, 0))) := K11E.out.ext hbF
            have KOF := Lib.hid (KOE.out.ext hbF); have GWF := Lib.hid (grown_trans GWE.out (grown_below hbF) (.inl rfl))
            clear hbF hcall K11E KOE GWE HBE))
        | (have _g := K11F.out; refine wpList_store_d (hgd := rfl) 29 (.tmp 11) (.tmp 89) rfl (w.heap.size + 1) z.1 Hzl.out rfl rfl 29 _ K11F.out rfl dig_sz ?_; go_loud (
            intro wG hcG hgG hzG
            have KOG := Lib.hid (KOF.out.keepR hgG.out (.inr (own_ne KOF.out (show CB wF (w.heap.size + 1) 29 (bcells dgZ.1) from K11F.out) (by decide))))
            have GWG := Lib.hid (grown_trans GWF.out hgG.out (.inr fun k hk => by injection hk; omega))
            clear K11F KOF GWF)))
      refine bodyPost_ret (v := .tuple #[vE, dv z.1]) (results_tmp_row rfl _ _ (w.heap.size + 1) 29 (bcells z.1).toArray (0, 0) _ vE rfl rfl hcG.out Tryd.underlying29 rfl (by rw [List.size_toArray, bcells_length, Hzl.out]; exact dig_sz)) rfl ?_
      exact ⟨vE, rfl, by rw [Hst2.out]; exact KOG.out, GWG.out, NXE.out⟩
end Go.Proofs.YtbonebmboolemaaDoor
