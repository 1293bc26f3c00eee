/- the law's way: everything that is hashed on the way from an opening (printed by gen36u.py). -/
import Derived.Test.YtbonebmboolemaaDoorZTlc
import Derived.Test.YtbonebmboolemaaDoorZThd
import Derived.Deep.DeepCutAuto
namespace Go.Proofs.YtbonebmboolemaaDoor
open Go.RowKit
theorem own_ge {gb g B n c : Nat} (h : (Value.slice (some ⟨gb, 0, none⟩) n c).ownBlock = some g) (hB : B ≤ gb) : B ≤ g := by
  have : gb = g := by simpa [Value.ownBlock] using h
  omega
/-- the first half of a way, and the box of its digest -/
def WayCut (x : Dg) (ls : List Stp) (w w2 : World) (v12 v13 : Value) (wx : World) : Prop :=
  ∃ E : Nat, v13 = .pointer (some ⟨E, 0, none⟩) ∧ OwnK stK 67 wx w.heap.size v12 ls ∧ (∀ g, v12.ownBlock = some g → w2.heap.size ≤ g) ∧ CB wx E 29 (bcells x.1) ∧ Below w2.heap.size w2 wx
set_option maxRecDepth 100000 in
set_option maxHeartbeats 8000000 in
theorem way_any (o : Opn) (r : Ob) (k a T S n : Nat) (w : World) (hr : OpR w o r) (hI : OpI o) (hk : o.slot = (k : Int)) (hk6 : k ≤ 64) (ha : a ≤ 64) (hT : T ≤ 64) (hS : S ≤ 64) (hn : n ≤ o.path.length) (hl : o.path.length ≤ 64) (hLd : Laid w) :
    Calls Tryd.prog 22 #[r.v, .int .i64 (a : Int), .int .i64 (T : Int), .int .i64 (S : Int), .int .i64 (n : Int)] w fun e w' => ∃ v, e = .returned v ∧ OwnK stK 67 w' w.heap.size v (wayS o a T S n) ∧ Below w.heap.size w w' := by
  have hc0 : CB (w.alloc (bO r)) w.heap.size 36 r.cells := cb_one w (bO r) _ _ rfl
  have HC0 := Lib.hid hc0; have HB0 := Lib.hid (b_al (w := w) (bO r))
  have HR0 := Lib.hid (hr.ext HB0.out)
  have HL := Lib.hid hLd; have HPt := Lib.hid hr.path
  have HH := Lib.hid (hashed_any o r (w.alloc (bO r)) HR0.out hI)
  obtain ⟨hx, hhx⟩ : ∃ x, hashedX o = x := ⟨_, rfl⟩
  have hhl : hx.length ≤ 1000 := by
    rw [← hhx]; unfold hashedX
    have := enc_most [o.air, o.fl, o.slot, o.cost] (by simp)
    rw [List.length_append, o.salt.2]; show 32 + (enc (lsI [o.air, o.fl, o.slot, o.cost])).length ≤ 1000; omega
  have hxT : tagged costT hx = (ownD o).1 := by rw [← hhx]; rfl
  obtain ⟨x, hxx⟩ : ∃ x, ownD o = x := ⟨_, rfl⟩
  obtain ⟨p, hpp⟩ : ∃ p, o.path = p := ⟨_, rfl⟩
  have hwS : wayS o a T S n = (costT, hx) :: (stW x S k (p.take n) ++ stW (topW x S k (p.take n)) T a (p.drop n)) := by
    unfold wayS; rw [hhx, hxx, hpp, hk]; rfl
  rw [hhx] at HH
  rw [hxx] at hxT
  rw [hpp] at HPt hn hl
  obtain ⟨po, pn, pc, hpv⟩ : ∃ a b c, r.pv = .slice a b c := ⟨_, _, _, rfl⟩
  rw [hpv] at HPt
  obtain ⟨hpn, hcp, hmx⟩ : pn = p.length ∧ p.length ≤ pc ∧ (p.length : Int) ≤ 9223372036854775807 := by
    obtain ⟨_, _, he, h1, h2⟩ := HPt.out.shape2
    injection he with _ a2 a3
    subst a2 a3
    exact ⟨rfl, h1, by omega⟩
  subst hpn
  obtain ⟨y, hy⟩ : ∃ y, topW x S k (p.take n) = y := ⟨_, rfl⟩
  rw [hy] at hwS
  have HWS := Lib.hid hwS; have HxT := Lib.hid hxT; have Hhl := Lib.hid hhl; have HY := Lib.hid hy; have Hyl := Lib.hid y.2
  have Hm1 := Lib.hid (stW_most x n S k (p.take n) (by rw [List.length_take]; omega))
  have HRc : Hid (∀ (W : World), CB W w.heap.size 36 r.cells → W.cell? ⟨w.heap.size, 2, none⟩ = some (.int .i64 (k : Int)) ∧ W.cell? ⟨w.heap.size, 36, none⟩ = some (.slice po p.length pc)) := fun W h => by
    obtain ⟨-, -, h2, -, -, h5⟩ := ob_cell h
    rw [hr.slot, hk] at h2; rw [hpv] at h5
    exact ⟨h2, h5⟩
  have n1 : (n : Int) ≤ (p.length : Int) := by omega
  have n2 : (n : Int) ≤ (pc : Int) := by omega
  have n3 : n ≤ pc := by omega
  have bp : (p.length : Int) ≤ 64 := by omega
  have hcp' : (p.length : Int) ≤ (pc : Int) := by omega
  have n4 : n ≤ p.length := hn
  have HF1 : Hid (LsAt digK w.heap.size w (p.take n) (.slice po n pc)) := by
    by_cases h0 : n = 0
    · subst h0; rw [List.take_zero]; exact .inl ⟨rfl, _, _, rfl⟩
    · obtain ⟨b, off, rfl, hb, hat⟩ := HPt.out.at (k := 0) (by omega)
      exact HPt.out.takeS n (by intro e; rw [e] at n4; simp at n4; omega) n4
  have HF2 : Hid (LsAt digK w.heap.size w (p.drop n) (.slice (if pc = n then po else Option.map (fun x => x.add (n * 32)) po) (p.length - n) (pc - n))) := HPt.out.dropG n4 rfl rfl rfl
  have HN := Lib.hid (show n ≤ 64 ∧ p.length ≤ 64 ∧ n ≤ p.length from ⟨by omega, hl, hn⟩)
  have HK6 := Lib.hid hk6; have HA6 := Lib.hid ha; have HT6 := Lib.hid hT; have HS6 := Lib.hid hS
  clear hc0 hr hI hk hk6 ha hT hS hn hl hLd hhx hxT hxx hpp hwS hhl hy hmx hpv HR0
  have HRW := Lib.hid hcp
  clear hcp
  change Calls Tryd.prog 22 #[.agg r.cells.toArray, _, _, _, _] w _
  go_enter Tryd.func22, Tryd.ntmps22
  go_upto_region 1 with fail
  change Code.wp _ _ _ _ (w.alloc (bO r))
  generalize w.alloc (bO r) = w1 at *
  go_upto_region 2 with (first
    | (with_reducible refine wpList_load_ob (hgd := rfl) 36 (.tmp 5) rfl w.heap.size r rfl 36 _ HC0.out Tryd.underlying36 rfl ob_sz ?_)
    | (go_at_call 24; refine HH.out.mono ?_; go_loud (
        rintro e w2 ⟨vh, rfl, hv2, hb2⟩
        have HV := Lib.hid hv2; have HB2 := Lib.hid (below_ext HB0.out hb2); have HC2 := Lib.hid (HC0.out.ext hb2)
        have HG2 : Hid (w.heap.size < w2.heap.size) := HC2.out.lt
        obtain ⟨va, vn, hvs⟩ := hv2.shape
        clear hv2 hb2 HB0 HC0 HH)))
  subst hvs
  go_cut [12, 13] (fun v12 v13 wx => WayCut y ((costT, hx) :: stW x S k (p.take n)) w w2 v12 v13 wx)
  case first =>
    obtain ⟨c2, c36⟩ := HRc.out w2 HC2.out
    have hb2d : Hid (Below w2.heap.size w2 w2.drew) := (Below.refl w2.heap.size w2).drew
    refine wp_region_held_drew (S := fun w' => Below w2.heap.size w2 w') (by kernel_rfl) hb2d.out (fun hHeld => ?_)
    have HBW := hb2d
    generalize w2.drew = wd at *
    refine take_dst (some 17) (i := 0) (v := ?vp0) rfl rfl (by kernel_rfl) (by kernel_rfl) (by kernel_rfl) (fun _ _ _ h => h) (Or.inl ⟨by rfl, fun wS hSw => ?hyp0⟩) (by assumption) ?restp0
    case hyp0 => (go_simp; first | done | with_reducible rfl)
    try simp only [Act.put, List.setIfInBounds_toArray, List.set_cons_zero, List.set_cons_succ]
    refine take_dst (some 18) (i := 1) (v := .string ⟨hx.toArray⟩) rfl rfl (by kernel_rfl) (by kernel_rfl) (by kernel_rfl) (fun _ _ _ h => h) (Or.inl ⟨by rfl, fun wS hSw => ?hyp1⟩) (by assumption) ?restp1
    case hyp1 => (have hcv := conv_bts (HV.out.ext hSw); go_simp; first | done | with_reducible rfl)
    try simp only [Act.put, List.setIfInBounds_toArray, List.set_cons_zero, List.set_cons_succ]
    refine take_dst (some 19) (i := 2) (v := ?vp2) rfl rfl (by kernel_rfl) (by kernel_rfl) (by kernel_rfl) (fun _ _ _ h => h) (Or.inl ⟨by rfl, fun wS hSw => ?hyp2⟩) (by assumption) ?restp2
    case hyp2 => (go_simp; first | done | with_reducible rfl)
    try simp only [Act.put, List.setIfInBounds_toArray, List.set_cons_zero, List.set_cons_succ]
    refine take_dst (some 21) (i := 4) (v := ?vp4) rfl rfl (by kernel_rfl) (by kernel_rfl) (by kernel_rfl) (fun _ _ _ h => h) (Or.inl ⟨by rfl, fun wS hSw => ?hyp4⟩) (by assumption) ?restp4
    case hyp4 => (go_simp; first | done | with_reducible rfl)
    try simp only [Act.put, List.setIfInBounds_toArray, List.set_cons_zero, List.set_cons_succ]
    refine take_dst (some 23) (i := 6) (v := ?vp6) rfl rfl (by kernel_rfl) (by kernel_rfl) (by kernel_rfl) (fun _ _ _ h => h) (Or.inl ⟨by rfl, fun wS hSw => ?hyp6⟩) (by assumption) ?restp6
    case hyp6 => (have q1 := cell_ext hSw c2; have q2 := cell_ext hSw c36; go_simp; first | done | with_reducible rfl)
    try simp only [Act.put, List.setIfInBounds_toArray, List.set_cons_zero, List.set_cons_succ]
    refine take_dst (some 24) (i := 7) (v := ?vp7) rfl rfl (by kernel_rfl) (by kernel_rfl) (by kernel_rfl) (fun _ _ _ h => h) (Or.inl ⟨by rfl, fun wS hSw => ?hyp7⟩) (by assumption) ?restp7
    case hyp7 => (have q1 := cell_ext hSw c2; have q2 := cell_ext hSw c36; go_simp; first | done | with_reducible rfl)
    try simp only [Act.put, List.setIfInBounds_toArray, List.set_cons_zero, List.set_cons_succ]
    refine take_dst (some 25) (i := 8) (v := ?vp8) rfl rfl (by kernel_rfl) (by kernel_rfl) (by kernel_rfl) (fun _ _ _ h => h) (Or.inl ⟨by rfl, fun wS hSw => ?hyp8⟩) (by assumption) ?restp8
    case hyp8 => (have q1 := cell_ext hSw c2; have q2 := cell_ext hSw c36; go_simp; first | done | with_reducible rfl)
    try simp only [Act.put, List.setIfInBounds_toArray, List.set_cons_zero, List.set_cons_succ]
    refine take_dst (some 26) (i := 9) (v := ?vp9) rfl rfl (by kernel_rfl) (by kernel_rfl) (by kernel_rfl) (fun _ _ _ h => h) (Or.inl ⟨by rfl, fun wS hSw => ?hyp9⟩) (by assumption) ?restp9
    case hyp9 => (have q1 := cell_ext hSw c2; have q2 := cell_ext hSw c36; go_simp; first | done | with_reducible rfl)
    try simp only [Act.put, List.setIfInBounds_toArray, List.set_cons_zero, List.set_cons_succ]
    refine take_dst (some 27) (i := 10) (v := ?vp10) rfl rfl (by kernel_rfl) (by kernel_rfl) (by kernel_rfl) (fun _ _ _ h => h) (Or.inl ⟨by rfl, fun wS hSw => ?hyp10⟩) (by assumption) ?restp10
    case hyp10 => (have q1 := cell_ext hSw c2; have q2 := cell_ext hSw c36; go_simp; first | done | with_reducible rfl)
    try simp only [Act.put, List.setIfInBounds_toArray, List.set_cons_zero, List.set_cons_succ]
    refine take_dst (some 28) (i := 11) (v := ?vp11) rfl rfl (by kernel_rfl) (by kernel_rfl) (by kernel_rfl) (fun _ _ _ h => h) (Or.inl ⟨by rfl, fun wS hSw => ?hyp11⟩) (by assumption) ?restp11
    case hyp11 => (have q1 := cell_ext hSw c2; have q2 := cell_ext hSw c36; go_simp; first | done | with_reducible rfl)
    try simp only [Act.put, List.setIfInBounds_toArray, List.set_cons_zero, List.set_cons_succ]
    refine take_dst (some 29) (i := 12) (v := ?vp12) rfl rfl (by kernel_rfl) (by kernel_rfl) (by kernel_rfl) (fun _ _ _ h => h) (Or.inl ⟨by rfl, fun wS hSw => ?hyp12⟩) (by assumption) ?restp12
    case hyp12 => (have q1 := cell_ext hSw c2; have q2 := cell_ext hSw c36; go_simp; first | done | with_reducible rfl)
    try simp only [Act.put, List.setIfInBounds_toArray, List.set_cons_zero, List.set_cons_succ]
    refine wpAnyH_ready (rs := [3, 5, 17]) (by kernel_rfl) (by simp) ?_
    refine AllReadyH.cons rfl (fun K hK => ?_) (AllReadyH.cons rfl (fun K hK => ?_) (AllReadyH.cons rfl (fun K hK => ?_) AllReadyH.nil))
    · go_simp
      change K _ (wd.alloc (bS (costT, hx)))
      have HK : Hid (OwnK stK 67 (wd.alloc (bS (costT, hx))) w.heap.size (.slice (some ⟨wd.heap.size, 0, none⟩) 1 1) [(costT, hx)]) := OwnK.mk (K := stK) rfl (Nat.le_trans HB2.out.size HBW.out.size) (cb_one wd (bS (costT, hx)) 67 (stK.cells (costT, hx)) rfl) (Nat.le_refl 1) (by unfold maxLen; omega) rfl rfl
      have HGb : Hid (w2.heap.size ≤ wd.heap.size) := HBW.out.size
      replace HBW := Lib.hid (below_ext HBW.out (b_al (w := wd) (bS (costT, hx))))
      generalize wd.alloc (bS (costT, hx)) = wdb at *
      generalize wd.heap.size = gb at *
      refine hK.out _ _ HBW.out (fun hHeld => ?_)
      clear hK K
      try simp only [Act.put, List.setIfInBounds_toArray, List.set_cons_zero, List.set_cons_succ]
      refine wpAnyH_ready (rs := [5, 17]) (by kernel_rfl) (by simp) ?_
      refine AllReadyH.cons rfl (fun K hK => ?_) (AllReadyH.cons rfl (fun K hK => ?_) AllReadyH.nil)
      · have hcall := Lib.hid (tagged_any ⟨#[99, 111, 115, 116]⟩ _ hx wdb (by decide) (by have := Hhl.out; omega) (HV.out.ext HBW.out) (HL.out.ext (below_ext HB2.out HBW.out)))
        go_simp
        refine hcall.out.mono ?_
        rintro e wdbc ⟨rfl, hbN⟩
        rw [show tagged (ByteArray.data ⟨#[99, 111, 115, 116]⟩).toList hx = x.1 from HxT.out]
        replace HK := Lib.hid (HK.out.ext hbN)
        replace HBW := Lib.hid (below_ext HBW.out hbN)
        clear hbN hcall
        refine hK.out _ _ HBW.out (fun hHeld => ?_)
        clear hK K
        try simp only [Act.put, List.setIfInBounds_toArray, List.set_cons_zero, List.set_cons_succ]
        refine wpAnyH_ready (rs := [13, 17]) (by kernel_rfl) (by simp) ?_
        refine AllReadyH.cons rfl (fun K hK => ?_) (AllReadyH.cons rfl (fun K hK => ?_) AllReadyH.nil)
        · go_simp
          refine (lclimb_any (p.take n).length x S k (p.take n) [(costT, hx)] _ _ w wdbc rfl (by rw [List.length_take]; have := HN.out; omega) HS6.out HK6.out HF1.out HK.out (below_ext HB2.out HBW.out) (by rw [List.length_take]; have := HN.out; simp; omega) HL.out).mono ?_
          rintro e wdbcd ⟨v5, rfl, ho5, hg5, hn5⟩
          rw [HY.out]
          have HvB : Hid (∀ g, v5.ownBlock = some g → w2.heap.size ≤ g) := fun g hg => by rcases hn5 with h5 | h5; (· rw [h5] at hg; exact own_ge hg HGb.out); (· have := h5 g hg; have := HBW.out.size; omega)
          replace HBW := Lib.hid (HBW.out.grown hg5 HBW.out.size (fun k hk => own_ge hk HGb.out))
          replace HK := Lib.hid ho5
          clear ho5 hg5 hn5
          refine hK.out _ _ HBW.out (fun hHeld => ?_)
          clear hK K
          try simp only [Act.put, List.setIfInBounds_toArray, List.set_cons_zero, List.set_cons_succ]
          refine take_dst (some 16) (i := 14) (v := ?vX314) rfl rfl (by kernel_rfl) (by kernel_rfl) (by kernel_rfl) (fun _ _ _ h => h) (Or.inl ⟨by rfl, fun wS hSw => ?hyX314⟩) (by assumption) ?restX314
          case hyX314 => (go_simp; first | done | with_reducible rfl)
          try simp only [Act.put, List.setIfInBounds_toArray, List.set_cons_zero, List.set_cons_succ]
          refine take_dst (some 31) (i := 15) (v := ?vX315) rfl rfl (by kernel_rfl) (by kernel_rfl) (by kernel_rfl) (fun _ _ _ h => h) (Or.inl ⟨by rfl, fun wS hSw => ?hyX315⟩) (by assumption) ?restX315
          case hyX315 => (go_simp; first | done | with_reducible rfl)
          try simp only [Act.put, List.setIfInBounds_toArray, List.set_cons_zero, List.set_cons_succ]
          refine take_dst (some 32) (i := 16) (v := ?vX316) rfl rfl (by kernel_rfl) (by kernel_rfl) (by kernel_rfl) (fun _ _ _ h => h) (Or.inl ⟨by rfl, fun wS hSw => ?hyX316⟩) (by assumption) ?restX316
          case hyX316 => (go_simp; first | done | with_reducible rfl)
          try simp only [Act.put, List.setIfInBounds_toArray, List.set_cons_zero, List.set_cons_succ]
          refine wpAnyH_ready (rs := [17]) (by kernel_rfl) (by simp) ?_
          refine AllReadyH.cons rfl (fun K hK => ?_) AllReadyH.nil
          · go_simp
            change K _ (wdbcd.alloc ZD)
            have HE : Hid (CB (wdbcd.alloc ZD) wdbcd.heap.size 29 (bcells dgZ.1)) := cb_one wdbcd _ _ _ rfl
            have HEw : Hid (w2.heap.size ≤ wdbcd.heap.size) := HBW.out.size
            replace HK := Lib.hid (HK.out.alloc ZD)
            replace HBW := Lib.hid (below_ext HBW.out (b_al (w := wdbcd) ZD))
            generalize wdbcd.alloc ZD = wdbcda at *
            generalize wdbcd.heap.size = E at *
            refine hK.out _ _ HBW.out (fun hHeld => ?_)
            clear hK K
            try simp only [Act.put, List.setIfInBounds_toArray, List.set_cons_zero, List.set_cons_succ]
            refine take_dst (some 12) (i := 18) (v := ?vZ518) rfl rfl (by kernel_rfl) (by kernel_rfl) (by kernel_rfl) (fun _ _ _ h => h) (Or.inl ⟨by rfl, fun wS hSw => ?hyZ518⟩) (by assumption) ?restZ518
            case hyZ518 => (go_simp; first | done | with_reducible rfl)
            try simp only [Act.put, List.setIfInBounds_toArray, List.set_cons_zero, List.set_cons_succ]
            refine wpAnyH_ready (rs := [19]) (by kernel_rfl) (by simp) ?_
            refine AllReadyH.cons rfl (fun K hK => ?_) AllReadyH.nil
            refine wpIf_store_d (by rfl) 29 (.tmp 13) (.tmp 32) rfl E y.1 Hyl.out rfl rfl 29 _ HE.out rfl dig_sz ?_
            intro w9 hc9 hg9 hz9
            have HKz := Lib.hid (HK.out.keepR hg9.out (.inr (own_ne HK.out (show CB wdbcda E 29 (bcells dgZ.1) from HE.out) (by decide))))
            have HBz : Hid (Below w2.heap.size w2 w9) := HBW.out.grown hg9.out HBW.out.size (fun k hk => by injection hk with hk; have := HEw.out; omega)
            refine hK.out (Act.put _ none undef) w9 HBz.out (fun hHeld => ?_)
            clear hK K
            try simp only [Act.put]
            refine wpAnyH_done (by kernel_rfl) ?_ _
            go_wp2_with fail
            go_meet
            case rel => exact ⟨E, rfl, HKz.out, HvB.out, hc9.out, HBz.out⟩
        · go_simp
          change K _ (wdbc.alloc ZD)
          have HE : Hid (CB (wdbc.alloc ZD) wdbc.heap.size 29 (bcells dgZ.1)) := cb_one wdbc _ _ _ rfl
          have HEw : Hid (w2.heap.size ≤ wdbc.heap.size) := HBW.out.size
          replace HK := Lib.hid (HK.out.alloc ZD)
          replace HBW := Lib.hid (below_ext HBW.out (b_al (w := wdbc) ZD))
          generalize wdbc.alloc ZD = wdbca at *
          generalize wdbc.heap.size = E at *
          refine hK.out _ _ HBW.out (fun hHeld => ?_)
          clear hK K
          try simp only [Act.put, List.setIfInBounds_toArray, List.set_cons_zero, List.set_cons_succ]
          refine wpAnyH_ready (rs := [13]) (by kernel_rfl) (by simp) ?_
          refine AllReadyH.cons rfl (fun K hK => ?_) AllReadyH.nil
          · go_simp
            refine (lclimb_any (p.take n).length x S k (p.take n) [(costT, hx)] _ _ w wdbca rfl (by rw [List.length_take]; have := HN.out; omega) HS6.out HK6.out HF1.out HK.out (below_ext HB2.out HBW.out) (by rw [List.length_take]; have := HN.out; simp; omega) HL.out).mono ?_
            rintro e wdbcad ⟨v5, rfl, ho5, hg5, hn5⟩
            rw [HY.out]
            have HvB : Hid (∀ g, v5.ownBlock = some g → w2.heap.size ≤ g) := fun g hg => by rcases hn5 with h5 | h5; (· rw [h5] at hg; exact own_ge hg HGb.out); (· have := h5 g hg; have := HBW.out.size; omega)
            replace HBW := Lib.hid (HBW.out.grown hg5 HBW.out.size (fun k hk => own_ge hk HGb.out))
            replace HE := Lib.hid (cb_app HE.out HK.out hg5 (by decide))
            replace HK := Lib.hid ho5
            clear ho5 hg5 hn5
            refine hK.out _ _ HBW.out (fun hHeld => ?_)
            clear hK K
            try simp only [Act.put, List.setIfInBounds_toArray, List.set_cons_zero, List.set_cons_succ]
            refine take_dst (some 16) (i := 14) (v := ?vX614) rfl rfl (by kernel_rfl) (by kernel_rfl) (by kernel_rfl) (fun _ _ _ h => h) (Or.inl ⟨by rfl, fun wS hSw => ?hyX614⟩) (by assumption) ?restX614
            case hyX614 => (go_simp; first | done | with_reducible rfl)
            try simp only [Act.put, List.setIfInBounds_toArray, List.set_cons_zero, List.set_cons_succ]
            refine take_dst (some 31) (i := 15) (v := ?vX615) rfl rfl (by kernel_rfl) (by kernel_rfl) (by kernel_rfl) (fun _ _ _ h => h) (Or.inl ⟨by rfl, fun wS hSw => ?hyX615⟩) (by assumption) ?restX615
            case hyX615 => (go_simp; first | done | with_reducible rfl)
            try simp only [Act.put, List.setIfInBounds_toArray, List.set_cons_zero, List.set_cons_succ]
            refine take_dst (some 32) (i := 16) (v := ?vX616) rfl rfl (by kernel_rfl) (by kernel_rfl) (by kernel_rfl) (fun _ _ _ h => h) (Or.inl ⟨by rfl, fun wS hSw => ?hyX616⟩) (by assumption) ?restX616
            case hyX616 => (go_simp; first | done | with_reducible rfl)
            try simp only [Act.put, List.setIfInBounds_toArray, List.set_cons_zero, List.set_cons_succ]
            refine take_dst (some 12) (i := 18) (v := ?vZ718) rfl rfl (by kernel_rfl) (by kernel_rfl) (by kernel_rfl) (fun _ _ _ h => h) (Or.inl ⟨by rfl, fun wS hSw => ?hyZ718⟩) (by assumption) ?restZ718
            case hyZ718 => (go_simp; first | done | with_reducible rfl)
            try simp only [Act.put, List.setIfInBounds_toArray, List.set_cons_zero, List.set_cons_succ]
            refine wpAnyH_ready (rs := [19]) (by kernel_rfl) (by simp) ?_
            refine AllReadyH.cons rfl (fun K hK => ?_) AllReadyH.nil
            refine wpIf_store_d (by rfl) 29 (.tmp 13) (.tmp 32) rfl E y.1 Hyl.out rfl rfl 29 _ HE.out rfl dig_sz ?_
            intro w9 hc9 hg9 hz9
            have HKz := Lib.hid (HK.out.keepR hg9.out (.inr (own_ne HK.out (show CB wdbcad E 29 (bcells dgZ.1) from HE.out) (by decide))))
            have HBz : Hid (Below w2.heap.size w2 w9) := HBW.out.grown hg9.out HBW.out.size (fun k hk => by injection hk with hk; have := HEw.out; omega)
            refine hK.out (Act.put _ none undef) w9 HBz.out (fun hHeld => ?_)
            clear hK K
            try simp only [Act.put]
            refine wpAnyH_done (by kernel_rfl) ?_ _
            go_wp2_with fail
            go_meet
            case rel => exact ⟨E, rfl, HKz.out, HvB.out, hc9.out, HBz.out⟩
      · go_simp
        change K _ (wdb.alloc ZD)
        have HE : Hid (CB (wdb.alloc ZD) wdb.heap.size 29 (bcells dgZ.1)) := cb_one wdb _ _ _ rfl
        have HEw : Hid (w2.heap.size ≤ wdb.heap.size) := HBW.out.size
        replace HK := Lib.hid (HK.out.alloc ZD)
        replace HBW := Lib.hid (below_ext HBW.out (b_al (w := wdb) ZD))
        generalize wdb.alloc ZD = wdba at *
        generalize wdb.heap.size = E at *
        refine hK.out _ _ HBW.out (fun hHeld => ?_)
        clear hK K
        try simp only [Act.put, List.setIfInBounds_toArray, List.set_cons_zero, List.set_cons_succ]
        refine wpAnyH_ready (rs := [5]) (by kernel_rfl) (by simp) ?_
        refine AllReadyH.cons rfl (fun K hK => ?_) AllReadyH.nil
        · have hcall := Lib.hid (tagged_any ⟨#[99, 111, 115, 116]⟩ _ hx wdba (by decide) (by have := Hhl.out; omega) (HV.out.ext HBW.out) (HL.out.ext (below_ext HB2.out HBW.out)))
          go_simp
          refine hcall.out.mono ?_
          rintro e wdbac ⟨rfl, hbN⟩
          rw [show tagged (ByteArray.data ⟨#[99, 111, 115, 116]⟩).toList hx = x.1 from HxT.out]
          replace HK := Lib.hid (HK.out.ext hbN)
          replace HE := Lib.hid (HE.out.ext hbN)
          replace HBW := Lib.hid (below_ext HBW.out hbN)
          clear hbN hcall
          refine hK.out _ _ HBW.out (fun hHeld => ?_)
          clear hK K
          try simp only [Act.put, List.setIfInBounds_toArray, List.set_cons_zero, List.set_cons_succ]
          refine wpAnyH_ready (rs := [13]) (by kernel_rfl) (by simp) ?_
          refine AllReadyH.cons rfl (fun K hK => ?_) AllReadyH.nil
          · go_simp
            refine (lclimb_any (p.take n).length x S k (p.take n) [(costT, hx)] _ _ w wdbac rfl (by rw [List.length_take]; have := HN.out; omega) HS6.out HK6.out HF1.out HK.out (below_ext HB2.out HBW.out) (by rw [List.length_take]; have := HN.out; simp; omega) HL.out).mono ?_
            rintro e wdbacd ⟨v5, rfl, ho5, hg5, hn5⟩
            rw [HY.out]
            have HvB : Hid (∀ g, v5.ownBlock = some g → w2.heap.size ≤ g) := fun g hg => by rcases hn5 with h5 | h5; (· rw [h5] at hg; exact own_ge hg HGb.out); (· have := h5 g hg; have := HBW.out.size; omega)
            replace HBW := Lib.hid (HBW.out.grown hg5 HBW.out.size (fun k hk => own_ge hk HGb.out))
            replace HE := Lib.hid (cb_app HE.out HK.out hg5 (by decide))
            replace HK := Lib.hid ho5
            clear ho5 hg5 hn5
            refine hK.out _ _ HBW.out (fun hHeld => ?_)
            clear hK K
            try simp only [Act.put, List.setIfInBounds_toArray, List.set_cons_zero, List.set_cons_succ]
            refine take_dst (some 16) (i := 14) (v := ?vX914) rfl rfl (by kernel_rfl) (by kernel_rfl) (by kernel_rfl) (fun _ _ _ h => h) (Or.inl ⟨by rfl, fun wS hSw => ?hyX914⟩) (by assumption) ?restX914
            case hyX914 => (go_simp; first | done | with_reducible rfl)
            try simp only [Act.put, List.setIfInBounds_toArray, List.set_cons_zero, List.set_cons_succ]
            refine take_dst (some 31) (i := 15) (v := ?vX915) rfl rfl (by kernel_rfl) (by kernel_rfl) (by kernel_rfl) (fun _ _ _ h => h) (Or.inl ⟨by rfl, fun wS hSw => ?hyX915⟩) (by assumption) ?restX915
            case hyX915 => (go_simp; first | done | with_reducible rfl)
            try simp only [Act.put, List.setIfInBounds_toArray, List.set_cons_zero, List.set_cons_succ]
            refine take_dst (some 32) (i := 16) (v := ?vX916) rfl rfl (by kernel_rfl) (by kernel_rfl) (by kernel_rfl) (fun _ _ _ h => h) (Or.inl ⟨by rfl, fun wS hSw => ?hyX916⟩) (by assumption) ?restX916
            case hyX916 => (go_simp; first | done | with_reducible rfl)
            try simp only [Act.put, List.setIfInBounds_toArray, List.set_cons_zero, List.set_cons_succ]
            refine take_dst (some 12) (i := 18) (v := ?vZ1018) rfl rfl (by kernel_rfl) (by kernel_rfl) (by kernel_rfl) (fun _ _ _ h => h) (Or.inl ⟨by rfl, fun wS hSw => ?hyZ1018⟩) (by assumption) ?restZ1018
            case hyZ1018 => (go_simp; first | done | with_reducible rfl)
            try simp only [Act.put, List.setIfInBounds_toArray, List.set_cons_zero, List.set_cons_succ]
            refine wpAnyH_ready (rs := [19]) (by kernel_rfl) (by simp) ?_
            refine AllReadyH.cons rfl (fun K hK => ?_) AllReadyH.nil
            refine wpIf_store_d (by rfl) 29 (.tmp 13) (.tmp 32) rfl E y.1 Hyl.out rfl rfl 29 _ HE.out rfl dig_sz ?_
            intro w9 hc9 hg9 hz9
            have HKz := Lib.hid (HK.out.keepR hg9.out (.inr (own_ne HK.out (show CB wdbacd E 29 (bcells dgZ.1) from HE.out) (by decide))))
            have HBz : Hid (Below w2.heap.size w2 w9) := HBW.out.grown hg9.out HBW.out.size (fun k hk => by injection hk with hk; have := HEw.out; omega)
            refine hK.out (Act.put _ none undef) w9 HBz.out (fun hHeld => ?_)
            clear hK K
            try simp only [Act.put]
            refine wpAnyH_done (by kernel_rfl) ?_ _
            go_wp2_with fail
            go_meet
            case rel => exact ⟨E, rfl, HKz.out, HvB.out, hc9.out, HBz.out⟩
    · have hcall := Lib.hid (tagged_any ⟨#[99, 111, 115, 116]⟩ _ hx wd (by decide) (by have := Hhl.out; omega) (HV.out.ext HBW.out) (HL.out.ext (below_ext HB2.out HBW.out)))
      go_simp
      refine hcall.out.mono ?_
      rintro e wdc ⟨rfl, hbN⟩
      rw [show tagged (ByteArray.data ⟨#[99, 111, 115, 116]⟩).toList hx = x.1 from HxT.out]
      replace HBW := Lib.hid (below_ext HBW.out hbN)
      clear hbN hcall
      refine hK.out _ _ HBW.out (fun hHeld => ?_)
      clear hK K
      try simp only [Act.put, List.setIfInBounds_toArray, List.set_cons_zero, List.set_cons_succ]
      refine wpAnyH_ready (rs := [3, 17]) (by kernel_rfl) (by simp) ?_
      refine AllReadyH.cons rfl (fun K hK => ?_) (AllReadyH.cons rfl (fun K hK => ?_) AllReadyH.nil)
      · go_simp
        change K _ (wdc.alloc (bS (costT, hx)))
        have HK : Hid (OwnK stK 67 (wdc.alloc (bS (costT, hx))) w.heap.size (.slice (some ⟨wdc.heap.size, 0, none⟩) 1 1) [(costT, hx)]) := OwnK.mk (K := stK) rfl (Nat.le_trans HB2.out.size HBW.out.size) (cb_one wdc (bS (costT, hx)) 67 (stK.cells (costT, hx)) rfl) (Nat.le_refl 1) (by unfold maxLen; omega) rfl rfl
        have HGb : Hid (w2.heap.size ≤ wdc.heap.size) := HBW.out.size
        replace HBW := Lib.hid (below_ext HBW.out (b_al (w := wdc) (bS (costT, hx))))
        generalize wdc.alloc (bS (costT, hx)) = wdcb at *
        generalize wdc.heap.size = gb at *
        refine hK.out _ _ HBW.out (fun hHeld => ?_)
        clear hK K
        try simp only [Act.put, List.setIfInBounds_toArray, List.set_cons_zero, List.set_cons_succ]
        refine wpAnyH_ready (rs := [13, 17]) (by kernel_rfl) (by simp) ?_
        refine AllReadyH.cons rfl (fun K hK => ?_) (AllReadyH.cons rfl (fun K hK => ?_) AllReadyH.nil)
        · go_simp
          refine (lclimb_any (p.take n).length x S k (p.take n) [(costT, hx)] _ _ w wdcb rfl (by rw [List.length_take]; have := HN.out; omega) HS6.out HK6.out HF1.out HK.out (below_ext HB2.out HBW.out) (by rw [List.length_take]; have := HN.out; simp; omega) HL.out).mono ?_
          rintro e wdcbd ⟨v5, rfl, ho5, hg5, hn5⟩
          rw [HY.out]
          have HvB : Hid (∀ g, v5.ownBlock = some g → w2.heap.size ≤ g) := fun g hg => by rcases hn5 with h5 | h5; (· rw [h5] at hg; exact own_ge hg HGb.out); (· have := h5 g hg; have := HBW.out.size; omega)
          replace HBW := Lib.hid (HBW.out.grown hg5 HBW.out.size (fun k hk => own_ge hk HGb.out))
          replace HK := Lib.hid ho5
          clear ho5 hg5 hn5
          refine hK.out _ _ HBW.out (fun hHeld => ?_)
          clear hK K
          try simp only [Act.put, List.setIfInBounds_toArray, List.set_cons_zero, List.set_cons_succ]
          refine take_dst (some 16) (i := 14) (v := ?vX1214) rfl rfl (by kernel_rfl) (by kernel_rfl) (by kernel_rfl) (fun _ _ _ h => h) (Or.inl ⟨by rfl, fun wS hSw => ?hyX1214⟩) (by assumption) ?restX1214
          case hyX1214 => (go_simp; first | done | with_reducible rfl)
          try simp only [Act.put, List.setIfInBounds_toArray, List.set_cons_zero, List.set_cons_succ]
          refine take_dst (some 31) (i := 15) (v := ?vX1215) rfl rfl (by kernel_rfl) (by kernel_rfl) (by kernel_rfl) (fun _ _ _ h => h) (Or.inl ⟨by rfl, fun wS hSw => ?hyX1215⟩) (by assumption) ?restX1215
          case hyX1215 => (go_simp; first | done | with_reducible rfl)
          try simp only [Act.put, List.setIfInBounds_toArray, List.set_cons_zero, List.set_cons_succ]
          refine take_dst (some 32) (i := 16) (v := ?vX1216) rfl rfl (by kernel_rfl) (by kernel_rfl) (by kernel_rfl) (fun _ _ _ h => h) (Or.inl ⟨by rfl, fun wS hSw => ?hyX1216⟩) (by assumption) ?restX1216
          case hyX1216 => (go_simp; first | done | with_reducible rfl)
          try simp only [Act.put, List.setIfInBounds_toArray, List.set_cons_zero, List.set_cons_succ]
          refine wpAnyH_ready (rs := [17]) (by kernel_rfl) (by simp) ?_
          refine AllReadyH.cons rfl (fun K hK => ?_) AllReadyH.nil
          · go_simp
            change K _ (wdcbd.alloc ZD)
            have HE : Hid (CB (wdcbd.alloc ZD) wdcbd.heap.size 29 (bcells dgZ.1)) := cb_one wdcbd _ _ _ rfl
            have HEw : Hid (w2.heap.size ≤ wdcbd.heap.size) := HBW.out.size
            replace HK := Lib.hid (HK.out.alloc ZD)
            replace HBW := Lib.hid (below_ext HBW.out (b_al (w := wdcbd) ZD))
            generalize wdcbd.alloc ZD = wdcbda at *
            generalize wdcbd.heap.size = E at *
            refine hK.out _ _ HBW.out (fun hHeld => ?_)
            clear hK K
            try simp only [Act.put, List.setIfInBounds_toArray, List.set_cons_zero, List.set_cons_succ]
            refine take_dst (some 12) (i := 18) (v := ?vZ1418) rfl rfl (by kernel_rfl) (by kernel_rfl) (by kernel_rfl) (fun _ _ _ h => h) (Or.inl ⟨by rfl, fun wS hSw => ?hyZ1418⟩) (by assumption) ?restZ1418
            case hyZ1418 => (go_simp; first | done | with_reducible rfl)
            try simp only [Act.put, List.setIfInBounds_toArray, List.set_cons_zero, List.set_cons_succ]
            refine wpAnyH_ready (rs := [19]) (by kernel_rfl) (by simp) ?_
            refine AllReadyH.cons rfl (fun K hK => ?_) AllReadyH.nil
            refine wpIf_store_d (by rfl) 29 (.tmp 13) (.tmp 32) rfl E y.1 Hyl.out rfl rfl 29 _ HE.out rfl dig_sz ?_
            intro w9 hc9 hg9 hz9
            have HKz := Lib.hid (HK.out.keepR hg9.out (.inr (own_ne HK.out (show CB wdcbda E 29 (bcells dgZ.1) from HE.out) (by decide))))
            have HBz : Hid (Below w2.heap.size w2 w9) := HBW.out.grown hg9.out HBW.out.size (fun k hk => by injection hk with hk; have := HEw.out; omega)
            refine hK.out (Act.put _ none undef) w9 HBz.out (fun hHeld => ?_)
            clear hK K
            try simp only [Act.put]
            refine wpAnyH_done (by kernel_rfl) ?_ _
            go_wp2_with fail
            go_meet
            case rel => exact ⟨E, rfl, HKz.out, HvB.out, hc9.out, HBz.out⟩
        · go_simp
          change K _ (wdcb.alloc ZD)
          have HE : Hid (CB (wdcb.alloc ZD) wdcb.heap.size 29 (bcells dgZ.1)) := cb_one wdcb _ _ _ rfl
          have HEw : Hid (w2.heap.size ≤ wdcb.heap.size) := HBW.out.size
          replace HK := Lib.hid (HK.out.alloc ZD)
          replace HBW := Lib.hid (below_ext HBW.out (b_al (w := wdcb) ZD))
          generalize wdcb.alloc ZD = wdcba at *
          generalize wdcb.heap.size = E at *
          refine hK.out _ _ HBW.out (fun hHeld => ?_)
          clear hK K
          try simp only [Act.put, List.setIfInBounds_toArray, List.set_cons_zero, List.set_cons_succ]
          refine wpAnyH_ready (rs := [13]) (by kernel_rfl) (by simp) ?_
          refine AllReadyH.cons rfl (fun K hK => ?_) AllReadyH.nil
          · go_simp
            refine (lclimb_any (p.take n).length x S k (p.take n) [(costT, hx)] _ _ w wdcba rfl (by rw [List.length_take]; have := HN.out; omega) HS6.out HK6.out HF1.out HK.out (below_ext HB2.out HBW.out) (by rw [List.length_take]; have := HN.out; simp; omega) HL.out).mono ?_
            rintro e wdcbad ⟨v5, rfl, ho5, hg5, hn5⟩
            rw [HY.out]
            have HvB : Hid (∀ g, v5.ownBlock = some g → w2.heap.size ≤ g) := fun g hg => by rcases hn5 with h5 | h5; (· rw [h5] at hg; exact own_ge hg HGb.out); (· have := h5 g hg; have := HBW.out.size; omega)
            replace HBW := Lib.hid (HBW.out.grown hg5 HBW.out.size (fun k hk => own_ge hk HGb.out))
            replace HE := Lib.hid (cb_app HE.out HK.out hg5 (by decide))
            replace HK := Lib.hid ho5
            clear ho5 hg5 hn5
            refine hK.out _ _ HBW.out (fun hHeld => ?_)
            clear hK K
            try simp only [Act.put, List.setIfInBounds_toArray, List.set_cons_zero, List.set_cons_succ]
            refine take_dst (some 16) (i := 14) (v := ?vX1514) rfl rfl (by kernel_rfl) (by kernel_rfl) (by kernel_rfl) (fun _ _ _ h => h) (Or.inl ⟨by rfl, fun wS hSw => ?hyX1514⟩) (by assumption) ?restX1514
            case hyX1514 => (go_simp; first | done | with_reducible rfl)
            try simp only [Act.put, List.setIfInBounds_toArray, List.set_cons_zero, List.set_cons_succ]
            refine take_dst (some 31) (i := 15) (v := ?vX1515) rfl rfl (by kernel_rfl) (by kernel_rfl) (by kernel_rfl) (fun _ _ _ h => h) (Or.inl ⟨by rfl, fun wS hSw => ?hyX1515⟩) (by assumption) ?restX1515
            case hyX1515 => (go_simp; first | done | with_reducible rfl)
            try simp only [Act.put, List.setIfInBounds_toArray, List.set_cons_zero, List.set_cons_succ]
            refine take_dst (some 32) (i := 16) (v := ?vX1516) rfl rfl (by kernel_rfl) (by kernel_rfl) (by kernel_rfl) (fun _ _ _ h => h) (Or.inl ⟨by rfl, fun wS hSw => ?hyX1516⟩) (by assumption) ?restX1516
            case hyX1516 => (go_simp; first | done | with_reducible rfl)
            try simp only [Act.put, List.setIfInBounds_toArray, List.set_cons_zero, List.set_cons_succ]
            refine take_dst (some 12) (i := 18) (v := ?vZ1618) rfl rfl (by kernel_rfl) (by kernel_rfl) (by kernel_rfl) (fun _ _ _ h => h) (Or.inl ⟨by rfl, fun wS hSw => ?hyZ1618⟩) (by assumption) ?restZ1618
            case hyZ1618 => (go_simp; first | done | with_reducible rfl)
            try simp only [Act.put, List.setIfInBounds_toArray, List.set_cons_zero, List.set_cons_succ]
            refine wpAnyH_ready (rs := [19]) (by kernel_rfl) (by simp) ?_
            refine AllReadyH.cons rfl (fun K hK => ?_) AllReadyH.nil
            refine wpIf_store_d (by rfl) 29 (.tmp 13) (.tmp 32) rfl E y.1 Hyl.out rfl rfl 29 _ HE.out rfl dig_sz ?_
            intro w9 hc9 hg9 hz9
            have HKz := Lib.hid (HK.out.keepR hg9.out (.inr (own_ne HK.out (show CB wdcbad E 29 (bcells dgZ.1) from HE.out) (by decide))))
            have HBz : Hid (Below w2.heap.size w2 w9) := HBW.out.grown hg9.out HBW.out.size (fun k hk => by injection hk with hk; have := HEw.out; omega)
            refine hK.out (Act.put _ none undef) w9 HBz.out (fun hHeld => ?_)
            clear hK K
            try simp only [Act.put]
            refine wpAnyH_done (by kernel_rfl) ?_ _
            go_wp2_with fail
            go_meet
            case rel => exact ⟨E, rfl, HKz.out, HvB.out, hc9.out, HBz.out⟩
      · go_simp
        change K _ (wdc.alloc ZD)
        have HE : Hid (CB (wdc.alloc ZD) wdc.heap.size 29 (bcells dgZ.1)) := cb_one wdc _ _ _ rfl
        have HEw : Hid (w2.heap.size ≤ wdc.heap.size) := HBW.out.size
        replace HBW := Lib.hid (below_ext HBW.out (b_al (w := wdc) ZD))
        generalize wdc.alloc ZD = wdca at *
        generalize wdc.heap.size = E at *
        refine hK.out _ _ HBW.out (fun hHeld => ?_)
        clear hK K
        try simp only [Act.put, List.setIfInBounds_toArray, List.set_cons_zero, List.set_cons_succ]
        refine wpAnyH_ready (rs := [3]) (by kernel_rfl) (by simp) ?_
        refine AllReadyH.cons rfl (fun K hK => ?_) AllReadyH.nil
        · go_simp
          change K _ (wdca.alloc (bS (costT, hx)))
          have HK : Hid (OwnK stK 67 (wdca.alloc (bS (costT, hx))) w.heap.size (.slice (some ⟨wdca.heap.size, 0, none⟩) 1 1) [(costT, hx)]) := OwnK.mk (K := stK) rfl (Nat.le_trans HB2.out.size HBW.out.size) (cb_one wdca (bS (costT, hx)) 67 (stK.cells (costT, hx)) rfl) (Nat.le_refl 1) (by unfold maxLen; omega) rfl rfl
          have HGb : Hid (w2.heap.size ≤ wdca.heap.size) := HBW.out.size
          replace HE := Lib.hid (HE.out.alloc (bS (costT, hx)))
          replace HBW := Lib.hid (below_ext HBW.out (b_al (w := wdca) (bS (costT, hx))))
          generalize wdca.alloc (bS (costT, hx)) = wdcab at *
          generalize wdca.heap.size = gb at *
          refine hK.out _ _ HBW.out (fun hHeld => ?_)
          clear hK K
          try simp only [Act.put, List.setIfInBounds_toArray, List.set_cons_zero, List.set_cons_succ]
          refine wpAnyH_ready (rs := [13]) (by kernel_rfl) (by simp) ?_
          refine AllReadyH.cons rfl (fun K hK => ?_) AllReadyH.nil
          · go_simp
            refine (lclimb_any (p.take n).length x S k (p.take n) [(costT, hx)] _ _ w wdcab rfl (by rw [List.length_take]; have := HN.out; omega) HS6.out HK6.out HF1.out HK.out (below_ext HB2.out HBW.out) (by rw [List.length_take]; have := HN.out; simp; omega) HL.out).mono ?_
            rintro e wdcabd ⟨v5, rfl, ho5, hg5, hn5⟩
            rw [HY.out]
            have HvB : Hid (∀ g, v5.ownBlock = some g → w2.heap.size ≤ g) := fun g hg => by rcases hn5 with h5 | h5; (· rw [h5] at hg; exact own_ge hg HGb.out); (· have := h5 g hg; have := HBW.out.size; omega)
            replace HBW := Lib.hid (HBW.out.grown hg5 HBW.out.size (fun k hk => own_ge hk HGb.out))
            replace HE := Lib.hid (cb_app HE.out HK.out hg5 (by decide))
            replace HK := Lib.hid ho5
            clear ho5 hg5 hn5
            refine hK.out _ _ HBW.out (fun hHeld => ?_)
            clear hK K
            try simp only [Act.put, List.setIfInBounds_toArray, List.set_cons_zero, List.set_cons_succ]
            refine take_dst (some 16) (i := 14) (v := ?vX1814) rfl rfl (by kernel_rfl) (by kernel_rfl) (by kernel_rfl) (fun _ _ _ h => h) (Or.inl ⟨by rfl, fun wS hSw => ?hyX1814⟩) (by assumption) ?restX1814
            case hyX1814 => (go_simp; first | done | with_reducible rfl)
            try simp only [Act.put, List.setIfInBounds_toArray, List.set_cons_zero, List.set_cons_succ]
            refine take_dst (some 31) (i := 15) (v := ?vX1815) rfl rfl (by kernel_rfl) (by kernel_rfl) (by kernel_rfl) (fun _ _ _ h => h) (Or.inl ⟨by rfl, fun wS hSw => ?hyX1815⟩) (by assumption) ?restX1815
            case hyX1815 => (go_simp; first | done | with_reducible rfl)
            try simp only [Act.put, List.setIfInBounds_toArray, List.set_cons_zero, List.set_cons_succ]
            refine take_dst (some 32) (i := 16) (v := ?vX1816) rfl rfl (by kernel_rfl) (by kernel_rfl) (by kernel_rfl) (fun _ _ _ h => h) (Or.inl ⟨by rfl, fun wS hSw => ?hyX1816⟩) (by assumption) ?restX1816
            case hyX1816 => (go_simp; first | done | with_reducible rfl)
            try simp only [Act.put, List.setIfInBounds_toArray, List.set_cons_zero, List.set_cons_succ]
            refine take_dst (some 12) (i := 18) (v := ?vZ1918) rfl rfl (by kernel_rfl) (by kernel_rfl) (by kernel_rfl) (fun _ _ _ h => h) (Or.inl ⟨by rfl, fun wS hSw => ?hyZ1918⟩) (by assumption) ?restZ1918
            case hyZ1918 => (go_simp; first | done | with_reducible rfl)
            try simp only [Act.put, List.setIfInBounds_toArray, List.set_cons_zero, List.set_cons_succ]
            refine wpAnyH_ready (rs := [19]) (by kernel_rfl) (by simp) ?_
            refine AllReadyH.cons rfl (fun K hK => ?_) AllReadyH.nil
            refine wpIf_store_d (by rfl) 29 (.tmp 13) (.tmp 32) rfl E y.1 Hyl.out rfl rfl 29 _ HE.out rfl dig_sz ?_
            intro w9 hc9 hg9 hz9
            have HKz := Lib.hid (HK.out.keepR hg9.out (.inr (own_ne HK.out (show CB wdcabd E 29 (bcells dgZ.1) from HE.out) (by decide))))
            have HBz : Hid (Below w2.heap.size w2 w9) := HBW.out.grown hg9.out HBW.out.size (fun k hk => by injection hk with hk; have := HEw.out; omega)
            refine hK.out (Act.put _ none undef) w9 HBz.out (fun hHeld => ?_)
            clear hK K
            try simp only [Act.put]
            refine wpAnyH_done (by kernel_rfl) ?_ _
            go_wp2_with fail
            go_meet
            case rel => exact ⟨E, rfl, HKz.out, HvB.out, hc9.out, HBz.out⟩
    · go_simp
      change K _ (wd.alloc ZD)
      have HE : Hid (CB (wd.alloc ZD) wd.heap.size 29 (bcells dgZ.1)) := cb_one wd _ _ _ rfl
      have HEw : Hid (w2.heap.size ≤ wd.heap.size) := HBW.out.size
      replace HBW := Lib.hid (below_ext HBW.out (b_al (w := wd) ZD))
      generalize wd.alloc ZD = wda at *
      generalize wd.heap.size = E at *
      refine hK.out _ _ HBW.out (fun hHeld => ?_)
      clear hK K
      try simp only [Act.put, List.setIfInBounds_toArray, List.set_cons_zero, List.set_cons_succ]
      refine wpAnyH_ready (rs := [3, 5]) (by kernel_rfl) (by simp) ?_
      refine AllReadyH.cons rfl (fun K hK => ?_) (AllReadyH.cons rfl (fun K hK => ?_) AllReadyH.nil)
      · go_simp
        change K _ (wda.alloc (bS (costT, hx)))
        have HK : Hid (OwnK stK 67 (wda.alloc (bS (costT, hx))) w.heap.size (.slice (some ⟨wda.heap.size, 0, none⟩) 1 1) [(costT, hx)]) := OwnK.mk (K := stK) rfl (Nat.le_trans HB2.out.size HBW.out.size) (cb_one wda (bS (costT, hx)) 67 (stK.cells (costT, hx)) rfl) (Nat.le_refl 1) (by unfold maxLen; omega) rfl rfl
        have HGb : Hid (w2.heap.size ≤ wda.heap.size) := HBW.out.size
        replace HE := Lib.hid (HE.out.alloc (bS (costT, hx)))
        replace HBW := Lib.hid (below_ext HBW.out (b_al (w := wda) (bS (costT, hx))))
        generalize wda.alloc (bS (costT, hx)) = wdab at *
        generalize wda.heap.size = gb at *
        refine hK.out _ _ HBW.out (fun hHeld => ?_)
        clear hK K
        try simp only [Act.put, List.setIfInBounds_toArray, List.set_cons_zero, List.set_cons_succ]
        refine wpAnyH_ready (rs := [5]) (by kernel_rfl) (by simp) ?_
        refine AllReadyH.cons rfl (fun K hK => ?_) AllReadyH.nil
        · have hcall := Lib.hid (tagged_any ⟨#[99, 111, 115, 116]⟩ _ hx wdab (by decide) (by have := Hhl.out; omega) (HV.out.ext HBW.out) (HL.out.ext (below_ext HB2.out HBW.out)))
          go_simp
          refine hcall.out.mono ?_
          rintro e wdabc ⟨rfl, hbN⟩
          rw [show tagged (ByteArray.data ⟨#[99, 111, 115, 116]⟩).toList hx = x.1 from HxT.out]
          replace HK := Lib.hid (HK.out.ext hbN)
          replace HE := Lib.hid (HE.out.ext hbN)
          replace HBW := Lib.hid (below_ext HBW.out hbN)
          clear hbN hcall
          refine hK.out _ _ HBW.out (fun hHeld => ?_)
          clear hK K
          try simp only [Act.put, List.setIfInBounds_toArray, List.set_cons_zero, List.set_cons_succ]
          refine wpAnyH_ready (rs := [13]) (by kernel_rfl) (by simp) ?_
          refine AllReadyH.cons rfl (fun K hK => ?_) AllReadyH.nil
          · go_simp
            refine (lclimb_any (p.take n).length x S k (p.take n) [(costT, hx)] _ _ w wdabc rfl (by rw [List.length_take]; have := HN.out; omega) HS6.out HK6.out HF1.out HK.out (below_ext HB2.out HBW.out) (by rw [List.length_take]; have := HN.out; simp; omega) HL.out).mono ?_
            rintro e wdabcd ⟨v5, rfl, ho5, hg5, hn5⟩
            rw [HY.out]
            have HvB : Hid (∀ g, v5.ownBlock = some g → w2.heap.size ≤ g) := fun g hg => by rcases hn5 with h5 | h5; (· rw [h5] at hg; exact own_ge hg HGb.out); (· have := h5 g hg; have := HBW.out.size; omega)
            replace HBW := Lib.hid (HBW.out.grown hg5 HBW.out.size (fun k hk => own_ge hk HGb.out))
            replace HE := Lib.hid (cb_app HE.out HK.out hg5 (by decide))
            replace HK := Lib.hid ho5
            clear ho5 hg5 hn5
            refine hK.out _ _ HBW.out (fun hHeld => ?_)
            clear hK K
            try simp only [Act.put, List.setIfInBounds_toArray, List.set_cons_zero, List.set_cons_succ]
            refine take_dst (some 16) (i := 14) (v := ?vX2214) rfl rfl (by kernel_rfl) (by kernel_rfl) (by kernel_rfl) (fun _ _ _ h => h) (Or.inl ⟨by rfl, fun wS hSw => ?hyX2214⟩) (by assumption) ?restX2214
            case hyX2214 => (go_simp; first | done | with_reducible rfl)
            try simp only [Act.put, List.setIfInBounds_toArray, List.set_cons_zero, List.set_cons_succ]
            refine take_dst (some 31) (i := 15) (v := ?vX2215) rfl rfl (by kernel_rfl) (by kernel_rfl) (by kernel_rfl) (fun _ _ _ h => h) (Or.inl ⟨by rfl, fun wS hSw => ?hyX2215⟩) (by assumption) ?restX2215
            case hyX2215 => (go_simp; first | done | with_reducible rfl)
            try simp only [Act.put, List.setIfInBounds_toArray, List.set_cons_zero, List.set_cons_succ]
            refine take_dst (some 32) (i := 16) (v := ?vX2216) rfl rfl (by kernel_rfl) (by kernel_rfl) (by kernel_rfl) (fun _ _ _ h => h) (Or.inl ⟨by rfl, fun wS hSw => ?hyX2216⟩) (by assumption) ?restX2216
            case hyX2216 => (go_simp; first | done | with_reducible rfl)
            try simp only [Act.put, List.setIfInBounds_toArray, List.set_cons_zero, List.set_cons_succ]
            refine take_dst (some 12) (i := 18) (v := ?vZ2318) rfl rfl (by kernel_rfl) (by kernel_rfl) (by kernel_rfl) (fun _ _ _ h => h) (Or.inl ⟨by rfl, fun wS hSw => ?hyZ2318⟩) (by assumption) ?restZ2318
            case hyZ2318 => (go_simp; first | done | with_reducible rfl)
            try simp only [Act.put, List.setIfInBounds_toArray, List.set_cons_zero, List.set_cons_succ]
            refine wpAnyH_ready (rs := [19]) (by kernel_rfl) (by simp) ?_
            refine AllReadyH.cons rfl (fun K hK => ?_) AllReadyH.nil
            refine wpIf_store_d (by rfl) 29 (.tmp 13) (.tmp 32) rfl E y.1 Hyl.out rfl rfl 29 _ HE.out rfl dig_sz ?_
            intro w9 hc9 hg9 hz9
            have HKz := Lib.hid (HK.out.keepR hg9.out (.inr (own_ne HK.out (show CB wdabcd E 29 (bcells dgZ.1) from HE.out) (by decide))))
            have HBz : Hid (Below w2.heap.size w2 w9) := HBW.out.grown hg9.out HBW.out.size (fun k hk => by injection hk with hk; have := HEw.out; omega)
            refine hK.out (Act.put _ none undef) w9 HBz.out (fun hHeld => ?_)
            clear hK K
            try simp only [Act.put]
            refine wpAnyH_done (by kernel_rfl) ?_ _
            go_wp2_with fail
            go_meet
            case rel => exact ⟨E, rfl, HKz.out, HvB.out, hc9.out, HBz.out⟩
      · have hcall := Lib.hid (tagged_any ⟨#[99, 111, 115, 116]⟩ _ hx wda (by decide) (by have := Hhl.out; omega) (HV.out.ext HBW.out) (HL.out.ext (below_ext HB2.out HBW.out)))
        go_simp
        refine hcall.out.mono ?_
        rintro e wdac ⟨rfl, hbN⟩
        rw [show tagged (ByteArray.data ⟨#[99, 111, 115, 116]⟩).toList hx = x.1 from HxT.out]
        replace HE := Lib.hid (HE.out.ext hbN)
        replace HBW := Lib.hid (below_ext HBW.out hbN)
        clear hbN hcall
        refine hK.out _ _ HBW.out (fun hHeld => ?_)
        clear hK K
        try simp only [Act.put, List.setIfInBounds_toArray, List.set_cons_zero, List.set_cons_succ]
        refine wpAnyH_ready (rs := [3]) (by kernel_rfl) (by simp) ?_
        refine AllReadyH.cons rfl (fun K hK => ?_) AllReadyH.nil
        · go_simp
          change K _ (wdac.alloc (bS (costT, hx)))
          have HK : Hid (OwnK stK 67 (wdac.alloc (bS (costT, hx))) w.heap.size (.slice (some ⟨wdac.heap.size, 0, none⟩) 1 1) [(costT, hx)]) := OwnK.mk (K := stK) rfl (Nat.le_trans HB2.out.size HBW.out.size) (cb_one wdac (bS (costT, hx)) 67 (stK.cells (costT, hx)) rfl) (Nat.le_refl 1) (by unfold maxLen; omega) rfl rfl
          have HGb : Hid (w2.heap.size ≤ wdac.heap.size) := HBW.out.size
          replace HE := Lib.hid (HE.out.alloc (bS (costT, hx)))
          replace HBW := Lib.hid (below_ext HBW.out (b_al (w := wdac) (bS (costT, hx))))
          generalize wdac.alloc (bS (costT, hx)) = wdacb at *
          generalize wdac.heap.size = gb at *
          refine hK.out _ _ HBW.out (fun hHeld => ?_)
          clear hK K
          try simp only [Act.put, List.setIfInBounds_toArray, List.set_cons_zero, List.set_cons_succ]
          refine wpAnyH_ready (rs := [13]) (by kernel_rfl) (by simp) ?_
          refine AllReadyH.cons rfl (fun K hK => ?_) AllReadyH.nil
          · go_simp
            refine (lclimb_any (p.take n).length x S k (p.take n) [(costT, hx)] _ _ w wdacb rfl (by rw [List.length_take]; have := HN.out; omega) HS6.out HK6.out HF1.out HK.out (below_ext HB2.out HBW.out) (by rw [List.length_take]; have := HN.out; simp; omega) HL.out).mono ?_
            rintro e wdacbd ⟨v5, rfl, ho5, hg5, hn5⟩
            rw [HY.out]
            have HvB : Hid (∀ g, v5.ownBlock = some g → w2.heap.size ≤ g) := fun g hg => by rcases hn5 with h5 | h5; (· rw [h5] at hg; exact own_ge hg HGb.out); (· have := h5 g hg; have := HBW.out.size; omega)
            replace HBW := Lib.hid (HBW.out.grown hg5 HBW.out.size (fun k hk => own_ge hk HGb.out))
            replace HE := Lib.hid (cb_app HE.out HK.out hg5 (by decide))
            replace HK := Lib.hid ho5
            clear ho5 hg5 hn5
            refine hK.out _ _ HBW.out (fun hHeld => ?_)
            clear hK K
            try simp only [Act.put, List.setIfInBounds_toArray, List.set_cons_zero, List.set_cons_succ]
            refine take_dst (some 16) (i := 14) (v := ?vX2514) rfl rfl (by kernel_rfl) (by kernel_rfl) (by kernel_rfl) (fun _ _ _ h => h) (Or.inl ⟨by rfl, fun wS hSw => ?hyX2514⟩) (by assumption) ?restX2514
            case hyX2514 => (go_simp; first | done | with_reducible rfl)
            try simp only [Act.put, List.setIfInBounds_toArray, List.set_cons_zero, List.set_cons_succ]
            refine take_dst (some 31) (i := 15) (v := ?vX2515) rfl rfl (by kernel_rfl) (by kernel_rfl) (by kernel_rfl) (fun _ _ _ h => h) (Or.inl ⟨by rfl, fun wS hSw => ?hyX2515⟩) (by assumption) ?restX2515
            case hyX2515 => (go_simp; first | done | with_reducible rfl)
            try simp only [Act.put, List.setIfInBounds_toArray, List.set_cons_zero, List.set_cons_succ]
            refine take_dst (some 32) (i := 16) (v := ?vX2516) rfl rfl (by kernel_rfl) (by kernel_rfl) (by kernel_rfl) (fun _ _ _ h => h) (Or.inl ⟨by rfl, fun wS hSw => ?hyX2516⟩) (by assumption) ?restX2516
            case hyX2516 => (go_simp; first | done | with_reducible rfl)
            try simp only [Act.put, List.setIfInBounds_toArray, List.set_cons_zero, List.set_cons_succ]
            refine take_dst (some 12) (i := 18) (v := ?vZ2618) rfl rfl (by kernel_rfl) (by kernel_rfl) (by kernel_rfl) (fun _ _ _ h => h) (Or.inl ⟨by rfl, fun wS hSw => ?hyZ2618⟩) (by assumption) ?restZ2618
            case hyZ2618 => (go_simp; first | done | with_reducible rfl)
            try simp only [Act.put, List.setIfInBounds_toArray, List.set_cons_zero, List.set_cons_succ]
            refine wpAnyH_ready (rs := [19]) (by kernel_rfl) (by simp) ?_
            refine AllReadyH.cons rfl (fun K hK => ?_) AllReadyH.nil
            refine wpIf_store_d (by rfl) 29 (.tmp 13) (.tmp 32) rfl E y.1 Hyl.out rfl rfl 29 _ HE.out rfl dig_sz ?_
            intro w9 hc9 hg9 hz9
            have HKz := Lib.hid (HK.out.keepR hg9.out (.inr (own_ne HK.out (show CB wdacbd E 29 (bcells dgZ.1) from HE.out) (by decide))))
            have HBz : Hid (Below w2.heap.size w2 w9) := HBW.out.grown hg9.out HBW.out.size (fun k hk => by injection hk with hk; have := HEw.out; omega)
            refine hK.out (Act.put _ none undef) w9 HBz.out (fun hHeld => ?_)
            clear hK K
            try simp only [Act.put]
            refine wpAnyH_done (by kernel_rfl) ?_ _
            go_wp2_with fail
            go_meet
            case rel => exact ⟨E, rfl, HKz.out, HvB.out, hc9.out, HBz.out⟩
  case rest =>
    obtain ⟨E, rfl, hK3, hvB, hE3, hB3⟩ := hcut
    have HK3 := Lib.hid hK3; have HvB := Lib.hid hvB; have HE3 := Lib.hid hE3; have HB3 := Lib.hid hB3
    obtain ⟨-, c36⟩ := HRc.out w2 HC2.out
    obtain ⟨vo, vc, hvs, -⟩ := hK3.rd.shape
    subst hvs
    clear hK3 hvB hE3 hB3
    have HBd := Lib.hid HB3.out.drew; have HEd := Lib.hid (HE3.out.ext (Below.refl wc.heap.size wc).drew); have HKd := Lib.hid (HK3.out.ext (Below.refl wc.heap.size wc).drew)
    go_upto_region 3 with fail
    refine wp_region_held_drew (S := fun w' => Below w2.heap.size w2 w' ∧ w'.rangeAt E 0 (bcells y.1)) (by kernel_rfl) ⟨HBd.out, cb_rng HEd.out⟩ (fun hHeld => ?_)
    clear HB3 HE3 HK3
    generalize wc.drew = w4 at *
    refine take_dst (some 34) (i := 0) (v := ?vR0) rfl rfl (by kernel_rfl) (by kernel_rfl) (by kernel_rfl) (fun _ _ _ h => h) (Or.inl ⟨by rfl, fun wS hSw => ?hyR0⟩) (by assumption) ?restR0
    case hyR0 => (obtain ⟨s1, s2⟩ := hSw; go_simp; first | done | with_reducible rfl)
    try simp only [Act.put, List.setIfInBounds_toArray, List.set_cons_zero, List.set_cons_succ]
    refine take_dst (some 35) (i := 1) (v := dv y.1) rfl rfl (by kernel_rfl) (by kernel_rfl) (by kernel_rfl) (fun _ _ _ h => h) (yieldsIf_load_mid (by rfl) 29 _ rfl E 0 rfl (bcells y.1) _ (fun wS hSw => by obtain ⟨s1, s2⟩ := hSw; exact s2) Tryd.underlying29 rfl (by rw [bcells_length, Hyl.out]; exact dig_sz)) (by assumption) ?restR1
    try simp only [Act.put, List.setIfInBounds_toArray, List.set_cons_zero, List.set_cons_succ]
    refine take_dst (some 36) (i := 2) (v := ?vR2) rfl rfl (by kernel_rfl) (by kernel_rfl) (by kernel_rfl) (fun _ _ _ h => h) (Or.inl ⟨by rfl, fun wS hSw => ?hyR2⟩) (by assumption) ?restR2
    case hyR2 => (obtain ⟨s1, s2⟩ := hSw; have q2 := cell_ext s1 c36; go_simp; first | done | with_reducible rfl)
    try simp only [Act.put, List.setIfInBounds_toArray, List.set_cons_zero, List.set_cons_succ]
    refine take_dst (some 37) (i := 3) (v := ?vR3) rfl rfl (by kernel_rfl) (by kernel_rfl) (by kernel_rfl) (fun _ _ _ h => h) (Or.inl ⟨by rfl, fun wS hSw => ?hyR3⟩) (by assumption) ?restR3
    case hyR3 => (obtain ⟨s1, s2⟩ := hSw; have q2 := cell_ext s1 c36; go_simp; first | done | with_reducible rfl)
    try simp only [Act.put, List.setIfInBounds_toArray, List.set_cons_zero, List.set_cons_succ]
    refine take_dst (some 38) (i := 4) (v := ?vR4) rfl rfl (by kernel_rfl) (by kernel_rfl) (by kernel_rfl) (fun _ _ _ h => h) (Or.inl ⟨by rfl, fun wS hSw => ?hyR4⟩) (by assumption) ?restR4
    case hyR4 => (obtain ⟨s1, s2⟩ := hSw; have q2 := cell_ext s1 c36; go_simp; first | done | with_reducible rfl)
    try simp only [Act.put, List.setIfInBounds_toArray, List.set_cons_zero, List.set_cons_succ]
    refine take_dst (some 39) (i := 5) (v := ?vR5) rfl rfl (by kernel_rfl) (by kernel_rfl) (by kernel_rfl) (fun _ _ _ h => h) (Or.inl ⟨by rfl, fun wS hSw => ?hyR5⟩) (by assumption) ?restR5
    case hyR5 => (obtain ⟨s1, s2⟩ := hSw; have q2 := cell_ext s1 c36; go_simp; first | done | with_reducible rfl)
    try simp only [Act.put, List.setIfInBounds_toArray, List.set_cons_zero, List.set_cons_succ]
    refine take_dst (some 40) (i := 6) (v := ?vR6) rfl rfl (by kernel_rfl) (by kernel_rfl) (by kernel_rfl) (fun _ _ _ h => h) (Or.inl ⟨by rfl, fun wS hSw => ?hyR6⟩) (by assumption) ?restR6
    case hyR6 => (obtain ⟨s1, s2⟩ := hSw; have q2 := cell_ext s1 c36; go_simp; first | done | with_reducible rfl)
    try simp only [Act.put, List.setIfInBounds_toArray, List.set_cons_zero, List.set_cons_succ]
    refine take_dst (some 41) (i := 7) (v := ?vR7) rfl rfl (by kernel_rfl) (by kernel_rfl) (by kernel_rfl) (fun _ _ _ h => h) (Or.inl ⟨by rfl, fun wS hSw => ?hyR7⟩) (by assumption) ?restR7
    case hyR7 => (obtain ⟨s1, s2⟩ := hSw; have q2 := cell_ext s1 c36; go_simp; first | done | with_reducible rfl)
    try simp only [Act.put, List.setIfInBounds_toArray, List.set_cons_zero, List.set_cons_succ]
    refine wpAnyH_ready (rs := [8]) (by kernel_rfl) (by simp) ?_
    refine AllReadyH.cons rfl (fun K hK => ?_) AllReadyH.nil
    go_simp
    refine (lclimb_any (p.drop n).length y T a (p.drop n) _ _ _ w w4 rfl (by rw [List.length_drop]; have := HN.out; omega) HT6.out HA6.out HF2.out HKd.out (below_ext HB2.out HBd.out) (by rw [List.length_drop, List.length_cons]; have := HN.out; have := Hm1.out; omega) HL.out).mono ?_
    rintro e w5 ⟨v5, rfl, ho5, hg5, hn5⟩
    have HB5 : Hid (Below w2.heap.size w2 w5) := HBd.out.grown hg5 HBd.out.size (fun k hk => HvB.out k hk)
    have HE5 := Lib.hid (cb_app HEd.out HKd.out hg5 (by decide))
    have HK5 := Lib.hid ho5
    clear ho5 hg5 hn5 HBd HEd HKd
    refine hK.out _ _ ⟨HB5.out, cb_rng HE5.out⟩ (fun hHeld => ?_)
    clear hK K
    try simp only [Act.put, List.setIfInBounds_toArray, List.set_cons_zero, List.set_cons_succ]
    refine take_dst (some 33) (i := 9) (v := ?vR9) rfl rfl (by kernel_rfl) (by kernel_rfl) (by kernel_rfl) (fun _ _ _ h => h) (Or.inl ⟨by rfl, fun wS hSw => ?hyR9⟩) (by assumption) ?restR9
    case hyR9 => (obtain ⟨s1, s2⟩ := hSw; go_simp; first | done | with_reducible rfl)
    try simp only [Act.put, List.setIfInBounds_toArray, List.set_cons_zero, List.set_cons_succ]
    refine take_dst (some 43) (i := 10) (v := ?vR10) rfl rfl (by kernel_rfl) (by kernel_rfl) (by kernel_rfl) (fun _ _ _ h => h) (Or.inl ⟨by rfl, fun wS hSw => ?hyR10⟩) (by assumption) ?restR10
    case hyR10 => (obtain ⟨s1, s2⟩ := hSw; go_simp; first | done | with_reducible rfl)
    try simp only [Act.put, List.setIfInBounds_toArray, List.set_cons_zero, List.set_cons_succ]
    refine take_dst (some 44) (i := 11) (v := ?vR11) rfl rfl (by kernel_rfl) (by kernel_rfl) (by kernel_rfl) (fun _ _ _ h => h) (Or.inl ⟨by rfl, fun wS hSw => ?hyR11⟩) (by assumption) ?restR11
    case hyR11 => (obtain ⟨s1, s2⟩ := hSw; go_simp; first | done | with_reducible rfl)
    try simp only [Act.put, List.setIfInBounds_toArray, List.set_cons_zero, List.set_cons_succ]
    refine take_dst (some 12) (i := 12) (v := ?vR12) rfl rfl (by kernel_rfl) (by kernel_rfl) (by kernel_rfl) (fun _ _ _ h => h) (Or.inl ⟨by rfl, fun wS hSw => ?hyR12⟩) (by assumption) ?restR12
    case hyR12 => (obtain ⟨s1, s2⟩ := hSw; go_simp; first | done | with_reducible rfl)
    try simp only [Act.put, List.setIfInBounds_toArray, List.set_cons_zero, List.set_cons_succ]
    refine wpAnyH_done (by kernel_rfl) ?_ _
    go_wp2_with fail
    all_goals (go_ret; exact ⟨v5, rfl, by rw [HWS.out]; exact HK5.out, below_ext HB2.out HB5.out⟩)
end Go.Proofs.YtbonebmboolemaaDoor
