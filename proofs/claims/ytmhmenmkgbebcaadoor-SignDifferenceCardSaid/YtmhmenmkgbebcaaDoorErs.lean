/- the reference's digest: Sum. -/
import Derived.Test.YtmhmenmkgbebcaaDoorErb
import Derived.Test.YtmhmenmkgbebcaaDoorErp
import Derived.StillTailTactics
import Derived.Deep.DeepCutAuto
namespace Go.Proofs.YtmhmenmkgbebcaaDoor
open Go.RowKit
theorem rblock_lit (b off cap : Nat) (s : S8) (l : List UInt8) (w : World) (hl : l.length = 64) (hcap : 64 ≤ cap) (hm : cap ≤ maxLen) (hb : b < w.heap.size) (hbl : BL w b off l) :
    Calls Tryd.prog 71 #[.agg #[.int .u32 (iw s.a), .int .u32 (iw s.b), .int .u32 (iw s.c), .int .u32 (iw s.d), .int .u32 (iw s.e), .int .u32 (iw s.f), .int .u32 (iw s.g), .int .u32 (iw s.h)], .slice (some ⟨b, off, none⟩) 64 cap] w fun e w' => (∃ t, blockS s l = t ∧ e = .returned (.agg #[.int .u32 (iw t.a), .int .u32 (iw t.b), .int .u32 (iw t.c), .int .u32 (iw t.d), .int .u32 (iw t.e), .int .u32 (iw t.f), .int .u32 (iw t.g), .int .u32 (iw t.h)])) ∧ Below w.heap.size w w' :=
  (rblock_any b off cap s l w hl hcap hm hb hbl).mono fun _ _ h => ⟨⟨_, rfl, h.1⟩, h.2⟩
def outB (st : S8) : List UInt8 := st.l.flatMap fun x => be 4 x.toNat
theorem outB_len (st : S8) : (outB st).length = 32 := by simp [outB, S8.l, be_len]
theorem l8_get (st : S8) (j : Nat) (h : j < 8) : (st.l.map iw32)[j]? = some (.int .u32 (iw (st.l.getD j 0))) := by
  rcases (by omega : j = 0 ∨ j = 1 ∨ j = 2 ∨ j = 3 ∨ j = 4 ∨ j = 5 ∨ j = 6 ∨ j = 7) with rfl | rfl | rfl | rfl | rfl | rfl | rfl | rfl <;> rfl
theorem outB_at (st : S8) (j q : Nat) (h : j < 8) (hq : q < 4) : (bcells (outB st))[4 * j + q]? = some (.int .u8 (iw (st.l.getD j 0) / 2 ^ (24 - 8 * q) % 256)) := by
  have h1 : ∀ x : W32, (bcells (be 4 x.toNat))[q]? = some (.int .u8 (iw x / 2 ^ (24 - 8 * q) % 256)) := fun x => by
    have := be_get 4 x.toNat (3 - q) (by omega)
    rw [show 4 - 1 - (3 - q) = q by omega, show 8 * (3 - q) = 24 - 8 * q by omega] at this
    exact this
  have h2 : (bcells (outB st))[4 * j + q]? = (bcells (be 4 (st.l.getD j 0).toNat))[q]? := by
    rcases (by omega : j = 0 ∨ j = 1 ∨ j = 2 ∨ j = 3 ∨ j = 4 ∨ j = 5 ∨ j = 6 ∨ j = 7) with rfl | rfl | rfl | rfl | rfl | rfl | rfl | rfl <;>
      rcases (by omega : q = 0 ∨ q = 1 ∨ q = 2 ∨ q = 3) with rfl | rfl | rfl | rfl <;> rfl
  rw [h2]; exact h1 _
theorem fill_set (o : List UInt8) (k : Nat) (ho : o.length = 32) (hk : k < 32) (u : Value) (hu : (bcells o)[k]? = some u) : (bcells (o.take k ++ List.replicate (32 - k) 0)).set k u = bcells (o.take (k + 1) ++ List.replicate (32 - (k + 1)) 0) := by
  obtain ⟨c, hc, rfl⟩ := bcells_getElem o k u hu
  obtain ⟨h1, h2⟩ := List.getElem?_eq_some_iff.1 hc
  have e : (Value.int .u8 (c.toNat : Int)) = ub c := rfl
  rw [bcells_map, e, ← List.map_set, bcells_map]
  congr 1
  rw [show 32 - k = (32 - (k + 1)) + 1 by omega, List.replicate_succ, List.set_append_right _ _ (by rw [List.length_take]; omega), List.length_take, Nat.min_eq_left (by omega), Nat.sub_self, List.set_cons_zero, List.take_succ_eq_append_getElem h1, h2]
  simp
def O2Rel (D : Nat) (o : List UInt8) (w : World) (i : Value) (wr : World) : Prop :=
  ∃ k : Nat, k ≤ 32 ∧ i = .int .i64 k ∧ CB wr D 35 (bcells (o.take k ++ List.replicate (32 - k) 0)) ∧ w.grownBy wr (some D)
def S1Rel (S : Nat) (p : List UInt8) (w : World) (i : Value) (wr : World) : Prop :=
  ∃ k : Nat, 64 * k ≤ p.length ∧ i = .int .i64 (64 * k : Nat) ∧ CB wr S 75 ((absorbs k startS p).l.map iw32) ∧ w.grownBy wr (some S)
set_option maxRecDepth 100000 in
set_option maxHeartbeats 3000000 in
theorem rsum_any (v : Value) (l : List UInt8) (w : World) (hl : l.length ≤ 1000000) (hb : BtsAt w.heap.size w l v) :
    Calls Tryd.prog 64 #[v] w fun e w' => e = .returned (dv (sha l)) ∧ Below w.heap.size w w' := by
  have HB := Lib.hid hb
  obtain ⟨oa, cap, rfl⟩ := hb.shape
  clear hb
  go_enter Tryd.func64, Tryd.ntmps64
  go_wp2_with fail
  have hw0 : ∃ w0, (w.alloc (.cells #[.int .u8 0, .int .u8 0, .int .u8 0, .int .u8 0, .int .u8 0, .int .u8 0, .int .u8 0, .int .u8 0, .int .u8 0, .int .u8 0, .int .u8 0, .int .u8 0, .int .u8 0, .int .u8 0, .int .u8 0, .int .u8 0, .int .u8 0, .int .u8 0, .int .u8 0, .int .u8 0, .int .u8 0, .int .u8 0, .int .u8 0, .int .u8 0, .int .u8 0, .int .u8 0, .int .u8 0, .int .u8 0, .int .u8 0, .int .u8 0, .int .u8 0, .int .u8 0] 35)).alloc (.cells #[.int .u32 1779033703, .int .u32 3144134277, .int .u32 1013904242, .int .u32 2773480762, .int .u32 1359893119, .int .u32 2600822924, .int .u32 528734635, .int .u32 1541459225] 75) = w0 := ⟨_, rfl⟩
  obtain ⟨w0, hw0⟩ := hw0
  rw [hw0]
  have hA : CB w0 w.heap.size 35 (bcells (List.replicate 32 0)) := by
    rw [← hw0]; exact (Below.heap_alloc _ _ _ (by rw [World.size_alloc]; omega)).trans (heap_alloc_new w _)
  have hSx := heap_alloc_new (w.alloc (.cells #[.int .u8 0, .int .u8 0, .int .u8 0, .int .u8 0, .int .u8 0, .int .u8 0, .int .u8 0, .int .u8 0, .int .u8 0, .int .u8 0, .int .u8 0, .int .u8 0, .int .u8 0, .int .u8 0, .int .u8 0, .int .u8 0, .int .u8 0, .int .u8 0, .int .u8 0, .int .u8 0, .int .u8 0, .int .u8 0, .int .u8 0, .int .u8 0, .int .u8 0, .int .u8 0, .int .u8 0, .int .u8 0, .int .u8 0, .int .u8 0, .int .u8 0, .int .u8 0] 35)) (.cells #[.int .u32 1779033703, .int .u32 3144134277, .int .u32 1013904242, .int .u32 2773480762, .int .u32 1359893119, .int .u32 2600822924, .int .u32 528734635, .int .u32 1541459225] 75)
  rw [hw0, World.size_alloc] at hSx
  have hst : (#[.int .u32 1779033703, .int .u32 3144134277, .int .u32 1013904242, .int .u32 2773480762, .int .u32 1359893119, .int .u32 2600822924, .int .u32 528734635, .int .u32 1541459225] : Array Value) = (startS.l.map iw32).toArray := by kernel_rfl
  rw [hst] at hSx
  have hS : CB w0 (w.heap.size + 1) 75 (startS.l.map iw32) := hSx
  have hG : w.grownBy w0 none := by rw [← hw0]; exact grown_alloc (grown_alloc (grown_refl w _) _) _
  have HA := Lib.hid hA; have HS := Lib.hid hS; have HG := Lib.hid hG
  clear hA hSx hst hS hG hw0
  refine (padded_any _ l w0 hl (HB.out.ext (grown_none HG.out))).mono ?_
  rintro e w1 ⟨v1, rfl, ho1, hb1⟩
  obtain ⟨p, hp⟩ : ∃ p, pad l = p := ⟨_, rfl⟩
  have hpl := pad_len l
  rw [hp] at ho1 hpl
  have Hp := Lib.hid hp
  obtain ⟨g, cp, rfl, hg0, hpc, hcm⟩ : ∃ g cp, v1 = .slice (some ⟨g, 0, none⟩) p.length cp ∧ w0.heap.size ≤ g ∧ p.length ≤ cp ∧ cp ≤ maxLen := by
    rcases ho1.2 with ⟨_, h⟩ | ⟨g', cap', cur, h, h2, _, h3, h4, _⟩
    · omega
    · exact ⟨g', cap', h, h2, h3, h4⟩
  have HBL : Hid (BL w1 g 0 p) := fun j c hj => by
    have h := World.ownsRow.cells (e := 5) ho1 (g := g) rfl j (.int .u8 c.toNat) (by simp [bcells, hj])
    have hpl : (⟨g, 0, none⟩ : Addr).add j = ⟨g, 0 + j, none⟩ := by unfold Addr.add; split <;> simp_all
    rw [hpl] at h; exact h
  have hgw1 := (World.ownsRow.lt ho1 g rfl).2
  have hSl : w.heap.size + 1 < w0.heap.size := HS.out.lt
  have HS1 : Hid (CB w1 (w.heap.size + 1) 75 (startS.l.map iw32)) := HS.out.keep (hb1.block _ hSl)
  have HA1 : Hid (CB w1 w.heap.size 35 (bcells (List.replicate 32 0))) := HA.out.keep (hb1.block _ HA.out.lt)
  have HG1 := Lib.hid (grown_trans HG.out (G1 := none) ⟨hb1.os, hb1.tape, hb1.output, hb1.size, fun j hj _ => hb1.block j hj⟩ (.inl rfl))
  obtain ⟨P, hP⟩ : ∃ P, p.length = P := ⟨_, rfl⟩
  have hP64 : P % 64 = 0 := by rw [← hP]; exact hpl.1
  have hPb : P ≤ 2000000 := by rw [← hP, hpl.2]; omega
  rw [hP] at hpc ⊢
  have HP := Lib.hid hP
  have HP64 := Lib.hid hP64; have Hcm := Lib.hid hcm
  unfold maxLen at hcm
  clear ho1 hb1 hp hpl hP HS HA HG hP64
  have bP : (P : Int) ≤ 2000000 := by omega
  have bc : (P : Int) ≤ (cp : Int) := by omega
  go_wp2
  go_loopw [5] (fun i wr => S1Rel (w.heap.size + 1) p w1 i wr) (fun i _ => P + 64 - (intOf i).toNat)
  case atStart => exact ⟨0, Nat.zero_le _, rfl, HS1.out, grown_refl _ _⟩
  case round =>
    obtain ⟨k, hk, rfl, hs, hg⟩ := hrel
    obtain ⟨m, hm⟩ : ∃ m, 64 * k = m := ⟨_, rfl⟩
    rw [hm]
    have Hm := Lib.hid hm
    rw [hm, HP.out] at hk
    have hm64 : m % 64 = 0 := by omega
    by_cases hlt : m < P
    · have hmP : m + 64 ≤ P := by have := HP64.out; omega
      have tk : decide (m < P) = true := by simp; omega
      obtain ⟨s0, s1, s2, s3, s4, s5, s6, s7⟩ := cb8 hs
      obtain ⟨st, hst⟩ : ∃ st, absorbs k startS p = st := ⟨_, rfl⟩
      rw [hst] at s0 s1 s2 s3 s4 s5 s6 s7 hs
      have Hst := Lib.hid hst
      have fz : ∀ o, wr.frozen? ⟨w.heap.size + 1, o, none⟩ = false := fun o => hs.frozen o
      have e1 : IntKind.i64.wrap ((m : Int) + 64) = (m : Int) + 64 := IntWalk.i64_in _ (by omega)
      have b1 : (m : Int) + 64 ≤ (cp : Int) := by omega
      have b2 : (m : Int) ≤ (m : Int) + 64 := by omega
      have b3 : (0 : Int) ≤ (m : Int) + 64 := by omega
      have e2 : ((m : Int) + 64).toNat = m + 64 := by omega
      have HSr := Lib.hid hs; have HGr := Lib.hid hg
      clear hst hs hg hm hm64
      go_wp2
      go_still_tail 6, (by kernel_rfl)
      change wpList _ _ _ _ _ wr.drew
      have hS5 : Hid (CB wr.drew (w.heap.size + 1) 75 (st.l.map iw32)) := HSr.out
      have hG5 := Lib.hid (grown_drew' HGr.out)
      generalize wr.drew = w5 at *
      clear HSr HGr s0 s1 s2 s3 s4 s5 s6 s7 fz
      have hgw5 : g < w5.heap.size := Nat.lt_of_lt_of_le hgw1 hG5.out.size
      have hgS : g ≠ w.heap.size + 1 := by omega
      have hblk : BL w5 g m (p.drop m) := by
        have h := (HBL.out.keep (hG5.out.block g hgw1 (by intro e; injection e; omega))).drop m
        rwa [Nat.zero_add] at h
      have HBk := Lib.hid (hblk.take 64)
      have hl64 := Lib.hid (show ((p.drop m).take 64).length = 64 by rw [List.length_take, List.length_drop, HP.out]; omega)
      have hcm2 := Lib.hid (show cp - m ≤ maxLen by have := Hcm.out; omega)
      have hc64 : 64 ≤ cp - m := by omega
      clear hblk
      go_wp2_with fail
      refine (rblock_lit g m (cp - m) st ((p.drop m).take 64) w5 hl64.out hc64 hcm2.out hgw5 HBk.out).mono ?_
      rintro e w6 ⟨⟨t, ht, rfl⟩, hb6⟩
      have hS6 := hS5.out.keep (hb6.block _ hS5.out.lt)
      have HS6 := Lib.hid hS6
      have hG6 := Lib.hid (grown_trans hG5.out (G1 := none) ⟨hb6.os, hb6.tape, hb6.output, hb6.size, fun j hj _ => hb6.block j hj⟩ (.inr (by simp)))
      obtain ⟨s0, s1, s2, s3, s4, s5, s6, s7⟩ := cb8 hS6
      have fz : ∀ o, w6.frozen? ⟨w.heap.size + 1, o, none⟩ = false := fun o => hS6.frozen o
      have Ht := Lib.hid ht
      clear hS6 hb6 ht hS5 hG5
      go_wp2
      go_roundw
      case rel =>
        refine ⟨k + 1, by rw [HP.out]; have := Hm.out; omega, by have := Hm.out; go_num, ?_, ?_⟩
        · have h8 := (((((((HS6.out.set 0 (iw32 t.a)).set 1 (iw32 t.b)).set 2 (iw32 t.c)).set 3 (iw32 t.d)).set 4 (iw32 t.e)).set 5 (iw32 t.f)).set 6 (iw32 t.g)).set 7 (iw32 t.h)
          have hr : absorbs (k + 1) startS p = t := by rw [absorbs_succ, Hst.out, Hm.out, Ht.out]
          rw [hr]; exact h8
        · exact grown_setR (grown_setR (grown_setR (grown_setR (grown_setR (grown_setR (grown_setR (grown_setR hG6.out)))))))
      case measure => simp [intOf]; omega
    · have hmP : m = P := by omega
      have tk : decide (m < P) = false := by simp; omega
      obtain ⟨wo, rfl⟩ : ∃ wo : World, wo = wr := ⟨_, rfl⟩
      obtain ⟨st, hst⟩ : ∃ st, absorbs k startS p = st := ⟨_, rfl⟩
      rw [hst] at hs
      have hsha : sha l = st.l.flatMap fun x => be 4 x.toNat := by
        unfold sha; rw [Hp.out, HP.out, ← hst, ← hmP, ← hm, Nat.mul_div_cancel_left k (by decide)]
      have Hsha := Lib.hid hsha
      have HSo := Lib.hid hs
      have HAo : Hid (CB wo w.heap.size 35 (bcells (List.replicate 32 0))) := HA1.out.keep (hg.block _ HA1.out.lt (by intro e; injection e; omega))
      have HGo := Lib.hid (grown_trans HG1.out hg (.inr fun g' hg' => by injection hg'; omega))
      clear hst hs hg hm hm64 hmP hsha
      go_upto_region 7 with (fail)
      refine wp_region_list ?_
      refine wpList_build rfl 35 _ rfl (by kernel_rfl) ?_
      generalize hX : (Program.built _ _ _).getD #[] = X
      have hX2 : Value.agg X = dv (List.replicate 32 0) := by rw [← hX]; kernel_rfl
      rw [hX2]
      clear hX hX2
      obtain ⟨z, hz⟩ : ∃ z, List.replicate 32 (0 : UInt8) = z := ⟨_, rfl⟩
      have hzl : Hid (z.length = 32) := by show _ = _; rw [← hz]; rfl
      rw [hz]
      have Hz := Lib.hid hz
      clear hz
      go_wp2_with (with_reducible refine wpList_store_d (hgd := rfl) 35 (.tmp 6) (.tmp 24) rfl wo.heap.size z hzl.out rfl rfl 35 _ (heap_alloc_new _ _) rfl dig_sz ?_; intro w3 hc3 hg3 hz3)
      have hg23 : wo.grownBy w3 none := grown_trans (World.grownBy_alloc wo _ none) hg3.out (.inr fun g hg => by injection hg; omega)
      have HS3 : Hid (CB w3 (w.heap.size + 1) 75 (st.l.map iw32)) := HSo.out.keep (hg23.block _ HSo.out.lt (by simp))
      have HA3 : Hid (CB w3 w.heap.size 35 (bcells (List.replicate 32 0))) := HAo.out.keep (hg23.block _ HAo.out.lt (by simp))
      have HG3 := Lib.hid (grown_trans HGo.out hg23 (.inl rfl))
      have hSD : w.heap.size + 1 < wo.heap.size := HSo.out.lt
      have hgD : Hid (w.heap.size ≤ wo.heap.size) := HGo.out.size
      obtain ⟨D, hD⟩ : ∃ D, wo.heap.size = D := ⟨_, rfl⟩
      rw [hD] at hc3 hSD hgD ⊢
      obtain ⟨o, ho⟩ : ∃ o, outB st = o := ⟨_, rfl⟩
      have hol := Lib.hid (outB_len st)
      have hoa := Lib.hid (outB_at st)
      have Hsho : Hid (sha l = o) := by show sha l = o; rw [Hsha.out, ← ho]; rfl
      rw [ho] at hol hoa
      have HC3 : Hid (CB w3 D 35 (bcells (o.take 0 ++ List.replicate (32 - 0) 0))) := by
        have h := hc3.out; rw [← Hz.out] at h; exact h
      clear hc3 hg3 hz3 hg23 hD ho Hsha HSo HAo HGo
      go_loopw [7] (fun i wr => O2Rel D o w3 i wr) (fun i _ => 32 - (intOf i).toNat)
      case atStart => exact ⟨0, by omega, rfl, HC3.out, grown_refl _ _⟩
      case round =>
        obtain ⟨k, hk, rfl, hc, hg⟩ := hrel
        have HC := Lib.hid hc; have HGr := Lib.hid hg
        by_cases hlt : k < 32
        · have tk : decide ((k : Int) < 32) = true := by simp; omega
          obtain ⟨j, hj⟩ : ∃ j, k / 4 = j := ⟨_, rfl⟩
          obtain ⟨q, hq⟩ : ∃ q, k % 4 = q := ⟨_, rfl⟩
          have hj8 : j < 8 := by omega
          have hq4 : q < 4 := by omega
          have hkjq : 4 * j + q = k := by omega
          have e0 : (k : Int) / 4 = (j : Int) := by omega
          have e1 : (k : Int) % 4 = (q : Int) := by omega
          have b0 : (q : Int) ≤ 3 := by omega
          have b1 : (j : Int) < 8 := by omega
          have b2 : (k : Int) < 32 := by omega
          have e2 : ((24 : Int) - 8 * (q : Int)).toNat = 24 - 8 * q := by omega
          have b3 : (0 : Int) ≤ 24 - 8 * (q : Int) := by omega
          have b4 : (8 : Int) * (q : Int) ≤ 24 := by omega
          have cx : wr.cell? ⟨w.heap.size + 1, j, none⟩ = some (.int .u32 (iw (st.l.getD j 0))) := by
            rw [World.cell?_of_block (w := w3) (HGr.out.block (w.heap.size + 1) HS3.out.lt (by intro e; injection e; omega))]
            exact (HS3.out.cell j).trans (l8_get st j hj8)
          have hat := hoa.out j q hj8 hq4
          obtain ⟨x, hx⟩ : ∃ x, st.l.getD j 0 = x := ⟨_, rfl⟩
          rw [hx] at cx hat
          rw [hkjq] at hat
          have hset := Lib.hid (fill_set o k hol.out hlt _ hat)
          have fz := hc.frozen k
          have hlen : (bcells (o.take k ++ List.replicate (32 - k) (0 : UInt8))).length = 32 := by rw [bcells_length, List.length_append, List.length_take, List.length_replicate, hol.out]; omega
          obtain ⟨y, hy⟩ : ∃ y, wr.cell? ⟨D, k, none⟩ = some y := ⟨_, (hc.cell k).trans (List.getElem?_eq_getElem (by omega))⟩
          obtain ⟨bx1, bx2⟩ := iw_lt x
          clear hc hg hj hq hkjq hx hat hlen
          go_wp2
          go_roundw
          case rel => exact ⟨k + 1, by omega, by go_num, by rw [← hset.out]; exact HC.out.set _ _, grown_setR HGr.out⟩
          case measure => simp [intOf]; omega
        · have hk32 : k = 32 := by omega
          have tk : decide ((k : Int) < 32) = false := by simp; omega
          rw [hk32, List.take_of_length_le (by rw [hol.out]; exact Nat.le_refl _), Nat.sub_self, List.replicate_zero, List.append_nil] at hc
          have HD := Lib.hid hc
          have hT : Hid (wr.heap[w.heap.size]? = some (.cells (bcells (List.replicate 32 0)).toArray 35 (0, 0))) := (HGr.out.block w.heap.size HA3.out.lt (by intro e; injection e; omega)).trans HA3.out
          have HGf := Lib.hid (grown_trans HG3.out HGr.out (.inr fun g' hg' => by injection hg'; have := hgD.out; omega))
          clear hc hg hk32 HC
          go_wp2_with (first
            | (with_reducible refine wpList_load_d (hgd := rfl) 35 (.tmp 6) rfl D o hol.out rfl 35 _ HD.out Tryd.underlying35 rfl dig_sz ?_)
            | (with_reducible refine wpList_store_d (hgd := rfl) 35 (.tmp 2) (.tmp 41) rfl w.heap.size o hol.out rfl rfl 35 _ hT.out rfl dig_sz ?_; intro w7 hc7 hg7 hz7))
          refine bodyPost_ret (v := dv o) (results_cell_row rfl _ _ w.heap.size 35 (bcells o).toArray (0, 0) _ rfl hc7.out Tryd.underlying35 rfl (by rw [List.size_toArray, bcells_length, hol.out]; exact dig_sz)) rfl ?_
          exact ⟨by rw [Hsho.out], (grown_none HGf.out).grown hg7.out HGf.out.size (fun k hk => by injection hk; omega)⟩
end Go.Proofs.YtmhmenmkgbebcaaDoor
