/- chapter 49's law: InputsBack (printed by gen49ao.py). -/
import Derived.Test.YtdblnbnofjggnaaGreatDoorK50
namespace Go.Proofs.YtdblnbnofjggnaaGreatDoor
open Go.RowKit
set_option maxRecDepth 100000 in
set_option maxHeartbeats 16000000 in
theorem lawback_any (x : Inp) (s : Slc) (l : List UInt8) (oa : Option Addr) (ca : Nat) (w : World) (hx : InpR w x s) (hi : InpI x) (hb : BtsAt w.heap.size w l (.slice oa l.length ca)) (hL : Laid w) :
 Calls Tryz.prog 8 #[x.v s, .slice oa l.length ca] w (TrueP w) := by
 have HI : Hid (CB (w.alloc (bI x s)) w.heap.size 41 (x.cells s)) := cb_one w (bI x s) _ _ rfl
 have HB := Lib.hid (b_al (w := w) (bI x s)); have RX := Lib.hid (hx.ext (b_al (w := w) (bI x s))); have Hi := Lib.hid hi; have HL := Lib.hid hL
 have HU := Lib.hid (hb.ext (b_al (w := w) (bI x s))); clear hb
 clear hx hi hL
 change Calls Tryz.prog 8 #[.agg (x.cells s).toArray, .slice oa l.length ca] w _
 go_enter Tryz.func8, Tryz.ntmps8
 go_upto_region 1 with fail
 change Code.wp _ _ _ _ (w.alloc (bI x s))
 generalize w.alloc (bI x s) = w0 at *
 obtain ⟨bf, hf⟩ : ∃ b, fewB x = b := ⟨_, rfl⟩
 have Hf := Lib.hid hf; clear hf
 cases bf
 case false =>
  have T0 := Lib.hid (Nat.le_refl 0)
  go_wp2_with (first
   | (have _g := T0.out; go_at_call 11; refine (sane49_any _ (HL.out.ext HB.out)).mono ?_; go_loud (rintro e w1 ⟨rfl, hb⟩; replace HI := Lib.hid (HI.out.ext hb); replace RX := Lib.hid (RX.out.ext hb); replace HU := Lib.hid (HU.out.ext hb); replace HB := Lib.hid (below_ext HB.out hb); clear hb; clear T0; have T1 := Lib.hid (Nat.le_refl 1)))
   | (have _g := T1.out; refine wpList_load_cs (by rfl) 41 (.tmp 2) rfl w.heap.size (x.cells s) rfl 41 _ HI.out Tryz.underlying41 rfl (by kernel_rfl) ?_; clear T1; have T2 := Lib.hid (Nat.le_refl 2))
   | (have _g := T2.out; go_at_call 12; refine (few49 RX.out Hi.out Hf.out).mono ?_; go_loud (rintro e w2 ⟨rfl, hb⟩; replace HI := Lib.hid (HI.out.ext hb); replace RX := Lib.hid (RX.out.ext hb); replace HU := Lib.hid (HU.out.ext hb); replace HB := Lib.hid (below_ext HB.out hb); clear hb; clear T2; have T3 := Lib.hid (Nat.le_refl 3))))
  go_ret
  exact ⟨rfl, HB.out⟩
 case true =>
 by_cases h3 : 3000 < l.length
 case pos =>
  have y1 : decide ((3000 : Int) < (l.length : Int)) = true := decide_eq_true (by omega)
  clear h3
  have T0 := Lib.hid (Nat.le_refl 0)
  go_wp2_with (first
   | (have _g := T0.out; go_at_call 11; refine (sane49_any _ (HL.out.ext HB.out)).mono ?_; go_loud (rintro e w1 ⟨rfl, hb⟩; replace HI := Lib.hid (HI.out.ext hb); replace RX := Lib.hid (RX.out.ext hb); replace HU := Lib.hid (HU.out.ext hb); replace HB := Lib.hid (below_ext HB.out hb); clear hb; clear T0; have T1 := Lib.hid (Nat.le_refl 1)))
   | (have _g := T1.out; refine wpList_load_cs (by rfl) 41 (.tmp 2) rfl w.heap.size (x.cells s) rfl 41 _ HI.out Tryz.underlying41 rfl (by kernel_rfl) ?_; clear T1; have T2 := Lib.hid (Nat.le_refl 2))
   | (have _g := T2.out; go_at_call 12; refine (few49 RX.out Hi.out Hf.out).mono ?_; go_loud (rintro e w2 ⟨rfl, hb⟩; replace HI := Lib.hid (HI.out.ext hb); replace RX := Lib.hid (RX.out.ext hb); replace HU := Lib.hid (HU.out.ext hb); replace HB := Lib.hid (below_ext HB.out hb); clear hb; clear T2; have T3 := Lib.hid (Nat.le_refl 3))))
  go_ret
  exact ⟨rfl, HB.out⟩
 case neg =>
  have y1 : decide ((3000 : Int) < (l.length : Int)) = false := decide_eq_false (by omega)
  have H3 : Hid (l.length ≤ 4000) := Lib.hid (by omega)
  have HF := Lib.hid (fewB_I Hf.out)
  clear h3
  have T0 := Lib.hid (Nat.le_refl 0)
  rcases decO_cases l H3.out with ⟨y, hd, hk, rfl, hyI, -, hyz⟩ | hd | hd
  case inl =>
   have T0 := Lib.hid (Nat.le_refl 0)
   have Hyk := Lib.hid hk; have HyI := Lib.hid hyI; have Hyz := Lib.hid hyz; clear hk hyI hyz
   have Hd := Lib.hid hd; clear hd
   cases hk : okI x with
   | false =>
    have T0 := Lib.hid (Nat.le_refl 0)
    have Hk := Lib.hid hk; clear hk
    go_upto_region 5 with (first
   | (have _g := T0.out; go_at_call 11; refine (sane49_any _ (HL.out.ext HB.out)).mono ?_; go_loud (rintro e w1 ⟨rfl, hb⟩; replace HI := Lib.hid (HI.out.ext hb); replace RX := Lib.hid (RX.out.ext hb); replace HU := Lib.hid (HU.out.ext hb); replace HB := Lib.hid (below_ext HB.out hb); clear hb; clear T0; have T1 := Lib.hid (Nat.le_refl 1)))
   | (have _g := T1.out; refine wpList_load_cs (by rfl) 41 (.tmp 2) rfl w.heap.size (x.cells s) rfl 41 _ HI.out Tryz.underlying41 rfl (by kernel_rfl) ?_; clear T1; have T2 := Lib.hid (Nat.le_refl 2))
   | (have _g := T2.out; go_at_call 12; refine (few49 RX.out Hi.out Hf.out).mono ?_; go_loud (rintro e w2 ⟨rfl, hb⟩; replace HI := Lib.hid (HI.out.ext hb); replace RX := Lib.hid (RX.out.ext hb); replace HU := Lib.hid (HU.out.ext hb); replace HB := Lib.hid (below_ext HB.out hb); clear hb; clear T2; have T3 := Lib.hid (Nat.le_refl 3))))
    go_upto_region 6 with (first
   | (have _g := T3.out; refine wpList_load_cs (by rfl) 41 (.tmp 2) rfl w.heap.size (x.cells s) rfl 41 _ HI.out Tryz.underlying41 rfl (by kernel_rfl) ?_; clear T3; have T4 := Lib.hid (Nat.le_refl 4))
   | (have _g := T4.out; go_at_call 14; refine (enc_no RX.out Hi.out HF.out.sz Hk.out).mono ?_; go_loud (rintro e w3 ⟨ou, cu, rfl, hu, hb⟩; replace HI := Lib.hid (HI.out.ext hb); replace RX := Lib.hid (RX.out.ext hb); replace HU := Lib.hid (HU.out.ext hb); replace HB := Lib.hid (below_ext HB.out hb); have U1 := Lib.hid hu; clear hu; clear hb; clear T4; have T5 := Lib.hid (Nat.le_refl 5))))
    go_upto_region 12 with (first
   | (have _g := T5.out; refine wpList_load_cs (by rfl) 41 (.tmp 2) rfl w.heap.size (x.cells s) rfl 41 _ HI.out Tryz.underlying41 rfl (by kernel_rfl) ?_; clear T5; have T6 := Lib.hid (Nat.le_refl 6))
   | (have _g := T6.out; go_at_call 13; refine (chk_no RX.out Hi.out Hk.out).mono ?_; go_loud (rintro e w4 ⟨rfl, hb⟩; replace HI := Lib.hid (HI.out.ext hb); replace RX := Lib.hid (RX.out.ext hb); replace HU := Lib.hid (HU.out.ext hb); replace U1 := Lib.hid (U1.out.ext hb); replace HB := Lib.hid (below_ext HB.out hb); clear hb; clear T6; have T7 := Lib.hid (Nat.le_refl 7))))
    go_upto_region 13 with (first
   | (have _g := T7.out; go_at_call 21; refine (dec49 H3.out Hd.out _ _ HU.out).mono ?_; go_loud (rintro e w8 ⟨sy, rfl, hI, hb⟩; replace HI := Lib.hid (HI.out.ext hb); replace RX := Lib.hid (RX.out.ext hb); replace HU := Lib.hid (HU.out.ext hb); replace U1 := Lib.hid (U1.out.ext hb); replace HB := Lib.hid (below_ext HB.out hb); have R2 := Lib.hid hI; clear hI; have HZ : Hid (CB (w8.alloc ZI) w8.heap.size 41 ZIc) := Lib.hid (cb_one w8 ZI _ _ rfl); clear hb; clear T7; have T8 := Lib.hid (Nat.le_refl 8)))
   | (have _g := T8.out; have _h := HZ.out; refine wpList_store_cs rfl 41 (.tmp 9) (.tmp 59) rfl w8.heap.size (y.cells sy) rfl rfl 41 ZIc HZ.out rfl (by kernel_rfl) (inpR_one R2.out) (fun w9 HC HG HS_ => ?_); have hbs : Below w8.heap.size w8 w9 := (b_al (w := w8) ZI).grown HG.out (b_al (w := w8) ZI).size (fun q e => by injection e with e; omega); replace HI := Lib.hid (HI.out.ext hbs); replace RX := Lib.hid (RX.out.ext hbs); replace HU := Lib.hid (HU.out.ext hbs); replace U1 := Lib.hid (U1.out.ext hbs); replace R2 := Lib.hid (R2.out.ext hbs); replace HB := Lib.hid (below_ext HB.out hbs); have B2 := HC; clear hbs HC HG HS_ HZ _h; clear T8; have T9 := Lib.hid (Nat.le_refl 9)))
    go_upto_region 16 with (first
   | (have _g := T9.out; refine wpList_load_cs (by rfl) 41 (.tmp 9) rfl w8.heap.size (y.cells sy) rfl 41 _ B2.out Tryz.underlying41 rfl (by kernel_rfl) ?_; clear T9; have T10 := Lib.hid (Nat.le_refl 10))
   | (have _g := T10.out; go_at_call 14; refine (enc_yes R2.out HyI.out Hyz.out Hyk.out).mono ?_; go_loud (rintro e wa ⟨ov, cv, rfl, hu, hb⟩; replace HI := Lib.hid (HI.out.ext hb); replace RX := Lib.hid (RX.out.ext hb); replace HU := Lib.hid (HU.out.ext hb); replace U1 := Lib.hid (U1.out.ext hb); replace R2 := Lib.hid (R2.out.ext hb); replace B2 := Lib.hid (B2.out.ext hb); replace HB := Lib.hid (below_ext HB.out hb); have U3 := Lib.hid hu; clear hu; clear hb; clear T10; have T11 := Lib.hid (Nat.le_refl 11))))
    go_wp2_with (first
   | (have _g := T11.out; refine wpList_load_cs (by rfl) 41 (.tmp 9) rfl w8.heap.size (y.cells sy) rfl 41 _ B2.out Tryz.underlying41 rfl (by kernel_rfl) ?_; clear T11; have T12 := Lib.hid (Nat.le_refl 12))
   | (have _g := T12.out; go_at_call 13; refine (chk_ok R2.out HyI.out Hyk.out).mono ?_; go_loud (rintro e wb ⟨rfl, hb⟩; replace HI := Lib.hid (HI.out.ext hb); replace RX := Lib.hid (RX.out.ext hb); replace HU := Lib.hid (HU.out.ext hb); replace U1 := Lib.hid (U1.out.ext hb); replace R2 := Lib.hid (R2.out.ext hb); replace B2 := Lib.hid (B2.out.ext hb); replace U3 := Lib.hid (U3.out.ext hb); replace HB := Lib.hid (below_ext HB.out hb); have k1 := conv_bts U3.out; have k2 := conv_bts HU.out; clear hb; clear T12; have T13 := Lib.hid (Nat.le_refl 13))))
    go_ret
    exact ⟨rfl, HB.out⟩
   | true =>
    have T0 := Lib.hid (Nat.le_refl 0)
    have Hk := Lib.hid hk; clear hk
    go_upto_region 5 with (first
   | (have _g := T0.out; go_at_call 11; refine (sane49_any _ (HL.out.ext HB.out)).mono ?_; go_loud (rintro e w1 ⟨rfl, hb⟩; replace HI := Lib.hid (HI.out.ext hb); replace RX := Lib.hid (RX.out.ext hb); replace HU := Lib.hid (HU.out.ext hb); replace HB := Lib.hid (below_ext HB.out hb); clear hb; clear T0; have T1 := Lib.hid (Nat.le_refl 1)))
   | (have _g := T1.out; refine wpList_load_cs (by rfl) 41 (.tmp 2) rfl w.heap.size (x.cells s) rfl 41 _ HI.out Tryz.underlying41 rfl (by kernel_rfl) ?_; clear T1; have T2 := Lib.hid (Nat.le_refl 2))
   | (have _g := T2.out; go_at_call 12; refine (few49 RX.out Hi.out Hf.out).mono ?_; go_loud (rintro e w2 ⟨rfl, hb⟩; replace HI := Lib.hid (HI.out.ext hb); replace RX := Lib.hid (RX.out.ext hb); replace HU := Lib.hid (HU.out.ext hb); replace HB := Lib.hid (below_ext HB.out hb); clear hb; clear T2; have T3 := Lib.hid (Nat.le_refl 3))))
    go_upto_region 6 with (first
   | (have _g := T3.out; refine wpList_load_cs (by rfl) 41 (.tmp 2) rfl w.heap.size (x.cells s) rfl 41 _ HI.out Tryz.underlying41 rfl (by kernel_rfl) ?_; clear T3; have T4 := Lib.hid (Nat.le_refl 4))
   | (have _g := T4.out; go_at_call 14; refine (enc_yes RX.out Hi.out HF.out.sz Hk.out).mono ?_; go_loud (rintro e w3 ⟨ou, cu, rfl, hu, hb⟩; replace HI := Lib.hid (HI.out.ext hb); replace RX := Lib.hid (RX.out.ext hb); replace HU := Lib.hid (HU.out.ext hb); replace HB := Lib.hid (below_ext HB.out hb); have U1 := Lib.hid hu; clear hu; clear hb; clear T4; have T5 := Lib.hid (Nat.le_refl 5))))
    go_upto_region 9 with (first
   | (have _g := T5.out; refine wpList_load_cs (by rfl) 41 (.tmp 2) rfl w.heap.size (x.cells s) rfl 41 _ HI.out Tryz.underlying41 rfl (by kernel_rfl) ?_; clear T5; have T6 := Lib.hid (Nat.le_refl 6))
   | (have _g := T6.out; go_at_call 13; refine (chk_ok RX.out Hi.out Hk.out).mono ?_; go_loud (rintro e w4 ⟨rfl, hb⟩; replace HI := Lib.hid (HI.out.ext hb); replace RX := Lib.hid (RX.out.ext hb); replace HU := Lib.hid (HU.out.ext hb); replace U1 := Lib.hid (U1.out.ext hb); replace HB := Lib.hid (below_ext HB.out hb); clear hb; clear T6; have T7 := Lib.hid (Nat.le_refl 7))))
    go_upto_region 10 with (first
   | (have _g := T7.out; go_at_call 21; refine (decode49_enc _ Hi.out (InpL.of HF.out.sz) HF.out.sz Hk.out _ _ U1.out).mono ?_; go_loud (rintro e w5 ⟨sx, rfl, hI, hb⟩; replace HI := Lib.hid (HI.out.ext hb); replace RX := Lib.hid (RX.out.ext hb); replace HU := Lib.hid (HU.out.ext hb); replace U1 := Lib.hid (U1.out.ext hb); replace HB := Lib.hid (below_ext HB.out hb); have R1 := Lib.hid hI; clear hI; have HZ : Hid (CB (w5.alloc ZI) w5.heap.size 41 ZIc) := Lib.hid (cb_one w5 ZI _ _ rfl); clear hb; clear T7; have T8 := Lib.hid (Nat.le_refl 8)))
   | (have _g := T8.out; have _h := HZ.out; refine wpList_store_cs rfl 41 (.tmp 7) (.tmp 46) rfl w5.heap.size (x.cells sx) rfl rfl 41 ZIc HZ.out rfl (by kernel_rfl) (inpR_one R1.out) (fun w6 HC HG HS_ => ?_); have hbs : Below w5.heap.size w5 w6 := (b_al (w := w5) ZI).grown HG.out (b_al (w := w5) ZI).size (fun q e => by injection e with e; omega); replace HI := Lib.hid (HI.out.ext hbs); replace RX := Lib.hid (RX.out.ext hbs); replace HU := Lib.hid (HU.out.ext hbs); replace U1 := Lib.hid (U1.out.ext hbs); replace R1 := Lib.hid (R1.out.ext hbs); replace HB := Lib.hid (below_ext HB.out hbs); have B1 := HC; clear hbs HC HG HS_ HZ _h; clear T8; have T9 := Lib.hid (Nat.le_refl 9)))
    go_upto_region 12 with (first
   | (have _g := T9.out; refine wpList_load_cs (by rfl) 41 (.tmp 2) rfl w.heap.size (x.cells s) rfl 41 _ HI.out Tryz.underlying41 rfl (by kernel_rfl) ?_; clear T9; have T10 := Lib.hid (Nat.le_refl 10))
   | (have _g := T10.out; refine wpList_load_cs (by rfl) 41 (.tmp 7) rfl w5.heap.size (x.cells sx) rfl 41 _ B1.out Tryz.underlying41 rfl (by kernel_rfl) ?_; clear T10; have T11 := Lib.hid (Nat.le_refl 11))
   | (have _g := T11.out; go_at_call 18; refine (rsam_eq RX.out R1.out true (decide_eq_true rfl)).mono ?_; go_loud (rintro e w7 ⟨rfl, hb⟩; replace HI := Lib.hid (HI.out.ext hb); replace RX := Lib.hid (RX.out.ext hb); replace HU := Lib.hid (HU.out.ext hb); replace U1 := Lib.hid (U1.out.ext hb); replace R1 := Lib.hid (R1.out.ext hb); replace B1 := Lib.hid (B1.out.ext hb); replace HB := Lib.hid (below_ext HB.out hb); clear hb; clear T11; have T12 := Lib.hid (Nat.le_refl 12))))
    go_upto_region 13 with (first
   | (have _g := T12.out; go_at_call 21; refine (dec49 H3.out Hd.out _ _ HU.out).mono ?_; go_loud (rintro e w8 ⟨sy, rfl, hI, hb⟩; replace HI := Lib.hid (HI.out.ext hb); replace RX := Lib.hid (RX.out.ext hb); replace HU := Lib.hid (HU.out.ext hb); replace U1 := Lib.hid (U1.out.ext hb); replace R1 := Lib.hid (R1.out.ext hb); replace B1 := Lib.hid (B1.out.ext hb); replace HB := Lib.hid (below_ext HB.out hb); have R2 := Lib.hid hI; clear hI; have HZ : Hid (CB (w8.alloc ZI) w8.heap.size 41 ZIc) := Lib.hid (cb_one w8 ZI _ _ rfl); clear hb; clear T12; have T13 := Lib.hid (Nat.le_refl 13)))
   | (have _g := T13.out; have _h := HZ.out; refine wpList_store_cs rfl 41 (.tmp 9) (.tmp 59) rfl w8.heap.size (y.cells sy) rfl rfl 41 ZIc HZ.out rfl (by kernel_rfl) (inpR_one R2.out) (fun w9 HC HG HS_ => ?_); have hbs : Below w8.heap.size w8 w9 := (b_al (w := w8) ZI).grown HG.out (b_al (w := w8) ZI).size (fun q e => by injection e with e; omega); replace HI := Lib.hid (HI.out.ext hbs); replace RX := Lib.hid (RX.out.ext hbs); replace HU := Lib.hid (HU.out.ext hbs); replace U1 := Lib.hid (U1.out.ext hbs); replace R1 := Lib.hid (R1.out.ext hbs); replace B1 := Lib.hid (B1.out.ext hbs); replace R2 := Lib.hid (R2.out.ext hbs); replace HB := Lib.hid (below_ext HB.out hbs); have B2 := HC; clear hbs HC HG HS_ HZ _h; clear T13; have T14 := Lib.hid (Nat.le_refl 14)))
    go_upto_region 16 with (first
   | (have _g := T14.out; refine wpList_load_cs (by rfl) 41 (.tmp 9) rfl w8.heap.size (y.cells sy) rfl 41 _ B2.out Tryz.underlying41 rfl (by kernel_rfl) ?_; clear T14; have T15 := Lib.hid (Nat.le_refl 15))
   | (have _g := T15.out; go_at_call 14; refine (enc_yes R2.out HyI.out Hyz.out Hyk.out).mono ?_; go_loud (rintro e wa ⟨ov, cv, rfl, hu, hb⟩; replace HI := Lib.hid (HI.out.ext hb); replace RX := Lib.hid (RX.out.ext hb); replace HU := Lib.hid (HU.out.ext hb); replace U1 := Lib.hid (U1.out.ext hb); replace R1 := Lib.hid (R1.out.ext hb); replace B1 := Lib.hid (B1.out.ext hb); replace R2 := Lib.hid (R2.out.ext hb); replace B2 := Lib.hid (B2.out.ext hb); replace HB := Lib.hid (below_ext HB.out hb); have U3 := Lib.hid hu; clear hu; clear hb; clear T15; have T16 := Lib.hid (Nat.le_refl 16))))
    go_wp2_with (first
   | (have _g := T16.out; refine wpList_load_cs (by rfl) 41 (.tmp 9) rfl w8.heap.size (y.cells sy) rfl 41 _ B2.out Tryz.underlying41 rfl (by kernel_rfl) ?_; clear T16; have T17 := Lib.hid (Nat.le_refl 17))
   | (have _g := T17.out; go_at_call 13; refine (chk_ok R2.out HyI.out Hyk.out).mono ?_; go_loud (rintro e wb ⟨rfl, hb⟩; replace HI := Lib.hid (HI.out.ext hb); replace RX := Lib.hid (RX.out.ext hb); replace HU := Lib.hid (HU.out.ext hb); replace U1 := Lib.hid (U1.out.ext hb); replace R1 := Lib.hid (R1.out.ext hb); replace B1 := Lib.hid (B1.out.ext hb); replace R2 := Lib.hid (R2.out.ext hb); replace B2 := Lib.hid (B2.out.ext hb); replace U3 := Lib.hid (U3.out.ext hb); replace HB := Lib.hid (below_ext HB.out hb); have k1 := conv_bts U3.out; have k2 := conv_bts HU.out; clear hb; clear T17; have T18 := Lib.hid (Nat.le_refl 18))))
    go_ret
    exact ⟨rfl, HB.out⟩
  case inr.inl =>
   have T0 := Lib.hid (Nat.le_refl 0)
   have Hd := Lib.hid hd; clear hd
   cases hk : okI x with
   | false =>
    have T0 := Lib.hid (Nat.le_refl 0)
    have Hk := Lib.hid hk; clear hk
    go_upto_region 5 with (first
   | (have _g := T0.out; go_at_call 11; refine (sane49_any _ (HL.out.ext HB.out)).mono ?_; go_loud (rintro e w1 ⟨rfl, hb⟩; replace HI := Lib.hid (HI.out.ext hb); replace RX := Lib.hid (RX.out.ext hb); replace HU := Lib.hid (HU.out.ext hb); replace HB := Lib.hid (below_ext HB.out hb); clear hb; clear T0; have T1 := Lib.hid (Nat.le_refl 1)))
   | (have _g := T1.out; refine wpList_load_cs (by rfl) 41 (.tmp 2) rfl w.heap.size (x.cells s) rfl 41 _ HI.out Tryz.underlying41 rfl (by kernel_rfl) ?_; clear T1; have T2 := Lib.hid (Nat.le_refl 2))
   | (have _g := T2.out; go_at_call 12; refine (few49 RX.out Hi.out Hf.out).mono ?_; go_loud (rintro e w2 ⟨rfl, hb⟩; replace HI := Lib.hid (HI.out.ext hb); replace RX := Lib.hid (RX.out.ext hb); replace HU := Lib.hid (HU.out.ext hb); replace HB := Lib.hid (below_ext HB.out hb); clear hb; clear T2; have T3 := Lib.hid (Nat.le_refl 3))))
    go_upto_region 6 with (first
   | (have _g := T3.out; refine wpList_load_cs (by rfl) 41 (.tmp 2) rfl w.heap.size (x.cells s) rfl 41 _ HI.out Tryz.underlying41 rfl (by kernel_rfl) ?_; clear T3; have T4 := Lib.hid (Nat.le_refl 4))
   | (have _g := T4.out; go_at_call 14; refine (enc_no RX.out Hi.out HF.out.sz Hk.out).mono ?_; go_loud (rintro e w3 ⟨ou, cu, rfl, hu, hb⟩; replace HI := Lib.hid (HI.out.ext hb); replace RX := Lib.hid (RX.out.ext hb); replace HU := Lib.hid (HU.out.ext hb); replace HB := Lib.hid (below_ext HB.out hb); have U1 := Lib.hid hu; clear hu; clear hb; clear T4; have T5 := Lib.hid (Nat.le_refl 5))))
    go_upto_region 12 with (first
   | (have _g := T5.out; refine wpList_load_cs (by rfl) 41 (.tmp 2) rfl w.heap.size (x.cells s) rfl 41 _ HI.out Tryz.underlying41 rfl (by kernel_rfl) ?_; clear T5; have T6 := Lib.hid (Nat.le_refl 6))
   | (have _g := T6.out; go_at_call 13; refine (chk_no RX.out Hi.out Hk.out).mono ?_; go_loud (rintro e w4 ⟨rfl, hb⟩; replace HI := Lib.hid (HI.out.ext hb); replace RX := Lib.hid (RX.out.ext hb); replace HU := Lib.hid (HU.out.ext hb); replace U1 := Lib.hid (U1.out.ext hb); replace HB := Lib.hid (below_ext HB.out hb); clear hb; clear T6; have T7 := Lib.hid (Nat.le_refl 7))))
    go_upto_region 13 with (first
   | (have _g := T7.out; go_at_call 21; refine (dec49 H3.out Hd.out _ _ HU.out).mono ?_; go_loud (rintro e w8 ⟨sy, rfl, hI, hb⟩; replace HI := Lib.hid (HI.out.ext hb); replace RX := Lib.hid (RX.out.ext hb); replace HU := Lib.hid (HU.out.ext hb); replace U1 := Lib.hid (U1.out.ext hb); replace HB := Lib.hid (below_ext HB.out hb); have R2 := Lib.hid hI; clear hI; have HZ : Hid (CB (w8.alloc ZI) w8.heap.size 41 ZIc) := Lib.hid (cb_one w8 ZI _ _ rfl); clear hb; clear T7; have T8 := Lib.hid (Nat.le_refl 8)))
   | (have _g := T8.out; have _h := HZ.out; refine wpList_store_cs rfl 41 (.tmp 9) (.tmp 59) rfl w8.heap.size (zP.cells sy) rfl rfl 41 ZIc HZ.out rfl (by kernel_rfl) (inpR_one R2.out) (fun w9 HC HG HS_ => ?_); have hbs : Below w8.heap.size w8 w9 := (b_al (w := w8) ZI).grown HG.out (b_al (w := w8) ZI).size (fun q e => by injection e with e; omega); replace HI := Lib.hid (HI.out.ext hbs); replace RX := Lib.hid (RX.out.ext hbs); replace HU := Lib.hid (HU.out.ext hbs); replace U1 := Lib.hid (U1.out.ext hbs); replace R2 := Lib.hid (R2.out.ext hbs); replace HB := Lib.hid (below_ext HB.out hbs); have B2 := HC; clear hbs HC HG HS_ HZ _h; clear T8; have T9 := Lib.hid (Nat.le_refl 9)))
    go_wp2_with (first
   | (have _g := T9.out; refine wpList_load_cs (by rfl) 41 (.tmp 9) rfl w8.heap.size (zP.cells sy) rfl 41 _ B2.out Tryz.underlying41 rfl (by kernel_rfl) ?_; clear T9; have T10 := Lib.hid (Nat.le_refl 10))
   | (have _g := T10.out; refine wpList_built (by rfl) 41 #[] rfl (zP.cells nilS) [] rfl (by kernel_rfl) ?_; clear T10; have T11 := Lib.hid (Nat.le_refl 11))
   | (have _g := T11.out; go_at_call 18; refine (rsam_eq R2.out (zP_rd _) true (decide_eq_true rfl)).mono ?_; go_loud (rintro e wa ⟨rfl, hb⟩; replace HI := Lib.hid (HI.out.ext hb); replace RX := Lib.hid (RX.out.ext hb); replace HU := Lib.hid (HU.out.ext hb); replace U1 := Lib.hid (U1.out.ext hb); replace R2 := Lib.hid (R2.out.ext hb); replace B2 := Lib.hid (B2.out.ext hb); replace HB := Lib.hid (below_ext HB.out hb); clear hb; clear T11; have T12 := Lib.hid (Nat.le_refl 12))))
    go_ret
    exact ⟨rfl, HB.out⟩
   | true =>
    have T0 := Lib.hid (Nat.le_refl 0)
    have Hk := Lib.hid hk; clear hk
    go_upto_region 5 with (first
   | (have _g := T0.out; go_at_call 11; refine (sane49_any _ (HL.out.ext HB.out)).mono ?_; go_loud (rintro e w1 ⟨rfl, hb⟩; replace HI := Lib.hid (HI.out.ext hb); replace RX := Lib.hid (RX.out.ext hb); replace HU := Lib.hid (HU.out.ext hb); replace HB := Lib.hid (below_ext HB.out hb); clear hb; clear T0; have T1 := Lib.hid (Nat.le_refl 1)))
   | (have _g := T1.out; refine wpList_load_cs (by rfl) 41 (.tmp 2) rfl w.heap.size (x.cells s) rfl 41 _ HI.out Tryz.underlying41 rfl (by kernel_rfl) ?_; clear T1; have T2 := Lib.hid (Nat.le_refl 2))
   | (have _g := T2.out; go_at_call 12; refine (few49 RX.out Hi.out Hf.out).mono ?_; go_loud (rintro e w2 ⟨rfl, hb⟩; replace HI := Lib.hid (HI.out.ext hb); replace RX := Lib.hid (RX.out.ext hb); replace HU := Lib.hid (HU.out.ext hb); replace HB := Lib.hid (below_ext HB.out hb); clear hb; clear T2; have T3 := Lib.hid (Nat.le_refl 3))))
    go_upto_region 6 with (first
   | (have _g := T3.out; refine wpList_load_cs (by rfl) 41 (.tmp 2) rfl w.heap.size (x.cells s) rfl 41 _ HI.out Tryz.underlying41 rfl (by kernel_rfl) ?_; clear T3; have T4 := Lib.hid (Nat.le_refl 4))
   | (have _g := T4.out; go_at_call 14; refine (enc_yes RX.out Hi.out HF.out.sz Hk.out).mono ?_; go_loud (rintro e w3 ⟨ou, cu, rfl, hu, hb⟩; replace HI := Lib.hid (HI.out.ext hb); replace RX := Lib.hid (RX.out.ext hb); replace HU := Lib.hid (HU.out.ext hb); replace HB := Lib.hid (below_ext HB.out hb); have U1 := Lib.hid hu; clear hu; clear hb; clear T4; have T5 := Lib.hid (Nat.le_refl 5))))
    go_upto_region 9 with (first
   | (have _g := T5.out; refine wpList_load_cs (by rfl) 41 (.tmp 2) rfl w.heap.size (x.cells s) rfl 41 _ HI.out Tryz.underlying41 rfl (by kernel_rfl) ?_; clear T5; have T6 := Lib.hid (Nat.le_refl 6))
   | (have _g := T6.out; go_at_call 13; refine (chk_ok RX.out Hi.out Hk.out).mono ?_; go_loud (rintro e w4 ⟨rfl, hb⟩; replace HI := Lib.hid (HI.out.ext hb); replace RX := Lib.hid (RX.out.ext hb); replace HU := Lib.hid (HU.out.ext hb); replace U1 := Lib.hid (U1.out.ext hb); replace HB := Lib.hid (below_ext HB.out hb); clear hb; clear T6; have T7 := Lib.hid (Nat.le_refl 7))))
    go_upto_region 10 with (first
   | (have _g := T7.out; go_at_call 21; refine (decode49_enc _ Hi.out (InpL.of HF.out.sz) HF.out.sz Hk.out _ _ U1.out).mono ?_; go_loud (rintro e w5 ⟨sx, rfl, hI, hb⟩; replace HI := Lib.hid (HI.out.ext hb); replace RX := Lib.hid (RX.out.ext hb); replace HU := Lib.hid (HU.out.ext hb); replace U1 := Lib.hid (U1.out.ext hb); replace HB := Lib.hid (below_ext HB.out hb); have R1 := Lib.hid hI; clear hI; have HZ : Hid (CB (w5.alloc ZI) w5.heap.size 41 ZIc) := Lib.hid (cb_one w5 ZI _ _ rfl); clear hb; clear T7; have T8 := Lib.hid (Nat.le_refl 8)))
   | (have _g := T8.out; have _h := HZ.out; refine wpList_store_cs rfl 41 (.tmp 7) (.tmp 46) rfl w5.heap.size (x.cells sx) rfl rfl 41 ZIc HZ.out rfl (by kernel_rfl) (inpR_one R1.out) (fun w6 HC HG HS_ => ?_); have hbs : Below w5.heap.size w5 w6 := (b_al (w := w5) ZI).grown HG.out (b_al (w := w5) ZI).size (fun q e => by injection e with e; omega); replace HI := Lib.hid (HI.out.ext hbs); replace RX := Lib.hid (RX.out.ext hbs); replace HU := Lib.hid (HU.out.ext hbs); replace U1 := Lib.hid (U1.out.ext hbs); replace R1 := Lib.hid (R1.out.ext hbs); replace HB := Lib.hid (below_ext HB.out hbs); have B1 := HC; clear hbs HC HG HS_ HZ _h; clear T8; have T9 := Lib.hid (Nat.le_refl 9)))
    go_upto_region 12 with (first
   | (have _g := T9.out; refine wpList_load_cs (by rfl) 41 (.tmp 2) rfl w.heap.size (x.cells s) rfl 41 _ HI.out Tryz.underlying41 rfl (by kernel_rfl) ?_; clear T9; have T10 := Lib.hid (Nat.le_refl 10))
   | (have _g := T10.out; refine wpList_load_cs (by rfl) 41 (.tmp 7) rfl w5.heap.size (x.cells sx) rfl 41 _ B1.out Tryz.underlying41 rfl (by kernel_rfl) ?_; clear T10; have T11 := Lib.hid (Nat.le_refl 11))
   | (have _g := T11.out; go_at_call 18; refine (rsam_eq RX.out R1.out true (decide_eq_true rfl)).mono ?_; go_loud (rintro e w7 ⟨rfl, hb⟩; replace HI := Lib.hid (HI.out.ext hb); replace RX := Lib.hid (RX.out.ext hb); replace HU := Lib.hid (HU.out.ext hb); replace U1 := Lib.hid (U1.out.ext hb); replace R1 := Lib.hid (R1.out.ext hb); replace B1 := Lib.hid (B1.out.ext hb); replace HB := Lib.hid (below_ext HB.out hb); clear hb; clear T11; have T12 := Lib.hid (Nat.le_refl 12))))
    go_upto_region 13 with (first
   | (have _g := T12.out; go_at_call 21; refine (dec49 H3.out Hd.out _ _ HU.out).mono ?_; go_loud (rintro e w8 ⟨sy, rfl, hI, hb⟩; replace HI := Lib.hid (HI.out.ext hb); replace RX := Lib.hid (RX.out.ext hb); replace HU := Lib.hid (HU.out.ext hb); replace U1 := Lib.hid (U1.out.ext hb); replace R1 := Lib.hid (R1.out.ext hb); replace B1 := Lib.hid (B1.out.ext hb); replace HB := Lib.hid (below_ext HB.out hb); have R2 := Lib.hid hI; clear hI; have HZ : Hid (CB (w8.alloc ZI) w8.heap.size 41 ZIc) := Lib.hid (cb_one w8 ZI _ _ rfl); clear hb; clear T12; have T13 := Lib.hid (Nat.le_refl 13)))
   | (have _g := T13.out; have _h := HZ.out; refine wpList_store_cs rfl 41 (.tmp 9) (.tmp 59) rfl w8.heap.size (zP.cells sy) rfl rfl 41 ZIc HZ.out rfl (by kernel_rfl) (inpR_one R2.out) (fun w9 HC HG HS_ => ?_); have hbs : Below w8.heap.size w8 w9 := (b_al (w := w8) ZI).grown HG.out (b_al (w := w8) ZI).size (fun q e => by injection e with e; omega); replace HI := Lib.hid (HI.out.ext hbs); replace RX := Lib.hid (RX.out.ext hbs); replace HU := Lib.hid (HU.out.ext hbs); replace U1 := Lib.hid (U1.out.ext hbs); replace R1 := Lib.hid (R1.out.ext hbs); replace B1 := Lib.hid (B1.out.ext hbs); replace R2 := Lib.hid (R2.out.ext hbs); replace HB := Lib.hid (below_ext HB.out hbs); have B2 := HC; clear hbs HC HG HS_ HZ _h; clear T13; have T14 := Lib.hid (Nat.le_refl 14)))
    go_wp2_with (first
   | (have _g := T14.out; refine wpList_load_cs (by rfl) 41 (.tmp 9) rfl w8.heap.size (zP.cells sy) rfl 41 _ B2.out Tryz.underlying41 rfl (by kernel_rfl) ?_; clear T14; have T15 := Lib.hid (Nat.le_refl 15))
   | (have _g := T15.out; refine wpList_built (by rfl) 41 #[] rfl (zP.cells nilS) [] rfl (by kernel_rfl) ?_; clear T15; have T16 := Lib.hid (Nat.le_refl 16))
   | (have _g := T16.out; go_at_call 18; refine (rsam_eq R2.out (zP_rd _) true (decide_eq_true rfl)).mono ?_; go_loud (rintro e wa ⟨rfl, hb⟩; replace HI := Lib.hid (HI.out.ext hb); replace RX := Lib.hid (RX.out.ext hb); replace HU := Lib.hid (HU.out.ext hb); replace U1 := Lib.hid (U1.out.ext hb); replace R1 := Lib.hid (R1.out.ext hb); replace B1 := Lib.hid (B1.out.ext hb); replace R2 := Lib.hid (R2.out.ext hb); replace B2 := Lib.hid (B2.out.ext hb); replace HB := Lib.hid (below_ext HB.out hb); clear hb; clear T16; have T17 := Lib.hid (Nat.le_refl 17))))
    go_ret
    exact ⟨rfl, HB.out⟩
  case inr.inr =>
   have T0 := Lib.hid (Nat.le_refl 0)
   have Hd := Lib.hid hd; clear hd
   cases hk : okI x with
   | false =>
    have T0 := Lib.hid (Nat.le_refl 0)
    have Hk := Lib.hid hk; clear hk
    go_upto_region 5 with (first
   | (have _g := T0.out; go_at_call 11; refine (sane49_any _ (HL.out.ext HB.out)).mono ?_; go_loud (rintro e w1 ⟨rfl, hb⟩; replace HI := Lib.hid (HI.out.ext hb); replace RX := Lib.hid (RX.out.ext hb); replace HU := Lib.hid (HU.out.ext hb); replace HB := Lib.hid (below_ext HB.out hb); clear hb; clear T0; have T1 := Lib.hid (Nat.le_refl 1)))
   | (have _g := T1.out; refine wpList_load_cs (by rfl) 41 (.tmp 2) rfl w.heap.size (x.cells s) rfl 41 _ HI.out Tryz.underlying41 rfl (by kernel_rfl) ?_; clear T1; have T2 := Lib.hid (Nat.le_refl 2))
   | (have _g := T2.out; go_at_call 12; refine (few49 RX.out Hi.out Hf.out).mono ?_; go_loud (rintro e w2 ⟨rfl, hb⟩; replace HI := Lib.hid (HI.out.ext hb); replace RX := Lib.hid (RX.out.ext hb); replace HU := Lib.hid (HU.out.ext hb); replace HB := Lib.hid (below_ext HB.out hb); clear hb; clear T2; have T3 := Lib.hid (Nat.le_refl 3))))
    go_upto_region 6 with (first
   | (have _g := T3.out; refine wpList_load_cs (by rfl) 41 (.tmp 2) rfl w.heap.size (x.cells s) rfl 41 _ HI.out Tryz.underlying41 rfl (by kernel_rfl) ?_; clear T3; have T4 := Lib.hid (Nat.le_refl 4))
   | (have _g := T4.out; go_at_call 14; refine (enc_no RX.out Hi.out HF.out.sz Hk.out).mono ?_; go_loud (rintro e w3 ⟨ou, cu, rfl, hu, hb⟩; replace HI := Lib.hid (HI.out.ext hb); replace RX := Lib.hid (RX.out.ext hb); replace HU := Lib.hid (HU.out.ext hb); replace HB := Lib.hid (below_ext HB.out hb); have U1 := Lib.hid hu; clear hu; clear hb; clear T4; have T5 := Lib.hid (Nat.le_refl 5))))
    go_upto_region 12 with (first
   | (have _g := T5.out; refine wpList_load_cs (by rfl) 41 (.tmp 2) rfl w.heap.size (x.cells s) rfl 41 _ HI.out Tryz.underlying41 rfl (by kernel_rfl) ?_; clear T5; have T6 := Lib.hid (Nat.le_refl 6))
   | (have _g := T6.out; go_at_call 13; refine (chk_no RX.out Hi.out Hk.out).mono ?_; go_loud (rintro e w4 ⟨rfl, hb⟩; replace HI := Lib.hid (HI.out.ext hb); replace RX := Lib.hid (RX.out.ext hb); replace HU := Lib.hid (HU.out.ext hb); replace U1 := Lib.hid (U1.out.ext hb); replace HB := Lib.hid (below_ext HB.out hb); clear hb; clear T6; have T7 := Lib.hid (Nat.le_refl 7))))
    go_upto_region 13 with (first
   | (have _g := T7.out; go_at_call 21; refine (dec49 H3.out Hd.out _ _ HU.out).mono ?_; go_loud (rintro e w8 ⟨sy, rfl, hI, hb⟩; replace HI := Lib.hid (HI.out.ext hb); replace RX := Lib.hid (RX.out.ext hb); replace HU := Lib.hid (HU.out.ext hb); replace U1 := Lib.hid (U1.out.ext hb); replace HB := Lib.hid (below_ext HB.out hb); have R2 := Lib.hid hI; clear hI; have HZ : Hid (CB (w8.alloc ZI) w8.heap.size 41 ZIc) := Lib.hid (cb_one w8 ZI _ _ rfl); clear hb; clear T7; have T8 := Lib.hid (Nat.le_refl 8)))
   | (have _g := T8.out; have _h := HZ.out; refine wpList_store_cs rfl 41 (.tmp 9) (.tmp 59) rfl w8.heap.size (zP.cells sy) rfl rfl 41 ZIc HZ.out rfl (by kernel_rfl) (inpR_one R2.out) (fun w9 HC HG HS_ => ?_); have hbs : Below w8.heap.size w8 w9 := (b_al (w := w8) ZI).grown HG.out (b_al (w := w8) ZI).size (fun q e => by injection e with e; omega); replace HI := Lib.hid (HI.out.ext hbs); replace RX := Lib.hid (RX.out.ext hbs); replace HU := Lib.hid (HU.out.ext hbs); replace U1 := Lib.hid (U1.out.ext hbs); replace R2 := Lib.hid (R2.out.ext hbs); replace HB := Lib.hid (below_ext HB.out hbs); have B2 := HC; clear hbs HC HG HS_ HZ _h; clear T8; have T9 := Lib.hid (Nat.le_refl 9)))
    go_wp2_with (first
   | (have _g := T9.out; refine wpList_load_cs (by rfl) 41 (.tmp 9) rfl w8.heap.size (zP.cells sy) rfl 41 _ B2.out Tryz.underlying41 rfl (by kernel_rfl) ?_; clear T9; have T10 := Lib.hid (Nat.le_refl 10))
   | (have _g := T10.out; refine wpList_built (by rfl) 41 #[] rfl (zP.cells nilS) [] rfl (by kernel_rfl) ?_; clear T10; have T11 := Lib.hid (Nat.le_refl 11))
   | (have _g := T11.out; go_at_call 18; refine (rsam_eq R2.out (zP_rd _) true (decide_eq_true rfl)).mono ?_; go_loud (rintro e wa ⟨rfl, hb⟩; replace HI := Lib.hid (HI.out.ext hb); replace RX := Lib.hid (RX.out.ext hb); replace HU := Lib.hid (HU.out.ext hb); replace U1 := Lib.hid (U1.out.ext hb); replace R2 := Lib.hid (R2.out.ext hb); replace B2 := Lib.hid (B2.out.ext hb); replace HB := Lib.hid (below_ext HB.out hb); clear hb; clear T11; have T12 := Lib.hid (Nat.le_refl 12))))
    go_ret
    exact ⟨rfl, HB.out⟩
   | true =>
    have T0 := Lib.hid (Nat.le_refl 0)
    have Hk := Lib.hid hk; clear hk
    go_upto_region 5 with (first
   | (have _g := T0.out; go_at_call 11; refine (sane49_any _ (HL.out.ext HB.out)).mono ?_; go_loud (rintro e w1 ⟨rfl, hb⟩; replace HI := Lib.hid (HI.out.ext hb); replace RX := Lib.hid (RX.out.ext hb); replace HU := Lib.hid (HU.out.ext hb); replace HB := Lib.hid (below_ext HB.out hb); clear hb; clear T0; have T1 := Lib.hid (Nat.le_refl 1)))
   | (have _g := T1.out; refine wpList_load_cs (by rfl) 41 (.tmp 2) rfl w.heap.size (x.cells s) rfl 41 _ HI.out Tryz.underlying41 rfl (by kernel_rfl) ?_; clear T1; have T2 := Lib.hid (Nat.le_refl 2))
   | (have _g := T2.out; go_at_call 12; refine (few49 RX.out Hi.out Hf.out).mono ?_; go_loud (rintro e w2 ⟨rfl, hb⟩; replace HI := Lib.hid (HI.out.ext hb); replace RX := Lib.hid (RX.out.ext hb); replace HU := Lib.hid (HU.out.ext hb); replace HB := Lib.hid (below_ext HB.out hb); clear hb; clear T2; have T3 := Lib.hid (Nat.le_refl 3))))
    go_upto_region 6 with (first
   | (have _g := T3.out; refine wpList_load_cs (by rfl) 41 (.tmp 2) rfl w.heap.size (x.cells s) rfl 41 _ HI.out Tryz.underlying41 rfl (by kernel_rfl) ?_; clear T3; have T4 := Lib.hid (Nat.le_refl 4))
   | (have _g := T4.out; go_at_call 14; refine (enc_yes RX.out Hi.out HF.out.sz Hk.out).mono ?_; go_loud (rintro e w3 ⟨ou, cu, rfl, hu, hb⟩; replace HI := Lib.hid (HI.out.ext hb); replace RX := Lib.hid (RX.out.ext hb); replace HU := Lib.hid (HU.out.ext hb); replace HB := Lib.hid (below_ext HB.out hb); have U1 := Lib.hid hu; clear hu; clear hb; clear T4; have T5 := Lib.hid (Nat.le_refl 5))))
    go_upto_region 9 with (first
   | (have _g := T5.out; refine wpList_load_cs (by rfl) 41 (.tmp 2) rfl w.heap.size (x.cells s) rfl 41 _ HI.out Tryz.underlying41 rfl (by kernel_rfl) ?_; clear T5; have T6 := Lib.hid (Nat.le_refl 6))
   | (have _g := T6.out; go_at_call 13; refine (chk_ok RX.out Hi.out Hk.out).mono ?_; go_loud (rintro e w4 ⟨rfl, hb⟩; replace HI := Lib.hid (HI.out.ext hb); replace RX := Lib.hid (RX.out.ext hb); replace HU := Lib.hid (HU.out.ext hb); replace U1 := Lib.hid (U1.out.ext hb); replace HB := Lib.hid (below_ext HB.out hb); clear hb; clear T6; have T7 := Lib.hid (Nat.le_refl 7))))
    go_upto_region 10 with (first
   | (have _g := T7.out; go_at_call 21; refine (decode49_enc _ Hi.out (InpL.of HF.out.sz) HF.out.sz Hk.out _ _ U1.out).mono ?_; go_loud (rintro e w5 ⟨sx, rfl, hI, hb⟩; replace HI := Lib.hid (HI.out.ext hb); replace RX := Lib.hid (RX.out.ext hb); replace HU := Lib.hid (HU.out.ext hb); replace U1 := Lib.hid (U1.out.ext hb); replace HB := Lib.hid (below_ext HB.out hb); have R1 := Lib.hid hI; clear hI; have HZ : Hid (CB (w5.alloc ZI) w5.heap.size 41 ZIc) := Lib.hid (cb_one w5 ZI _ _ rfl); clear hb; clear T7; have T8 := Lib.hid (Nat.le_refl 8)))
   | (have _g := T8.out; have _h := HZ.out; refine wpList_store_cs rfl 41 (.tmp 7) (.tmp 46) rfl w5.heap.size (x.cells sx) rfl rfl 41 ZIc HZ.out rfl (by kernel_rfl) (inpR_one R1.out) (fun w6 HC HG HS_ => ?_); have hbs : Below w5.heap.size w5 w6 := (b_al (w := w5) ZI).grown HG.out (b_al (w := w5) ZI).size (fun q e => by injection e with e; omega); replace HI := Lib.hid (HI.out.ext hbs); replace RX := Lib.hid (RX.out.ext hbs); replace HU := Lib.hid (HU.out.ext hbs); replace U1 := Lib.hid (U1.out.ext hbs); replace R1 := Lib.hid (R1.out.ext hbs); replace HB := Lib.hid (below_ext HB.out hbs); have B1 := HC; clear hbs HC HG HS_ HZ _h; clear T8; have T9 := Lib.hid (Nat.le_refl 9)))
    go_upto_region 12 with (first
   | (have _g := T9.out; refine wpList_load_cs (by rfl) 41 (.tmp 2) rfl w.heap.size (x.cells s) rfl 41 _ HI.out Tryz.underlying41 rfl (by kernel_rfl) ?_; clear T9; have T10 := Lib.hid (Nat.le_refl 10))
   | (have _g := T10.out; refine wpList_load_cs (by rfl) 41 (.tmp 7) rfl w5.heap.size (x.cells sx) rfl 41 _ B1.out Tryz.underlying41 rfl (by kernel_rfl) ?_; clear T10; have T11 := Lib.hid (Nat.le_refl 11))
   | (have _g := T11.out; go_at_call 18; refine (rsam_eq RX.out R1.out true (decide_eq_true rfl)).mono ?_; go_loud (rintro e w7 ⟨rfl, hb⟩; replace HI := Lib.hid (HI.out.ext hb); replace RX := Lib.hid (RX.out.ext hb); replace HU := Lib.hid (HU.out.ext hb); replace U1 := Lib.hid (U1.out.ext hb); replace R1 := Lib.hid (R1.out.ext hb); replace B1 := Lib.hid (B1.out.ext hb); replace HB := Lib.hid (below_ext HB.out hb); clear hb; clear T11; have T12 := Lib.hid (Nat.le_refl 12))))
    go_upto_region 13 with (first
   | (have _g := T12.out; go_at_call 21; refine (dec49 H3.out Hd.out _ _ HU.out).mono ?_; go_loud (rintro e w8 ⟨sy, rfl, hI, hb⟩; replace HI := Lib.hid (HI.out.ext hb); replace RX := Lib.hid (RX.out.ext hb); replace HU := Lib.hid (HU.out.ext hb); replace U1 := Lib.hid (U1.out.ext hb); replace R1 := Lib.hid (R1.out.ext hb); replace B1 := Lib.hid (B1.out.ext hb); replace HB := Lib.hid (below_ext HB.out hb); have R2 := Lib.hid hI; clear hI; have HZ : Hid (CB (w8.alloc ZI) w8.heap.size 41 ZIc) := Lib.hid (cb_one w8 ZI _ _ rfl); clear hb; clear T12; have T13 := Lib.hid (Nat.le_refl 13)))
   | (have _g := T13.out; have _h := HZ.out; refine wpList_store_cs rfl 41 (.tmp 9) (.tmp 59) rfl w8.heap.size (zP.cells sy) rfl rfl 41 ZIc HZ.out rfl (by kernel_rfl) (inpR_one R2.out) (fun w9 HC HG HS_ => ?_); have hbs : Below w8.heap.size w8 w9 := (b_al (w := w8) ZI).grown HG.out (b_al (w := w8) ZI).size (fun q e => by injection e with e; omega); replace HI := Lib.hid (HI.out.ext hbs); replace RX := Lib.hid (RX.out.ext hbs); replace HU := Lib.hid (HU.out.ext hbs); replace U1 := Lib.hid (U1.out.ext hbs); replace R1 := Lib.hid (R1.out.ext hbs); replace B1 := Lib.hid (B1.out.ext hbs); replace R2 := Lib.hid (R2.out.ext hbs); replace HB := Lib.hid (below_ext HB.out hbs); have B2 := HC; clear hbs HC HG HS_ HZ _h; clear T13; have T14 := Lib.hid (Nat.le_refl 14)))
    go_wp2_with (first
   | (have _g := T14.out; refine wpList_load_cs (by rfl) 41 (.tmp 9) rfl w8.heap.size (zP.cells sy) rfl 41 _ B2.out Tryz.underlying41 rfl (by kernel_rfl) ?_; clear T14; have T15 := Lib.hid (Nat.le_refl 15))
   | (have _g := T15.out; refine wpList_built (by rfl) 41 #[] rfl (zP.cells nilS) [] rfl (by kernel_rfl) ?_; clear T15; have T16 := Lib.hid (Nat.le_refl 16))
   | (have _g := T16.out; go_at_call 18; refine (rsam_eq R2.out (zP_rd _) true (decide_eq_true rfl)).mono ?_; go_loud (rintro e wa ⟨rfl, hb⟩; replace HI := Lib.hid (HI.out.ext hb); replace RX := Lib.hid (RX.out.ext hb); replace HU := Lib.hid (HU.out.ext hb); replace U1 := Lib.hid (U1.out.ext hb); replace R1 := Lib.hid (R1.out.ext hb); replace B1 := Lib.hid (B1.out.ext hb); replace R2 := Lib.hid (R2.out.ext hb); replace B2 := Lib.hid (B2.out.ext hb); replace HB := Lib.hid (below_ext HB.out hb); clear hb; clear T16; have T17 := Lib.hid (Nat.le_refl 17))))
    go_ret
    exact ⟨rfl, HB.out⟩
end Go.Proofs.YtdblnbnofjggnaaGreatDoor
