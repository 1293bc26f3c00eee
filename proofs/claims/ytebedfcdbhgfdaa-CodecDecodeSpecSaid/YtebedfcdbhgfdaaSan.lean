/- the law's own sane: the chapter's examples. -/
import Derived.Test.YtebedfcdbhgfdaaDee
import Derived.Test.YtebedfcdbhgfdaaReco
import Derived.Test.YtebedfcdbhgfdaaSam
import Derived.Test.YtebedfcdbhgfdaaCnt
import Derived.Lib.ConvBytes
namespace Go.Proofs.Ytebedfcdbhgfdaa
open Go.RowKit

def vA : V := .mk 1 (-3) ⟨#[]⟩ []
def vI : V := .mk 1 100 ⟨#[]⟩ []
def vT : V := .mk 2 0 ⟨#[97, 98]⟩ []
def vL : V := .mk 3 0 ⟨#[]⟩ [vI, vT]
def vE : V := .mk 2 0 ⟨#[]⟩ []
def vN : V := .mk 3 0 ⟨#[]⟩ []

theorem ck_vA : ck vA = 0 := by decide +kernel
theorem ck_vL : ck vL = 0 := by decide +kernel
theorem enc_vA : enc vA = [1, 5] := by decide +kernel
theorem enc_vL : enc vL = [3, 2, 1, 200, 1, 2, 2, 97, 98] := by decide +kernel
theorem dec_vL : decF [3, 2, 1, 200, 1, 2, 2, 97, 98] = some vL := by kernel_rfl
theorem same_vL : sm vL vL = true := by decide +kernel
theorem same_vEN : sm vE vN = false := by decide +kernel
theorem dec_bad1 : decF [] = none := by rfl
theorem dec_bad2 : decF [1, 128, 0] = none := by rfl
theorem dec_bad3 : decF [1, 5, 0] = none := by rfl
theorem dec_bad4 : decF [2, 3, 97] = none := by rfl

theorem grown_below {w w' : World} (h : w.grownBy w' none) : Below w.heap.size w w' := ⟨h.os, h.tape, h.output, h.size, fun k hk => h.block k hk (by simp)⟩
/-- Decode, for whoever reads on -/
def DecRd (o : Option V) (w : World) (e : Ending) (w' : World) : Prop :=
  match o with
  | some x => ∃ oa cap, e = .returned (.tuple #[.agg #[.int .i64 x.kind, .int .i64 x.n, .string x.s, .slice oa x.l.length cap], .int .i64 0]) ∧ RdV w'.heap.size w' x (.agg #[.int .i64 x.kind, .int .i64 x.n, .string x.s, .slice oa x.l.length cap]) ∧ Below w.heap.size w w'
  | none => e = .returned (.tuple #[.agg #[.int .i64 0, .int .i64 0, .string ⟨#[]⟩, .slice none 0 0], .int .i64 10]) ∧ Below w.heap.size w w'
theorem decode_rd (l : List UInt8) (hl : l.length ≤ 1000000) (v : Value) (w : World) (hb : BtsAt w.heap.size w l v) : Calls Try.prog 18 #[v] w (DecRd (decF l) w) := by
  refine (decode_any w.heap.size l hl v w hb (Nat.le_refl _)).mono ?_
  intro e w' h
  cases ho : decF l with
  | none => rw [ho] at h; exact ⟨h.1, grown_below h.2⟩
  | some x =>
    rw [ho] at h
    obtain ⟨v, rfl, hv, hg⟩ := h
    have hr : RdV w'.heap.size w' x v := hv.rd (B := w'.heap.size) fun k hk => hk.2
    obtain ⟨oa, cap, rfl, _⟩ := hr.form
    exact ⟨oa, cap, rfl, hr, grown_below hg⟩
theorem cell_ext {w w' : World} (hb : Below w.heap.size w w') {p : Addr} {v : Value} (h : w.cell? p = some v) : w'.cell? p = some v := (hb.cell (World.block_lt_of_cell? w p h)).trans h
theorem box_ext {w w' : World} {a b c d : Value} {t : TypeId} (h : Below (w.alloc (.cells #[a, b, c, d] t)).heap.size (w.alloc (.cells #[a, b, c, d] t)) w') :
    w'.cell? ⟨w.heap.size, 0, none⟩ = some a ∧ w'.cell? ⟨w.heap.size, 1, none⟩ = some b ∧ w'.cell? ⟨w.heap.size, 2, none⟩ = some c ∧ w'.cell? ⟨w.heap.size, 3, none⟩ = some d := box_cells (to_box h)
/-- a value by its four parts -/
theorem RdV.mk4 {B : Nat} {w : World} {x : V} {lv : Value} (h1 : I64 x.kind) (h2 : I64 x.n) (h3 : x.s.size ≤ maxLen) (hl : SlV B w x.l lv) : RdV B w x (.agg #[.int .i64 x.kind, .int .i64 x.n, .string x.s, lv]) := ⟨h1, h2, h3, lv, rfl, hl⟩
theorem slV_nil (B : Nat) (w : World) : SlV B w [] (.slice none 0 0) := .inl ⟨rfl, none, 0, rfl⟩
theorem rd_vA (B : Nat) (w : World) : RdV B w vA (.agg #[.int .i64 1, .int .i64 (-3), .string ⟨#[]⟩, .slice none 0 0]) := ⟨by simp [vA, V.kind, I64], by simp [vA, V.n, I64], Nat.zero_le _, _, rfl, slV_nil B w⟩

theorem sl_vL (w4 w5 : World) (t : TypeId) (h5 : Below (w4.alloc (.cells #[.int .i64 1, .int .i64 100, .string ⟨#[]⟩, .slice none 0 0, .int .i64 2, .int .i64 0, .string ⟨#[97, 98]⟩, .slice none 0 0] t)).heap.size (w4.alloc (.cells #[.int .i64 1, .int .i64 100, .string ⟨#[]⟩, .slice none 0 0, .int .i64 2, .int .i64 0, .string ⟨#[97, 98]⟩, .slice none 0 0] t)) w5) :
    SlV w5.heap.size w5 [vI, vT] (.slice (some ⟨w4.heap.size, 0, none⟩) 2 2) := by
  refine SlV.ext (w := w4.alloc (.cells #[.int .i64 1, .int .i64 100, .string ⟨#[]⟩, .slice none 0 0, .int .i64 2, .int .i64 0, .string ⟨#[97, 98]⟩, .slice none 0 0] t)) ?_ h5
  refine .inr ⟨by simp, w4.heap.size, 0, 2, rfl, by unfold maxLen; decide, ?_⟩
  have h2 : (2 : Nat) ≤ maxLen := by unfold maxLen; decide
  have h3 : (⟨#[]⟩ : ByteArray).size ≤ maxLen := Nat.zero_le _
  have h4 : (⟨#[97, 98]⟩ : ByteArray).size ≤ maxLen := h2
  simp [V.ats, V.at, vI, vT, I64, h3, h4]
theorem rd_vL {w : World} {lv : Value} (h : SlV w.heap.size w [vI, vT] lv) : RdV w.heap.size w vL (.agg #[.int .i64 3, .int .i64 0, .string ⟨#[]⟩, lv]) :=
  ⟨by simp [vL, V.kind, I64], by simp [vL, V.n, I64], Nat.zero_le _, lv, rfl, h⟩

/-- []byte(s): a new block with the bytes -/
theorem run_bytes_of (s : ByteArray) (hs : s.size ≤ 1000000) (w : World) :
    ∃ cap w', (convert 9 27 (.string s)).run Try.prog w = .ok (.slice (some ⟨w.heap.size, 0, none⟩) s.size cap) w' ∧ Below w.heap.size w w' ∧ BtsAt w'.heap.size w' s.data.toList (.slice (some ⟨w.heap.size, 0, none⟩) s.size cap) := by
  refine ⟨_, _, Lib.run_convert_string_bytes w 9 27 5 s Try.underlying9 Try.underlying27 Try.underlying5, ⟨rfl, rfl, rfl, ?_, ?_⟩, ?_⟩
  · rw [Lib.bytesWorld_size]; omega
  · exact fun k hk => Lib.bytesWorld_at_old w _ s k hk
  · have h1 := grownCap_ge w s.size 0 5
    have h2 := grownCap_le_maxLen w s.size 0 5 (by unfold maxLen; omega)
    refine BtsAt.mk' (by simp) (by simpa using h1) h2 (by rw [Lib.bytesWorld_size]; omega) fun j c hj => ?_
    have hjl : j < s.size := by have := (List.getElem?_eq_some_iff.1 hj).1; simpa using this
    rw [Nat.zero_add, Lib.bytesWorld_cell w _ s j hjl]
    simp [List.getD, hj]

def sBad : List ByteArray := [⟨#[]⟩, ⟨#[1, 128, 0]⟩, ⟨#[1, 5, 0]⟩, ⟨#[2, 3, 97]⟩]
structure StrAt (w : World) (S : Nat) : Prop where
  c0 : w.cell? ⟨S, 0, none⟩ = some (.string ⟨#[]⟩)
  c1 : w.cell? ⟨S, 1, none⟩ = some (.string ⟨#[1, 128, 0]⟩)
  c2 : w.cell? ⟨S, 2, none⟩ = some (.string ⟨#[1, 5, 0]⟩)
  c3 : w.cell? ⟨S, 3, none⟩ = some (.string ⟨#[2, 3, 97]⟩)
theorem StrAt.get {w : World} {S : Nat} (h : StrAt w S) (k : Nat) (hk : k < 4) : ∃ s : ByteArray, s.size ≤ 1000000 ∧ w.cell? ⟨S, k, none⟩ = some (.string s) ∧ decF s.data.toList = none := by
  obtain rfl | rfl | rfl | rfl : k = 0 ∨ k = 1 ∨ k = 2 ∨ k = 3 := by omega
  · exact ⟨_, by decide, h.c0, dec_bad1⟩
  · exact ⟨_, by decide, h.c1, dec_bad2⟩
  · exact ⟨_, by decide, h.c2, dec_bad3⟩
  · exact ⟨_, by decide, h.c3, dec_bad4⟩
theorem StrAt.ext {w w' : World} {S : Nat} (h : StrAt w S) (hb : Below w.heap.size w w') : StrAt w' S := ⟨cell_ext hb h.c0, cell_ext hb h.c1, cell_ext hb h.c2, cell_ext hb h.c3⟩
def SaneRel (w0 : World) (S : Nat) (i : Value) (wr : World) : Prop := ∃ k : Nat, k ≤ 4 ∧ i = .int .i64 k ∧ StrAt wr S ∧ Below w0.heap.size w0 wr
theorem rd_vE (B : Nat) (w : World) : RdV B w vE (.agg #[.int .i64 2, .int .i64 0, .string ⟨#[]⟩, .slice none 0 0]) := ⟨by simp [vE, V.kind, I64], by simp [vE, V.n, I64], Nat.zero_le _, _, rfl, slV_nil B w⟩
def vZ : V := .mk 0 0 ⟨#[]⟩ []
theorem ck_vZ : ck vZ = 1 := by decide +kernel
theorem rd_vZ (B : Nat) (w : World) : RdV B w vZ (.agg #[.int .i64 0, .int .i64 0, .string ⟨#[]⟩, .slice none 0 0]) := ⟨by simp [vZ, V.kind, I64], by simp [vZ, V.n, I64], Nat.zero_le _, _, rfl, slV_nil B w⟩
theorem rd_vN (B : Nat) (w : World) : RdV B w vN (.agg #[.int .i64 3, .int .i64 0, .string ⟨#[]⟩, .slice none 0 0]) := ⟨by simp [vN, V.kind, I64], by simp [vN, V.n, I64], Nat.zero_le _, _, rfl, slV_nil B w⟩
set_option maxRecDepth 100000 in
set_option maxHeartbeats 1000000 in
theorem sane_any (w : World) : Calls Try.prog 10 #[] w (BoolPost true w) := by
  go_enter Try.func10, Try.ntmps10
  go_wp2_with fail
  refine (rInt_any (-3) _).mono ?_
  rintro e w1 ⟨rfl, hb1⟩
  go_wp2_with fail
  refine (encode_any vA (by decide +kernel) _ _ (rd_vA _ _)).mono ?_
  rintro e w2 ⟨v2, rfl, hv2, hb2⟩
  rw [ck_vA] at hv2 ⊢
  rw [if_pos rfl, enc_vA] at hv2
  obtain ⟨oa2, cap2, rfl⟩ := hv2.form
  have Hv2 := Lib.hid hv2; clear hv2
  go_wp2_with fail
  refine (rInt_any 100 _).mono ?_
  rintro e w3 ⟨rfl, hb3⟩
  go_wp2_with fail
  refine (rText_any ⟨#[97, 98]⟩ _).mono ?_
  rintro e w4 ⟨rfl, hb4⟩
  go_wp2_with fail
  refine (rList_any _ 2 2 _).mono ?_
  rintro e w5 ⟨rfl, hb5⟩
  have hbw4 : Below w.heap.size w w4 := below_ext (below_ext (below_ext hb1 hb2) hb3) hb4
  have Hv4 := Lib.hid ((Hv2.out.ext hb3).ext hb4)
  clear hb1 hb2 hb3 hb4 Hv2
  go_wp2_with fail
  have hl5 := sl_vL w4 w5 _ hb5
  have hbw5 : Below w.heap.size w w5 := below_ext hbw4 (below_after hb5)
  have Hv5 := Lib.hid (Hv4.out.ext (below_after hb5))
  clear hbw4 Hv4 hb5
  have HL5 := Lib.hid (rd_vL hl5)
  have HL6 := Lib.hid ((rd_vL hl5).alloc (.cells #[.int .i64 3, .int .i64 0, .string ⟨#[]⟩, .slice (some ⟨w4.heap.size, 0, none⟩) 2 2] 24))
  clear hl5
  refine (encode_any vL (by decide +kernel) _ _ HL6.out).mono ?_
  rintro e w7 ⟨v7, rfl, hv7, hb7⟩
  rw [ck_vL] at hv7 ⊢
  rw [if_pos rfl, enc_vL] at hv7
  obtain ⟨oa7, cap7, rfl⟩ := hv7.form
  have Hv7 := Lib.hid hv7; clear hv7
  go_wp2_with fail
  have hbw7 : Below w.heap.size w w7 := below_ext hbw5 (below_after hb7)
  have Hv5' := Lib.hid (Hv5.out.ext (below_after hb7))
  have HL7 := Lib.hid (HL6.out.ext hb7)
  have c0 : w7.cell? ⟨w5.heap.size, 0, none⟩ = some (.int .i64 3) := (hb7.cell (p := ⟨w5.heap.size, 0, none⟩) (by simp)).trans (by simp)
  have c1 : w7.cell? ⟨w5.heap.size, 1, none⟩ = some (.int .i64 0) := (hb7.cell (p := ⟨w5.heap.size, 1, none⟩) (by simp)).trans (by simp)
  have c2 : w7.cell? ⟨w5.heap.size, 2, none⟩ = some (.string ⟨#[]⟩) := (hb7.cell (p := ⟨w5.heap.size, 2, none⟩) (by simp)).trans (by simp)
  have c3 : w7.cell? ⟨w5.heap.size, 3, none⟩ = some (.slice (some ⟨w4.heap.size, 0, none⟩) 2 2) := (hb7.cell (p := ⟨w5.heap.size, 3, none⟩) (by simp)).trans (by simp)
  clear hbw5 Hv5 HL5 HL6 hb7
  refine (decode_rd [3, 2, 1, 200, 1, 2, 2, 97, 98] (by simp) _ _ Hv7.out.bts).mono ?_
  rw [dec_vL]
  rintro e w8 ⟨oa8, cap8, rfl, hv8, hb8⟩
  simp only [vL, V.kind, V.n, V.s, V.l, List.length_cons, List.length_nil, Nat.reduceAdd] at hv8 ⊢
  have HV8 := Lib.hid hv8; clear hv8
  have hbw8 : Below w.heap.size w w8 := below_ext hbw7 hb8
  have Hv2 := Lib.hid (Hv5'.out.ext hb8)
  have Hb := Lib.hid (Hv7.out.ext hb8)
  have HL := Lib.hid (HL7.out.ext hb8)
  have c0' := (hb8.cell (World.block_lt_of_cell? w7 _ c0)).trans c0
  have c1' := (hb8.cell (World.block_lt_of_cell? w7 _ c1)).trans c1
  have c2' := (hb8.cell (World.block_lt_of_cell? w7 _ c2)).trans c2
  have c3' := (hb8.cell (World.block_lt_of_cell? w7 _ c3)).trans c3
  have hlt8 : w5.heap.size < w8.heap.size := World.block_lt_of_cell? w8 _ c0'
  clear hbw7 Hv5' HL7 Hv7 c0 c1 c2 c3 hb8
  go_wp2_with fail
  refine (size_any vL (by decide +kernel) _ _ ((HL.out.alloc _))).mono ?_
  rintro e w9 ⟨rfl, hb9⟩
  rw [ck_vL, if_pos rfl, enc_vL]
  have hbw9 : Below w.heap.size w w9 := below_ext hbw8 (below_after hb9)
  have Hv2' := Lib.hid (Hv2.out.ext (below_after hb9))
  have Hb' := Lib.hid (Hb.out.ext (below_after hb9))
  have HL' := Lib.hid (HL.out.ext (below_after hb9))
  have HV8' := Lib.hid (HV8.out.ext (below_after hb9))
  have c0 := cell_ext (below_after hb9) c0'
  have c1 := cell_ext (below_after hb9) c1'
  have c2 := cell_ext (below_after hb9) c2'
  have c3 := cell_ext (below_after hb9) c3'
  obtain ⟨d0, d1, d2, d3⟩ := box_ext hb9
  clear hbw8 Hv2 Hb HL HV8 c0' c1' c2' c3' hlt8 hb9
  simp only [List.length_cons, List.length_nil, Nat.reduceAdd]
  have k1 : (convert 27 9 (.slice oa2 2 cap2)).run Try.prog w9 = .ok (.string ⟨#[1, 5]⟩) w9 := run_conv_rd Try.underlying27 Try.underlying5 Try.underlying9 Hv2'.out
  have k2 : (convert 27 9 (.slice oa7 9 cap7)).run Try.prog w9 = .ok (.string ⟨#[3, 2, 1, 200, 1, 2, 2, 97, 98]⟩) w9 := run_conv_rd Try.underlying27 Try.underlying5 Try.underlying9 Hb'.out
  go_wp2_with fail
  refine (same_any 60000 (by decide) vL vL (by decide +kernel) _ _ _ HL'.out HV8'.out).mono ?_
  rw [same_vL]
  rintro e w10 ⟨rfl, hb10⟩
  have hbw10 : Below w.heap.size w w10 := below_ext hbw9 hb10
  clear hbw9 Hv2' Hb' HL' HV8' c0 c1 c2 c3 d0 d1 d2 d3 hb10 k1 k2
  go_wp2_with fail
  refine (rText_any ⟨#[]⟩ _).mono ?_
  rintro e w11 ⟨rfl, hb11⟩
  go_wp2_with fail
  refine (rList_any none 0 0 _).mono ?_
  rintro e w12 ⟨rfl, hb12⟩
  have hbw12 : Below w.heap.size w w12 := below_ext (below_ext hbw10 hb11) hb12
  clear hbw10 hb11 hb12
  go_wp2_with fail
  refine (same_any 60000 (by decide) vE vN (by decide +kernel) _ _ _ (rd_vE _ _) (rd_vN _ _)).mono ?_
  rw [same_vEN]
  rintro e w13 ⟨rfl, hb13⟩
  have hbw13 : Below w.heap.size w w13 := below_ext hbw12 hb13
  clear hbw12 hb13
  go_wp2_with fail
  have hA0 : StrAt (w13.alloc (.cells #[.string ⟨#[]⟩, .string ⟨#[1, 128, 0]⟩, .string ⟨#[1, 5, 0]⟩, .string ⟨#[2, 3, 97]⟩] 9)) w13.heap.size := ⟨by simp, by simp, by simp, by simp⟩
  have hB0 : Below w.heap.size w (w13.alloc (.cells #[.string ⟨#[]⟩, .string ⟨#[1, 128, 0]⟩, .string ⟨#[1, 5, 0]⟩, .string ⟨#[2, 3, 97]⟩] 9)) := hbw13.alloc hbw13.size _
  go_loopw [0, 79] (fun r i wr => r = .bool false ∧ SaneRel w w13.heap.size i wr) (fun _ i _ => 4 - (intOf i).toNat)
  case atStart => exact ⟨rfl, 0, by omega, rfl, hA0, hB0⟩
  case round =>
    clear hA0 hB0
    obtain ⟨rfl, k, hk, rfl, hA, hbr⟩ := hrel
    by_cases hlt : k < 4
    · obtain ⟨s, hs, hc, hd⟩ := hA.get k hlt
      have HD := Lib.hid hd; clear hd
      obtain ⟨cap, wc, hrun, hbc, hbt⟩ := run_bytes_of s hs wr
      have hbt' := Lib.hid hbt; clear hbt
      have hlen : s.data.toList.length ≤ 1000000 := by simpa using hs
      clear hs
      go_wp2_with fail
      refine (decode_rd s.data.toList hlen _ _ hbt'.out).mono ?_
      rw [HD.out]
      rintro e w14 ⟨rfl, hb14⟩
      have hbw : Below w.heap.size w w14 := below_ext (below_ext hbr hbc) hb14
      have hA2 := (hA.ext hbc).ext hb14
      clear hbr hA hbc hb14 hrun hbt' HD hc hlen
      go_wp2_with fail
      go_roundw
      case rel => exact ⟨rfl, k + 1, by omega, by go_num, hA2.ext ((Below.refl _ w14).alloc (Nat.le_refl _) _), hbw.alloc hbw.size _⟩
      case measure => simp [intOf]; omega
    · go_wp2_with fail
      refine (check_any vZ (by decide +kernel) _ _ (rd_vZ _ _)).mono ?_
      rw [ck_vZ]
      rintro e w14 ⟨rfl, hb14⟩
      go_wp2_with fail
      go_ret
      exact ⟨rfl, below_ext hbr hb14⟩
end Go.Proofs.Ytebedfcdbhgfdaa
