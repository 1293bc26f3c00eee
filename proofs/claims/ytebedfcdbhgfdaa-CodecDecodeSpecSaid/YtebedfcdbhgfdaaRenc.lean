/- the reference's encode. -/
import Derived.Test.YtebedfcdbhgfdaaRnum
import Derived.Test.YtebedfcdbhgfdaaWr3
namespace Go.Proofs.Ytebedfcdbhgfdaa
open Go.RowKit

theorem next_lit {w : World} {k B : Nat} {v2 : Value} (h : Next w (.slice (some ⟨k, 0, none⟩) 1 1) v2) (hk : B ≤ k) (hw : B ≤ w.heap.size) : ∀ g, v2.ownBlock = some g → B ≤ g := by
  intro g hg
  rcases h with h | h
  · rw [h] at hg; simp [Value.ownBlock] at hg; omega
  · have := h g hg; omega
theorem num_hu {u : Nat} (h : u < 18446744073709551616) : Hid (u < 128 ^ (9 + 1)) := Nat.lt_of_lt_of_le h (by decide)
def REncRel (B0 : Nat) (W : World) (pre : List UInt8) (l : List V) (base : Nat) (b i : Value) (wr : World) : Prop :=
  ∃ k : Nat, k ≤ l.length ∧ i = .int .i64 k ∧ OwnB 5 wr base b (pre ++ encs (l.take k)) ∧ Below B0 W wr ∧ (∀ g, b.ownBlock = some g → B0 ≤ g)

set_option maxRecDepth 100000 in
set_option maxHeartbeats 1000000 in
theorem rencode_any (N : Nat) (hN : N ≤ 60000) : ∀ (x : V) (_ : fm x = true) (_ : sz x ≤ N) (v : Value) (w : World) (_ : RdV w.heap.size w x v), Calls Try.prog 27 #[v] w (MadePost (enc x) w) := by
  induction N with
  | zero => intro x _ hx; obtain ⟨k, n, s, l⟩ := x; simp [sz] at hx
  | succ N ih =>
  have IH := Lib.hid (ih (by omega)); clear ih
  intro x hf hx v w hr
  have hkind := fm_kind hf
  have hok := hr.ok
  obtain ⟨k, n, s, l⟩ := x
  obtain ⟨oa, cap, rfl, hl⟩ := hr.form
  clear hr
  simp only [V.kind, V.n, V.s, V.l] at *
  simp only [okV] at hok
  obtain ⟨_, hn64, _, _, _⟩ := hok
  have HL := Lib.hid hl; clear hl
  have Hn64 := Lib.hid hn64; clear hn64
  have hszs : szs l + s.size + 24 ≤ N + 1 := by have := hx; simp only [sz] at this; omega
  have hll : l.length ≤ 60000 := by have := szs_len l; omega
  have HF := Lib.hid hf; clear hf
  rcases hkind with rfl | rfl | rfl
  · have he := Lib.hid (enc_1 n s l)
    go_enter Try.func27, Try.ntmps27
    go_wp2_with (first
      | (go_at_call 43; refine (runsigned_any n Hn64 _).mono ?_; rintro e w' ⟨rfl, rfl⟩)
      | (go_at_call 42; refine (rnumeral_any 9 (uns n) _ rfl (num_hu (uns_lt n Hn64.out)) (by decide) _).mono ?_
         rintro e w1 ⟨v1, rfl, ho1, hb1⟩)
      | (at_builtin; refine wpList_append_B (e := 5) Try.underlying27 (by kernel_rfl) rfl _ _ rfl w.heap.size (.slice (some ⟨w.heap.size + 1, 0, none⟩) 1 1) [1] rfl ?own _ (num (uns n)) rfl ?c1 ?c2 ?c3 ?_))
    case own => exact (OwnB.lit1' (w.alloc _) w.heap.size (w.heap.size + 1) 1 1 rfl (by simp) (by omega)).below hb1
    case c1 => exact SrcB.ofRd Try.underlying27 ho1.rd
    case c2 => have := numF_len 9 (uns n); simp [num]; omega
    case c3 => have := hb1.size; simp at this; omega
    intro v2 w2 ho2 hg2 hn2
    go_wp2
    go_ret
    exact ⟨_, rfl, by rw [he.out]; exact ho2, ((((Below.refl _ w).alloc (Nat.le_refl _) _).alloc (by simp) _).trans (hb1.mono (by simp; omega))).grown hg2 (by have := hb1.size; simp at this; omega) (fun k hk => by simp [Value.ownBlock] at hk; omega)⟩
  · have he := Lib.hid (enc_2 n s l)
    have hs64 : Hid (s.size < 18446744073709551616) := by show s.size < _; omega
    have hsd : Hid (s.data.toList.length = s.size) := by show _ = _; simp
    have hw : IntKind.u64.wrap (s.size : Int) = (s.size : Int) := by rw [IntKind.wrap_u64]; omega
    go_enter Try.func27, Try.ntmps27
    go_wp2
    have hst : Hid (w.heap.size + 1 ≤ (w.alloc (.cells #[.int .i64 2, .int .i64 n, .string s, .slice oa l.length cap] 24)).heap.size) := by show _ ≤ _; simp
    go_region_held3 (fun w' => w'.cell? ⟨w.heap.size, 2, none⟩ = some (.string s)) (first | go_keep | exact (hB3.cell (p := ⟨w.heap.size, 2, none⟩) (by simp)).trans (by simp) | exact (hB2.cell (p := ⟨w.heap.size, 2, none⟩) (by simp)).trans (by simp) | exact (hB1.cell (p := ⟨w.heap.size, 2, none⟩) (by simp)).trans (by simp))
      (first
       | (go_at_call 42; refine (rnumeral_any 9 s.size _ rfl (num_hu hs64.out) (by decide) _).mono ?_
          rintro e w1 ⟨v1, rfl, ho1, hb1⟩
          have hB1 := (((Below.refl (w.heap.size + 1) _).alloc hst.out _).drew).trans (hb1.mono (by simp)))
       | (go_at_call 42; refine (rnumeral_any 9 s.size _ rfl (num_hu hs64.out) (by decide) _).mono ?_
          rintro e w1 ⟨v1, rfl, ho1, hb1⟩
          have hB1 := ((Below.refl (w.heap.size + 1) _).drew).trans (hb1.mono (by simp)))
       | (refine step_append_B (e := 5) Try.underlying27 (by kernel_rfl) rfl _ _ rfl w.heap.size (.slice (some ⟨w.heap.size + 1, 0, none⟩) 1 1) [2] rfl ?own v1 (num s.size) rfl ?c1 ?c2 ?c3 ?_
          case own => exact (OwnB.lit1' (w.alloc _) w.heap.size (w.heap.size + 1) 2 2 rfl (by simp) (by omega)).drew.below hb1
          case c1 => exact SrcB.ofRd Try.underlying27 ho1.rd
          case c2 => have := numF_len 9 s.size; simp [num]; omega
          case c3 => have := hb1.size; simp at this; omega
          intro v2 w2 ho2 hg2 hn2
          have hs1 := hB1.size
          have hB2 := hB1.grown hg2 (by simp at hs1; omega) (fun k hk => by simp [Value.ownBlock] at hk; omega)
          have hv2 := next_lit hn2 (B := w.heap.size + 1) (Nat.le_refl _) (by simp at hs1; omega))
       | (refine step_append_B (e := 5) Try.underlying27 (by kernel_rfl) rfl _ _ rfl w.heap.size (.slice (some ⟨w1.heap.size, 0, none⟩) 1 1) [2] rfl ?own v1 (num s.size) rfl ?c1 ?c2 ?c3 ?_
          case own => exact OwnB.lit1' w1 w.heap.size w1.heap.size 2 2 rfl rfl (by have := hB1.size; simp at this; omega)
          case c1 => exact SrcB.ofRd Try.underlying27 (ho1.alloc _).rd
          case c2 => have := numF_len 9 s.size; simp [num]; omega
          case c3 => have := hB1.size; simp at this; simp; omega
          intro v2 w2 ho2 hg2 hn2
          have hs1 := hB1.size
          have hB2 := (hB1.alloc (by simp at hs1; omega) _).grown hg2 (by simp at hs1; simp; omega) (fun k hk => by simp [Value.ownBlock] at hk; simp at hs1; omega)
          have hv2 := next_lit hn2 (B := w.heap.size + 1) (by simp at hs1; omega) (by simp at hs1; simp; omega))
       | (refine step_append_B (e := 5) Try.underlying27 (by kernel_rfl) rfl _ _ rfl w.heap.size v2 ([2] ++ num s.size) rfl ?own3 _ s.data.toList rfl ?c4 ?c5 ?c6 ?_
          case own3 => exact ho2
          case c4 => exact SrcB.ofString Try.underlying9 s _
          case c5 => have := numF_len 9 s.size; rw [hsd.out]; simp [num]; omega
          case c6 => have h8 := hB2.size; simp at h8; omega
          intro v3 w3 ho3 hg3 hn3
          have hs2 := hB2.size
          have hB3 := hB2.grown hg3 (by simp at hs2; omega) hv2))
    all_goals
      go_wp2
      go_ret
      exact ⟨_, rfl, by rw [he.out]; exact ho3, below_box hB3⟩
  · have he := Lib.hid (enc_3 n s l)
    have hl64 : Hid (l.length < 18446744073709551616) := by show l.length < _; omega
    have hw : IntKind.u64.wrap (l.length : Int) = (l.length : Int) := by rw [IntKind.wrap_u64]; omega
    go_enter Try.func27, Try.ntmps27
    go_wp2_with (first
      | (go_at_call 42; refine (rnumeral_any 9 l.length _ rfl (num_hu hl64.out) (by decide) _).mono ?_
         rintro e w1 ⟨v1, rfl, ho1, hb1⟩)
      | (at_builtin; refine wpList_append_B (e := 5) Try.underlying27 (by kernel_rfl) rfl _ _ rfl w.heap.size (.slice (some ⟨w.heap.size + 1, 0, none⟩) 1 1) [3] rfl ?own _ (num l.length) rfl ?c1 ?c2 ?c3 ?_))
    case own => exact (OwnB.lit1' (w.alloc _) w.heap.size (w.heap.size + 1) 3 3 rfl (by simp) (by omega)).below hb1
    case c1 => exact SrcB.ofRd Try.underlying27 ho1.rd
    case c2 => have := numF_len 9 l.length; simp [num]; omega
    case c3 => have := hb1.size; simp at this; omega
    intro v2 w2 ho2 hg2 hn2
    have hs1 := hb1.size
    have hs2 := hg2.size
    simp at hs1
    have hbW : Below (w.heap.size + 1) (w.alloc (.cells #[.int .i64 3, .int .i64 n, .string s, .slice oa l.length cap] 24)) w2 :=
      ((((Below.refl _ _).alloc (by simp) _)).trans (hb1.mono (by simp))).grown hg2 (by omega) (fun k hk => by simp [Value.ownBlock] at hk; omega)
    have hv2 : ∀ g, v2.ownBlock = some g → w.heap.size + 1 ≤ g := fun g hg => by
      rcases hn2 with h2 | h2
      · rw [h2] at hg; simp [Value.ownBlock] at hg; omega
      · have := h2 _ hg; omega
    have HO := Lib.hid ho2
    clear ho2 hg2 hn2 hb1 ho1 hw
    go_wp2
    go_loopw [3, 4] (fun b i wr => REncRel (w.heap.size + 1) (w.alloc (.cells #[.int .i64 3, .int .i64 n, .string s, .slice oa l.length cap] 24)) ([3] ++ num l.length) l w.heap.size b i wr) (fun _ i _ => l.length - (intOf i).toNat)
    case atStart => exact ⟨0, Nat.zero_le _, rfl, by simpa [encs] using HO.out, hbW, hv2⟩
    case round =>
      obtain ⟨k, hkl, rfl, ho, hb, hv⟩ := hrel
      have HO' := Lib.hid ho; clear ho
      have hbox := fun o => hb.cell (p := ⟨w.heap.size, o, none⟩) (by simp)
      have hbw : Below w.heap.size w wr := below_box hb
      have hlen5 : (num l.length).length ≤ 10 := numF_len 9 l.length
      have hsw := hb.size
      simp at hsw
      by_cases hlt : k < l.length
      case neg =>
        have hkk : Hid (l.take k = l) := List.take_of_length_le (by omega)
        go_wp2
        go_ret
        exact ⟨_, rfl, by rw [he.out]; have := HO'.out; rw [hkk.out] at this; exact this, hbw⟩
      case pos =>
        obtain ⟨x, hx'⟩ : ∃ x, l[k]? = some x := ⟨l[k], by simp [hlt]⟩
        have Hx := Lib.hid hx'; clear hx'
        obtain ⟨c, o, xo, xc, rfl, hcb, c0, c1, c2, c3, hrd⟩ := HL.out.elem hbw.block hbw.size Hx.out
        have hsx := szs_get Hx.out
        have hfx : fm x = true := by
          have h3 := HF.out; rw [fm_3 n s l _ _ rfl rfl] at h3; simp at h3; exact fms_get h3.2 Hx.out
        have hex := encs_len_take Hx.out
        have hesz := enc_sz x
        clear hbW hv2
        go_wp2_with (first
          | (go_at_call 27; refine (IH.out x hfx (by omega) _ _ hrd).mono ?_; rintro e w3 ⟨v3, rfl, ho3, hb3⟩)
          | (at_builtin; refine wpList_append_B (e := 5) Try.underlying27 (by kernel_rfl) rfl _ _ rfl w.heap.size u3 ([3] ++ num l.length ++ encs (l.take k)) rfl ?own _ (enc x) rfl ?c1 ?c2 ?c3 ?_))
        case own => exact HO'.out.below hb3
        case c1 => exact SrcB.ofRd Try.underlying27 ho3.rd
        case c2 => simp; omega
        case c3 => have := hb3.size; omega
        intro v4 w4 ho4 hg4 hn4
        go_wp2
        go_roundw
        case rel =>
          refine ⟨k + 1, by omega, by go_num, ?_, ?_, ?_⟩
          · rw [encs_take Hx.out, ← List.append_assoc]; simpa using ho4
          · exact (hb.trans (hb3.mono (by omega))).grown hg4 (by have := hb3.size; omega) hv
          · intro g hg
            rcases hn4 with h2 | h2
            · rw [h2] at hg; exact hv g hg
            · have := h2 _ hg; have := hb3.size; omega
        case measure => simp [intOf]; omega
end Go.Proofs.Ytebedfcdbhgfdaa
