/- Merged: Dee Cfo Pla Drd Rra Rrb Rrc Rrd. -/
import Derived.Test.YtgdbmoggpfpkkaaK01
import Derived.Test.YtgdbmoggpfpkkaaK02
import Derived.Test.YtgdbmoggpfpkkaaK03
import Derived.Deep.QuietTactic
import Derived.BigQuiet
import Derived.Shelf.Bits.Mul64
import Derived.StillTailTactics
import Derived.Laws.Slices
/- codec.Decode: the walk where all is read. -/
namespace Go.Proofs.Ytgdbmoggpfpkkaa
open Go.RowKit

/-- the world at Decode's return -/
def FinT (w9 : World) (V E : Nat) (a b c d : Value) : World :=
  ((((((((w9.setCell ⟨V, 0, none⟩ a).setCell ⟨V, 1, none⟩ b).setCell ⟨V, 2, none⟩ c).setCell ⟨V, 3, none⟩ d).setCell ⟨V, 0, none⟩ a).setCell ⟨V, 1, none⟩ b).setCell ⟨V, 2, none⟩ c).setCell ⟨V, 3, none⟩ d).setCell ⟨E, 0, none⟩ (.int .i64 0)
structure FinS (w9 : World) (V E : Nat) (a b c d : Value) (wf : World) : Prop where
  c0 : wf.cell? ⟨V, 0, none⟩ = some a
  c1 : wf.cell? ⟨V, 1, none⟩ = some b
  c2 : wf.cell? ⟨V, 2, none⟩ = some c
  c3 : wf.cell? ⟨V, 3, none⟩ = some d
  e0 : wf.cell? ⟨E, 0, none⟩ = some (.int .i64 0)
  sz : wf.heap.size = w9.heap.size
  old : ∀ k, k ≠ V → k ≠ E → wf.heap[k]? = w9.heap[k]?
  gr : ∀ (base : World) (G : Option Nat), base.grownBy w9 G → base.heap.size ≤ V → base.heap.size ≤ E → base.grownBy wf G
theorem finS (w9 : World) (V E : Nat) (a b c d x y z u e : Value) (h : BoxAt w9 V x y z u) (he : w9.cell? ⟨E, 0, none⟩ = some e) (hne : V ≠ E) : FinS w9 V E a b c d (FinT w9 V E a b c d) := by
  have hb := box_set (box_set h a b c d) a b c d
  have he2 : ((((((((w9.setCell ⟨V, 0, none⟩ a).setCell ⟨V, 1, none⟩ b).setCell ⟨V, 2, none⟩ c).setCell ⟨V, 3, none⟩ d).setCell ⟨V, 0, none⟩ a).setCell ⟨V, 1, none⟩ b).setCell ⟨V, 2, none⟩ c).setCell ⟨V, 3, none⟩ d).cell? ⟨E, 0, none⟩ = some e := by simp [go_sem, he]
  refine ⟨?_, ?_, ?_, ?_, World.cell?_setCell_same' _ _ _ (by rw [he2]; rfl), by simp [FinT, World.setCell], ?_, ?_⟩
  · exact (World.cell?_setCell_other _ _ _ _ (by simp)).trans hb.c0
  · exact (World.cell?_setCell_other _ _ _ _ (by simp)).trans hb.c1
  · exact (World.cell?_setCell_other _ _ _ _ (by simp)).trans hb.c2
  · exact (World.cell?_setCell_other _ _ _ _ (by simp)).trans hb.c3
  · intro k h1 h2
    unfold FinT
    rw [Below.heap_setCell _ _ _ _ (by exact h2), Below.heap_setCell _ _ _ _ (by exact h1), Below.heap_setCell _ _ _ _ (by exact h1), Below.heap_setCell _ _ _ _ (by exact h1), Below.heap_setCell _ _ _ _ (by exact h1), Below.heap_setCell _ _ _ _ (by exact h1), Below.heap_setCell _ _ _ _ (by exact h1), Below.heap_setCell _ _ _ _ (by exact h1), Below.heap_setCell _ _ _ _ (by exact h1)]
  · intro base G hg hV hE
    exact grown_set_new (grown_set_new (grown_set_new (grown_set_new (grown_set_new (grown_set_new (grown_set_new (grown_set_new (grown_set_new hg hV) hV) hV) hV) hV) hV) hV) hV) hE
set_option maxRecDepth 100000 in
set_option maxHeartbeats 4000000 in
theorem decode_some (B : Nat) (l : List UInt8) (hl : l.length ≤ 1000000) (oa : Option Addr) (cap : Nat) (w : World) (hb : BtsAt B w l (.slice oa l.length cap)) (hB : B ≤ w.heap.size) (x : V) (r : List UInt8) (hN : rdV 16 l = some (x, r)) (hr : r = []) :
    Calls Try.prog 36 #[.slice oa l.length cap] w (DecPost (some x) w) := by
  have hmf : ∀ (fn : Fn) (first cap : Array Value) (w : World), (Instr.makeFunc fn first cap).run Try.prog w = .ok (.func fn first cap) w := fun _ _ _ _ => rfl
  have HR := Lib.hid (decW_rdr hb hB)
  have hx := Lib.hid (decW_box w (.slice oa l.length cap))
  have hy := Lib.hid (decW_e w (.slice oa l.length cap))
  have hg0 := Lib.hid (decW_grown w (.slice oa l.length cap) none)
  have hsz := Lib.hid (decW_size w (.slice oa l.length cap))
  have HN := Lib.hid hN; clear hN hb
  have hrl : ((r.length : Int) == 0) = true := by cases r <;> simp_all <;> omega
  have hbnd : (r.length : Int) ≤ 1000000 := by have := rdV_len 16 l x r HN.out; omega
  clear hr
  go_enter_defers Try.func36, Try.ntmps36
  go_wp2_with (first
    | (go_at_call 59; refine (value_any 16 (by omega) w.heap.size (w.heap.size + 1 + 1) l 0 (by simp) hl (DecW w (.slice oa l.length cap)) HR.out (by rw [hsz.out]; omega)).mono ?_; rw [HN.out]; rintro e w9 ⟨v9, rfl, ⟨z1, z2, z3, lx, rfl, z4⟩, hrd9, hg9⟩
       obtain ⟨xo, xn, xc, rfl⟩ := z4.shape
       have hs0 := hsz.out
       have hs9 := hg9.size
       have hx9 := Lib.hid (hx.out.grown hg9 (by omega))
       obtain ⟨x0, x1, x2, x3, xf⟩ := hx9.out
       have hy9 := hg9.block (w.heap.size + 1) (by omega) (fun e => by injection e; omega)
       have e0 : w9.cell? ⟨w.heap.size + 1, 0, none⟩ = some (.int .i64 0) := (World.cell?_of_block (w := DecW w _) hy9).trans hy.out.1
       have ef : w9.frozen? ⟨w.heap.size + 1, 0, none⟩ = false := (World.frozen?_of_block (w := DecW w _) hy9).trans hy.out.2
       obtain ⟨_, fR, vR, cR, bR⟩ := hrd9
       obtain ⟨oR, capR, rfl⟩ := bR.shape
       have Z := Lib.hid (And.intro z1 (And.intro z2 (And.intro z3 z4)))
       clear hy9 bR z1 z2 z3 z4
       have hgw := Lib.hid (grown_trans (G := none) hg0.out hg9 (.inr fun g hg => by injection hg; omega)))
    | (go_at_call 60; refine (want_true _ _).mono ?_; rintro e w' ⟨rfl, rfl⟩))
  have hf := finS w9 w.heap.size (w.heap.size + 1) (.int .i64 x.kind) (.int .i64 x.n) (.string x.s) (.slice xo xn xc) _ _ _ _ _ hx9.out e0 (by omega)
  change bodyPostD _ _ _ _ _ (FinT w9 w.heap.size (w.heap.size + 1) (.int .i64 x.kind) (.int .i64 x.n) (.string x.s) (.slice xo xn xc))
  generalize FinT w9 w.heap.size (w.heap.size + 1) (.int .i64 x.kind) (.int .i64 x.n) (.string x.s) (.slice xo xn xc) = wf at hf ⊢
  obtain ⟨y0, y1, y2, y3, y4, ys, yo, yg⟩ := hf
  have YO := Lib.hid yo; have YG := Lib.hid yg; clear yo yg
  refine leaves_cons (f := 58) (args := #[.pointer (some ⟨w.heap.size, 0, none⟩), .pointer (some ⟨w.heap.size + 1, 0, none⟩)]) (by simp) (by simp [go_sem]) ?_
  refine (catch_idle w.heap.size (w.heap.size + 1) wf).mono ?_
  rintro e u' w'' ⟨rfl, rfl, rfl⟩
  simp [Leaves, settle, results, Try.results36, go_sem, y0, y1, y2, y3, y4]
  refine ⟨_, rfl, ⟨Z.out.1, Z.out.2.1, Z.out.2.2.1, _, rfl, Z.out.2.2.2.keep (fun k hk => ⟨by omega, by omega⟩) (fun k hk => YO.out k (by omega) (by omega))⟩, YG.out w none hgw.out (Nat.le_refl _) (by omega)⟩
/-- Decode, whatever it is handed -/
theorem decode_any (B : Nat) (l : List UInt8) (hl : l.length ≤ 1000000) (v : Value) (w : World) (hb : BtsAt B w l v) (hB : B ≤ w.heap.size) :
    Calls Try.prog 36 #[v] w (DecPost (decF l) w) := by
  obtain ⟨oa, cap, rfl⟩ := hb.shape
  unfold decF
  cases hN : rdV 16 l with
  | none => exact decode_none B l hl oa cap w hb hB hN
  | some p =>
    obtain ⟨x, r⟩ := p
    cases r with
    | nil => exact decode_some B l hl oa cap w hb hB x [] hN rfl
    | cons c r => exact decode_junk B l hl oa cap w hb hB x (c :: r) hN (by simp)
end Go.Proofs.Ytgdbmoggpfpkkaa
/- four cells of a block. -/
namespace Go.Proofs.Ytgdbmoggpfpkkaa
open Go.RowKit
theorem str_eq {s t : ByteArray} (h : s.toList = t.toList) : s = t := by
  rw [ByteArray.toList_eq, ByteArray.toList_eq] at h
  exact ByteArray.ext (Array.toList_inj.1 h)
theorem to_box {w w' : World} {ob : Obj} (h : Below (w.alloc ob).heap.size (w.alloc ob) w') : Below (w.heap.size + 1) (w.alloc ob) w' := h.mono (by simp)

theorem box_cells {w w' : World} {a b c d : Value} {t : TypeId} (h : Below (w.heap.size + 1) (w.alloc (.cells #[a, b, c, d] t)) w') :
    w'.cell? ⟨w.heap.size, 0, none⟩ = some a ∧ w'.cell? ⟨w.heap.size, 1, none⟩ = some b ∧ w'.cell? ⟨w.heap.size, 2, none⟩ = some c ∧ w'.cell? ⟨w.heap.size, 3, none⟩ = some d :=
  ⟨(h.cell (p := ⟨w.heap.size, 0, none⟩) (by simp)).trans (by simp), (h.cell (p := ⟨w.heap.size, 1, none⟩) (by simp)).trans (by simp), (h.cell (p := ⟨w.heap.size, 2, none⟩) (by simp)).trans (by simp), (h.cell (p := ⟨w.heap.size, 3, none⟩) (by simp)).trans (by simp)⟩
theorem box_ext {w w' : World} {a b c d : Value} {t : TypeId} (h : Below (w.alloc (.cells #[a, b, c, d] t)).heap.size (w.alloc (.cells #[a, b, c, d] t)) w') :
    w'.cell? ⟨w.heap.size, 0, none⟩ = some a ∧ w'.cell? ⟨w.heap.size, 1, none⟩ = some b ∧ w'.cell? ⟨w.heap.size, 2, none⟩ = some c ∧ w'.cell? ⟨w.heap.size, 3, none⟩ = some d := box_cells (to_box h)
theorem RdV.drew {w : World} {x : V} {v : Value} (h : RdV w.heap.size w x v) : RdV w.drew.heap.size w.drew x v := h.keep (Nat.le_refl _) (fun _ _ => rfl)
/-- four cells of a block -/
structure C4 (w : World) (T : Nat) (a b c d : Value) : Prop where
  c0 : w.cell? ⟨T, 0, none⟩ = some a
  c1 : w.cell? ⟨T, 1, none⟩ = some b
  c2 : w.cell? ⟨T, 2, none⟩ = some c
  c3 : w.cell? ⟨T, 3, none⟩ = some d
theorem C4.ext {w w' : World} {T : Nat} {a b c d : Value} (h : C4 w T a b c d) (hb : Below w.heap.size w w') : C4 w' T a b c d := ⟨cell_ext hb h.c0, cell_ext hb h.c1, cell_ext hb h.c2, cell_ext hb h.c3⟩
theorem C4.of_box {w w' : World} {a b c d : Value} {t : TypeId} (h : Below (w.alloc (.cells #[a, b, c, d] t)).heap.size (w.alloc (.cells #[a, b, c, d] t)) w') : C4 w' w.heap.size a b c d := by
  obtain ⟨c0, c1, c2, c3⟩ := box_ext h
  exact ⟨c0, c1, c2, c3⟩
theorem C4.of_two {w w' : World} {a b c d a2 b2 c2 d2 : Value} {t t2 : TypeId} (h : Below ((w.alloc (.cells #[a, b, c, d] t)).alloc (.cells #[a2, b2, c2, d2] t2)).heap.size ((w.alloc (.cells #[a, b, c, d] t)).alloc (.cells #[a2, b2, c2, d2] t2)) w') :
    C4 w' w.heap.size a b c d ∧ C4 w' (w.heap.size + 1) a2 b2 c2 d2 ∧ Below w.heap.size w w' := by
  have h2 := C4.of_box (w := w.alloc (.cells #[a, b, c, d] t)) h
  rw [World.size_alloc] at h2
  have hb := below_after (w := w.alloc (.cells #[a, b, c, d] t)) h
  exact ⟨C4.of_box hb, h2, below_after hb⟩
end Go.Proofs.Ytgdbmoggpfpkkaa
/- the plain law of the codec: what is encoded is read back, and what is read was encoded so. -/
namespace Go.Proofs.Ytgdbmoggpfpkkaa
open Go.RowKit

def DecRd (o : Option V) (w : World) (e : Ending) (w' : World) : Prop :=
  match o with
  | some x => ∃ oa cap, e = .returned (.tuple #[.agg #[.int .i64 x.kind, .int .i64 x.n, .string x.s, .slice oa x.l.length cap], .int .i64 0]) ∧ RdV w'.heap.size w' x (.agg #[.int .i64 x.kind, .int .i64 x.n, .string x.s, .slice oa x.l.length cap]) ∧ Below w.heap.size w w'
  | none => e = .returned (.tuple #[.agg #[.int .i64 0, .int .i64 0, .string ⟨#[]⟩, .slice none 0 0], .int .i64 10]) ∧ Below w.heap.size w w'
theorem lo_nat (x : Nat) (h : x < 256) : (loDig x).toNat = x := by have := lo_cast x; omega
theorem hi_nat (x : Nat) : (hiDig x).toNat = x % 128 + 128 := by have := hi_cast x; omega
theorem pow_split (k : Nat) : (2 : Nat) ^ (7 * (k + 1)) = 128 * 2 ^ (7 * k) := by rw [show 7 * (k + 1) = 7 + 7 * k from by omega, Nat.pow_add]
theorem digit_sum (u p : Nat) : u % 128 * p + u / 128 * (128 * p) = u * p := by
  have h := Nat.mod_add_div u 128
  calc u % 128 * p + u / 128 * (128 * p) = u % 128 * p + 128 * (u / 128) * p := by rw [← Nat.mul_assoc, Nat.mul_comm (u / 128) 128]
    _ = (u % 128 + 128 * (u / 128)) * p := by rw [Nat.add_mul]
    _ = u * p := by rw [h]

theorem num_read : ∀ (f k u x : Nat) (r : List UInt8), f + k = 9 → u < 128 ^ f * 2 → (k = 0 ∨ u ≠ 0) → rdNum k x (numF f u ++ r) = some (x + u * 2 ^ (7 * k), r)
  | 0, k, u, x, r, hk, hu, h0 => by
    have hu' : u < 2 := by simpa using hu
    have hl := lo_nat u (by omega)
    simp only [numF, List.singleton_append]
    rw [rdNum_end (by rw [hl]; omega) (by omega), hl, Nat.mod_eq_of_lt (by omega)]
  | f + 1, k, u, x, r, hk, hu, h0 => by
    by_cases h : u < 128
    · have hl := lo_nat u (by omega)
      rw [numF, if_pos h]
      simp only [List.singleton_append]
      rw [rdNum_end (by rw [hl]; omega) (by omega), hl, Nat.mod_eq_of_lt (by omega)]
    · have hh := hi_nat u
      rw [numF, if_neg h, List.cons_append, rdNum_on (by rw [hh]; omega) (by omega), hh]
      rw [num_read f (k + 1) (u / 128) _ r (by omega) (by
        rw [Nat.pow_succ] at hu
        exact Nat.div_lt_of_lt_mul (by rw [← Nat.mul_assoc, Nat.mul_comm 128]; exact hu)) (by omega)]
      congr 2
      rw [pow_split, show (u % 128 + 128) % 128 = u % 128 from by omega, Nat.add_assoc, digit_sum]
theorem num_rd (u : Nat) (hu : u < 18446744073709551616) (r : List UInt8) : rdNum 0 0 (num u ++ r) = some (u, r) := by
  have := num_read 9 0 u 0 r rfl (by simpa using hu) (.inl rfl)
  simpa [num] using this

theorem num_sound : ∀ (f k x n : Nat) (l r : List UInt8), f + k = 9 → rdNum k x l = some (n, r) → ∃ u, l = numF f u ++ r ∧ n = x + u * 2 ^ (7 * k) ∧ (k = 0 ∨ u ≠ 0) ∧ u < 128 ^ f * 2
  | f, k, x, n, [], r, hk, h => by simp [rdNum] at h
  | f, k, x, n, c :: t, r, hk, h => by
    by_cases hg : (k = 0 ∨ c.toNat ≠ 0) ∧ (k < 9 ∨ c.toNat ≤ 1)
    case neg => rw [rdNum_bad hg] at h; cases h
    have hlo : c.toNat < 256 := c.toNat_lt
    by_cases hc : c.toNat < 128
    · rw [rdNum_end hg hc, Nat.mod_eq_of_lt hc] at h
      simp at h; obtain ⟨rfl, rfl⟩ := h
      have hcl : loDig c.toNat = c := UInt8.toNat_inj.1 (lo_nat c.toNat hlo)
      refine ⟨c.toNat, ?_, rfl, hg.1, ?_⟩
      · cases f with
        | zero => simp [numF, hcl]
        | succ f => rw [numF, if_pos hc]; simp [hcl]
      · have h1 : 1 ≤ 128 ^ f := Nat.one_le_pow _ _ (by decide)
        cases f with
        | zero => have := hg.2; simp; omega
        | succ f =>
          have h2 : 1 ≤ 128 ^ f := Nat.one_le_pow _ _ (by decide)
          rw [Nat.pow_succ]; omega
    · cases f with
      | zero => have := hg.2; omega
      | succ f =>
        rw [rdNum_on hg hc] at h
        obtain ⟨u, rfl, rfl, hu0, hul⟩ := num_sound f (k + 1) _ n t r (by omega) h
        have hu1 : u ≠ 0 := by omega
        have hd : (c.toNat % 128 + 128 * u) / 128 = u := by omega
        have hm : (c.toNat % 128 + 128 * u) % 128 = c.toNat % 128 := by omega
        have hh : hiDig (c.toNat % 128 + 128 * u) = c := UInt8.toNat_inj.1 (by rw [hi_nat, hm]; omega)
        refine ⟨c.toNat % 128 + 128 * u, ?_, ?_, .inr (by omega), ?_⟩
        · rw [numF, if_neg (by omega), hh, hd, List.cons_append]
        · have := digit_sum (c.toNat % 128 + 128 * u) (2 ^ (7 * k))
          rw [hm, hd] at this
          rw [pow_split, ← this, Nat.add_assoc]
        · rw [Nat.pow_succ]; omega
theorem num_snd {n : Nat} {l r : List UInt8} (h : rdNum 0 0 l = some (n, r)) : l = num n ++ r ∧ n < 18446744073709551616 := by
  obtain ⟨u, h1, h2, _, h4⟩ := num_sound 9 0 0 n l r rfl h
  have : n = u := by simpa using h2
  subst this
  exact ⟨h1, by simpa using h4⟩

theorem sgn_uns (n : Int) (h : I64 n) : sgn (uns n) = n := by unfold I64 at h; unfold sgn uns; split <;> split <;> omega
theorem uns_sgn (u : Nat) : uns (sgn u) = u := by unfold sgn uns; split <;> split <;> omega

theorem num_pos (u : Nat) : 1 ≤ (num u).length := numF_pos 9 u
theorem fm_cases : ∀ x : V, fm x = true → (∃ n, x = .mk 1 n ⟨#[]⟩ []) ∨ (∃ s, x = .mk 2 0 s []) ∨ (∃ l, x = .mk 3 0 ⟨#[]⟩ l ∧ fms l = true)
  | .mk k n s l, h => by
    have he : ∀ s : ByteArray, s.toList.isEmpty = true → s = ⟨#[]⟩ := fun s hs => str_eq (by rw [List.isEmpty_iff.1 hs, ByteArray.toList_eq])
    rw [fm] at h
    split at h
    · rename_i hk; subst hk
      simp only [Bool.and_eq_true] at h
      obtain rfl := he s h.1
      obtain rfl := List.isEmpty_iff.1 h.2
      exact .inl ⟨n, rfl⟩
    · split at h
      · rename_i hk; subst hk
        simp only [Bool.and_eq_true, beq_iff_eq] at h
        obtain ⟨rfl, h2⟩ := h
        obtain rfl := List.isEmpty_iff.1 h2
        exact .inr (.inl ⟨s, rfl⟩)
      · split at h
        · rename_i hk; subst hk
          simp only [Bool.and_eq_true, beq_iff_eq] at h
          obtain ⟨⟨rfl, h2⟩, h3⟩ := h
          obtain rfl := he s h2
          exact .inr (.inr ⟨l, rfl, h3⟩)
        · cases h
theorem fms_cons {x : V} {r : List V} (h : fms (x :: r) = true) : fm x = true ∧ fms r = true := by simpa [fms] using h
/-- an encoding is not much shorter than what it holds -/
theorem enc_lenN (N : Nat) : (∀ x : V, sz x ≤ N → fm x = true → sz x ≤ 13 * (enc x).length ∧ 2 ≤ (enc x).length) := by
  induction N with
  | zero => intro x h; obtain ⟨k, n, s, l⟩ := x; simp [sz] at h
  | succ N ih =>
    intro x hN hf
    have hs : ∀ l : List V, szs l ≤ N → fms l = true → szs l ≤ 13 * (encs l).length ∧ l.length ≤ (encs l).length := by
      intro l
      induction l with
      | nil => intro _ _; simp [szs]
      | cons y r ihr =>
        intro h1 h2
        obtain ⟨h3, h4⟩ := fms_cons h2
        simp only [szs] at h1 ⊢
        have := ih y (by omega) h3
        have := ihr (by omega) h4
        simp only [encs, List.length_append, List.length_cons]; omega
    rcases fm_cases x hf with ⟨n, rfl⟩ | ⟨s, rfl⟩ | ⟨l, rfl, hl⟩
    · have := num_pos (uns n)
      rw [enc_1]
      simp [sz, szs]
      have h0 : (⟨#[]⟩ : ByteArray).size = 0 := rfl
      omega
    · have := num_pos s.size
      have h5 : s.data.toList.length = s.size := by simp
      rw [enc_2]
      simp [sz, szs]
      omega
    · have := num_pos l.length
      have h0 : (⟨#[]⟩ : ByteArray).size = 0 := rfl
      simp only [sz] at hN
      have := hs l (by omega) hl
      rw [enc_3]
      simp [sz]
      omega
theorem enc_len {x : V} (h : fm x = true) : sz x ≤ 13 * (enc x).length ∧ 2 ≤ (enc x).length := enc_lenN (sz x) x (Nat.le_refl _) h
theorem encs_len : ∀ l : List V, fms l = true → l.length ≤ (encs l).length
  | [], _ => by simp
  | x :: r, h => by
    obtain ⟨h1, h2⟩ := fms_cons h
    have := (enc_len h1).2; have := encs_len r h2
    simp only [encs, List.length_append, List.length_cons]; omega

theorem rdLen_enc {n : Nat} (h : n < 18446744073709551616) (r : List UInt8) (hr : n ≤ r.length) : rdLen (num n ++ r) = some (n, r) := by
  unfold rdLen; rw [num_rd n h]; simp [hr]
theorem rdVs_enc (f : List UInt8 → Option (V × List UInt8)) (l : List V) (r : List UInt8) (hf : ∀ x ∈ l, ∀ t, f (enc x ++ t) = some (x, t)) : ∀ k, k ≤ l.length → rdVs f k (encs l ++ r) = some (l.take k, encs (l.drop k) ++ r)
  | 0, _ => by simp [rdVs]
  | k + 1, hk => by
    have h1 := rdVs_enc f l r hf k (by omega)
    have hd : l.drop k = l[k] :: l.drop (k + 1) := List.drop_eq_getElem_cons (by omega)
    rw [hd] at h1
    simp only [encs, List.append_assoc] at h1
    rw [rdVs_some f k _ _ _ _ _ h1 (hf l[k] (List.getElem_mem _) _)]
    congr 2
    rw [List.take_succ_eq_append_getElem (by omega)]
theorem dps_mem : ∀ {l : List V} {x : V}, x ∈ l → dp x ≤ dps l
  | y :: r, x, h => by
    simp only [dps]
    rcases List.mem_cons.1 h with rfl | h
    · omega
    · have := dps_mem h; omega
theorem fms_mem : ∀ {l : List V} {x : V}, fms l = true → x ∈ l → fm x = true
  | y :: r, x, hf, h => by
    obtain ⟨h1, h2⟩ := fms_cons hf
    rcases List.mem_cons.1 h with rfl | h
    · exact h1
    · exact fms_mem h2 h
theorem rdV_enc : ∀ (d : Nat) (x : V), fm x = true → dp x ≤ d → okV x → ∀ r, rdV d (enc x ++ r) = some (x, r) := by
  intro d
  induction d with
  | zero =>
    intro x hf hd hok r
    rcases fm_cases x hf with ⟨n, rfl⟩ | ⟨s, rfl⟩ | ⟨l, rfl, hl⟩
    · obtain ⟨_, hn, _⟩ := hok
      rw [enc_1, List.append_assoc, List.singleton_append, rdV_1, num_rd _ (uns_lt n hn)]
      show some (V.mk 1 (sgn (uns n)) ⟨#[]⟩ [], r) = _
      rw [sgn_uns n hn]
    · obtain ⟨_, _, hs, _⟩ := hok
      unfold maxLen at hs
      rw [enc_2, List.append_assoc, List.append_assoc, List.singleton_append, rdV_2, rdLen_enc (by omega) _ (by simp)]
      simp
    · rw [dp_3] at hd; omega
  | succ d ih =>
    intro x hf hd hok r
    rcases fm_cases x hf with ⟨n, rfl⟩ | ⟨s, rfl⟩ | ⟨l, rfl, hl⟩
    · obtain ⟨_, hn, _⟩ := hok
      rw [enc_1, List.append_assoc, List.singleton_append, rdV_1, num_rd _ (uns_lt n hn)]
      show some (V.mk 1 (sgn (uns n)) ⟨#[]⟩ [], r) = _
      rw [sgn_uns n hn]
    · obtain ⟨_, _, hs, _⟩ := hok
      unfold maxLen at hs
      rw [enc_2, List.append_assoc, List.append_assoc, List.singleton_append, rdV_2, rdLen_enc (by omega) _ (by simp)]
      simp
    · obtain ⟨_, _, _, hll, hoks⟩ := hok
      unfold maxLen at hll
      rw [dp_3] at hd
      rw [enc_3, List.append_assoc, List.append_assoc, List.singleton_append, rdV_3, rdLen_enc (by omega) _ (by have := encs_len l hl; simp; omega)]
      have h1 := rdVs_enc (rdV d) l r (fun x hx t => ih x (fms_mem hl hx) (by have := dps_mem hx; omega) (okVs_mem hoks hx) t) l.length (Nat.le_refl _)
      simp only [h1]
      simp [encs]

theorem rdLen_snd {n : Nat} {l r : List UInt8} (h : rdLen l = some (n, r)) : l = num n ++ r ∧ n < 18446744073709551616 ∧ n ≤ r.length := by
  unfold rdLen at h
  cases hN : rdNum 0 0 l with
  | none => rw [hN] at h; cases h
  | some p =>
    obtain ⟨m, t⟩ := p
    rw [hN] at h
    simp only at h
    split at h
    · rename_i hm
      simp at h; obtain ⟨rfl, rfl⟩ := h
      obtain ⟨h1, h2⟩ := num_snd hN
      exact ⟨h1, h2, hm⟩
    · cases h
theorem encs_append (a b : List V) : encs (a ++ b) = encs a ++ encs b := by
  induction a with
  | nil => simp [encs]
  | cons x r ih => simp [encs, ih]
/-- what a value that was read is good for -/
structure Rd1 (d : Nat) (l : List UInt8) (x : V) (r : List UInt8) : Prop where
  eq : l = enc x ++ r
  fm : fm x = true
  dp : dp x ≤ d
  ok : l.length ≤ maxLen → okV x
theorem dps_append (a : List V) (x : V) : dps (a ++ [x]) = max (dps a) (dp x) := by
  induction a with
  | nil => simp [dps]
  | cons y r ih => simp only [List.cons_append, dps, ih]; omega
theorem fms_append (a : List V) (x : V) : fms (a ++ [x]) = (fms a && Go.Proofs.Ytgdbmoggpfpkkaa.fm x) := by
  induction a with
  | nil => simp [fms]
  | cons y r ih => simp only [List.cons_append, fms, ih, Bool.and_assoc]
theorem okVs_append (a : List V) (x : V) (h : okVs a) (hx : okV x) : okVs (a ++ [x]) := by
  induction a with
  | nil => exact ⟨hx, trivial⟩
  | cons y r ih => exact ⟨h.1, ih h.2⟩
theorem rdVs_sound (d : Nat) (ih : ∀ l x r, rdV d l = some (x, r) → Rd1 d l x r) : ∀ (n : Nat) (l : List UInt8) (xs : List V) (r : List UInt8), rdVs (rdV d) n l = some (xs, r) →
    xs.length = n ∧ l = encs xs ++ r ∧ fms xs = true ∧ dps xs ≤ d ∧ (l.length ≤ maxLen → okVs xs)
  | 0, l, xs, r, h => by simp [rdVs] at h; obtain ⟨rfl, rfl⟩ := h; simp [encs, fms, dps, okVs]
  | n + 1, l, xs, r, h => by
    simp only [rdVs] at h
    cases hN : rdVs (rdV d) n l with
    | none => rw [hN] at h; cases h
    | some p =>
      obtain ⟨ys, t⟩ := p
      rw [hN] at h; simp only at h
      cases hM : rdV d t with
      | none => rw [hM] at h; cases h
      | some q =>
        obtain ⟨y, t'⟩ := q
        rw [hM] at h; simp at h
        obtain ⟨rfl, rfl⟩ := h
        obtain ⟨h1, h2, h3, h4, h5⟩ := rdVs_sound d ih n l ys t hN
        obtain ⟨g1, g2, g3, g4⟩ := ih t y t' hM
        refine ⟨by simp [h1], ?_, by rw [fms_append, h3, g2]; rfl, by rw [dps_append]; omega, fun hl => okVs_append _ _ (h5 hl) (g4 ?_)⟩
        · rw [h2, g1, encs_append]; simp [encs]
        · have : t.length ≤ l.length := by rw [h2]; simp
          omega
theorem sound_12 (d : Nat) (c : UInt8) (t : List UInt8) (x : V) (r : List UInt8) (h3 : c ≠ 3) (h : rdV d (c :: t) = some (x, r)) : Rd1 d (c :: t) x r := by
  by_cases h1 : c = 1
  · subst h1
    rw [rdV_1] at h
    cases hN : rdNum 0 0 t with
    | none => rw [hN] at h; cases h
    | some p =>
      obtain ⟨u, t'⟩ := p
      rw [hN] at h; simp at h
      obtain ⟨rfl, rfl⟩ := h
      obtain ⟨e1, e2⟩ := num_snd hN
      refine ⟨?_, by simp [Go.Proofs.Ytgdbmoggpfpkkaa.fm, ByteArray.toList_eq], by rw [dp_1]; omega, fun _ => ⟨by unfold I64; omega, sgn_I64 u e2, Nat.zero_le _, Nat.zero_le _, trivial⟩⟩
      rw [enc_1, uns_sgn, e1]; simp
  by_cases h2 : c = 2
  · subst h2
    rw [rdV_2] at h
    cases hN : rdLen t with
    | none => rw [hN] at h; cases h
    | some p =>
      obtain ⟨n, t'⟩ := p
      rw [hN] at h; simp at h
      obtain ⟨rfl, rfl⟩ := h
      obtain ⟨e1, e2, e3⟩ := rdLen_snd hN
      have hsz : (⟨(t'.take n).toArray⟩ : ByteArray).size = n := by simp [ByteArray.size]; omega
      refine ⟨?_, by simp [Go.Proofs.Ytgdbmoggpfpkkaa.fm], by rw [dp_2]; omega, fun hl => ⟨by unfold I64; omega, by unfold I64; omega, ?_, Nat.zero_le _, trivial⟩⟩
      · rw [enc_2, hsz, e1]; simp
      · rw [hsz]; simp only [List.length_cons] at hl; rw [e1] at hl; simp at hl; omega
  · rw [rdV_bad d c t h1 h2 h3] at h; cases h
theorem rdV_sound : ∀ (d : Nat) (l : List UInt8) (x : V) (r : List UInt8), rdV d l = some (x, r) → Rd1 d l x r := by
  intro d
  induction d with
  | zero =>
    intro l x r h
    cases l with
    | nil => rw [rdV_nil] at h; cases h
    | cons c t =>
      by_cases h3 : c = 3
      · subst h3; rw [rdV_30] at h; cases h
      · exact sound_12 0 c t x r h3 h
  | succ d ih =>
    intro l x r h
    cases l with
    | nil => rw [rdV_nil] at h; cases h
    | cons c t =>
      by_cases h3 : c = 3
      · subst h3
        rw [rdV_3] at h
        cases hN : rdLen t with
        | none => rw [hN] at h; cases h
        | some p =>
          obtain ⟨n, t'⟩ := p
          rw [hN] at h; simp only at h
          cases hM : rdVs (rdV d) n t' with
          | none => rw [hM] at h; cases h
          | some q =>
            obtain ⟨xs, t''⟩ := q
            rw [hM] at h; simp at h
            obtain ⟨rfl, rfl⟩ := h
            obtain ⟨e1, e2, e3⟩ := rdLen_snd hN
            obtain ⟨g1, g2, g3, g4, g5⟩ := rdVs_sound d ih n t' xs t'' hM
            have hlen : t'.length ≤ (3 :: t).length := by rw [e1]; simp; omega
            refine ⟨?_, by simp [Go.Proofs.Ytgdbmoggpfpkkaa.fm, g3, ByteArray.toList_eq], by rw [dp_3]; omega, fun hl => ⟨by unfold I64; omega, by unfold I64; omega, Nat.zero_le _, by omega, g5 (by omega)⟩⟩
            rw [enc_3, g1, e1, g2]; simp
      · exact sound_12 (d + 1) c t x r h3 h

theorem ck_ok {x : V} (h : ck x = 0) : fm x = true ∧ dp x ≤ 16 := by
  unfold ck at h
  by_cases hf : fm x = true
  · rw [if_pos hf] at h
    refine ⟨hf, ?_⟩
    by_cases h16 : 16 < dp x
    · rw [if_pos h16] at h; cases h
    · omega
  · rw [if_neg hf] at h; cases h
theorem ok_ck {x : V} (h1 : fm x = true) (h2 : dp x ≤ 16) : ck x = 0 := by unfold ck; rw [if_pos h1, if_neg (by omega)]
/-- what is encoded is decoded -/
theorem decF_enc {x : V} (h : ck x = 0) (hok : okV x) : decF (enc x) = some x := by
  obtain ⟨h1, h2⟩ := ck_ok h
  have := rdV_enc 16 x h1 h2 hok []
  rw [List.append_nil] at this
  unfold decF; rw [this]
/-- what is decoded was encoded so -/
theorem decF_sound {l : List UInt8} {x : V} (h : decF l = some x) (hl : l.length ≤ maxLen) : enc x = l ∧ ck x = 0 ∧ okV x ∧ sz x ≤ 13 * l.length := by
  unfold decF at h
  cases hN : rdV 16 l with
  | none => rw [hN] at h; cases h
  | some p =>
    obtain ⟨y, r⟩ := p
    rw [hN] at h
    cases r with
    | cons c r => cases h
    | nil =>
      simp at h; subst h
      obtain ⟨e, f, g, o⟩ := rdV_sound 16 l y [] hN
      rw [List.append_nil] at e
      refine ⟨e.symm, ok_ck f g, o hl, ?_⟩
      rw [e]; exact (enc_len f).1
/-- no encoding begins another -/
theorem enc_prefix {x y : V} (hx : ck x = 0) (hy : ck y = 0) (ox : okV x) (oy : okV y) (r s : List UInt8) (h : enc x ++ r = enc y ++ s) : x = y ∧ r = s := by
  have h1 := rdV_enc 16 x (ck_ok hx).1 (ck_ok hx).2 ox r
  have h2 := rdV_enc 16 y (ck_ok hy).1 (ck_ok hy).2 oy s
  rw [h] at h1
  rw [h1] at h2
  simpa using h2
end Go.Proofs.Ytgdbmoggpfpkkaa
/- Decode, for whoever reads on. -/
namespace Go.Proofs.Ytgdbmoggpfpkkaa
open Go.RowKit
theorem grown_below {w w' : World} (h : w.grownBy w' none) : Below w.heap.size w w' := ⟨h.os, h.tape, h.output, h.size, fun k hk => h.block k hk (by simp)⟩
theorem decode_rd (l : List UInt8) (hl : l.length ≤ 1000000) (v : Value) (w : World) (hb : BtsAt w.heap.size w l v) : Calls Try.prog 36 #[v] w (DecRd (decF l) w) := by
  refine (decode_any w.heap.size l hl v w hb (Nat.le_refl _)).mono ?_
  intro e w' h
  cases ho : decF l with
  | none => rw [ho] at h; exact ⟨h.1, grown_below h.2⟩
  | some x =>
    rw [ho] at h
    obtain ⟨v, rfl, hv, hg⟩ := h
    have hr : RdV w'.heap.size w' x v := hv.rd (B := w'.heap.size) fun k hk => hk.2
    obtain ⟨oa, cap, rfl, _⟩ := hr.form
    exact ⟨oa, cap, rfl, hr, grown_below hg⟩
theorem slV_nil (B : Nat) (w : World) : SlV B w [] (.slice none 0 0) := .inl ⟨rfl, none, 0, rfl⟩
end Go.Proofs.Ytgdbmoggpfpkkaa
/- the reference's Reader: next, number. -/
namespace Go.Proofs.Ytgdbmoggpfpkkaa
open Go.RowKit

/-- the reference's reader in memory: all its bytes, how far it is, whether it has failed -/
structure RefAt (B : Nat) (w : World) (R : Nat) (l : List UInt8) (p : Nat) (bad : Bool) : Prop where
  le : B ≤ R
  fr : ∀ o, w.frozen? ⟨R, o, none⟩ = false
  c0 : ∃ v, w.cell? ⟨R, 0, none⟩ = some v ∧ BtsAt B w l v
  c1 : w.cell? ⟨R, 1, none⟩ = some (.int .i64 (p : Int))
  c2 : w.cell? ⟨R, 2, none⟩ = some (.bool bad)
  hp : p ≤ l.length
theorem RefAt.keep {B R p : Nat} {bad : Bool} {w w' : World} {l : List UInt8} (h : RefAt B w R l p bad) (hs : ∀ k, k ≤ R → w'.heap[k]? = w.heap[k]?) : RefAt B w' R l p bad := by
  obtain ⟨hle, hfr, ⟨v, hv, hb⟩, h1, h2, h3⟩ := h
  have hc : ∀ o, w'.cell? ⟨R, o, none⟩ = w.cell? ⟨R, o, none⟩ := fun o => World.cell?_of_block (w := w) (hs R (Nat.le_refl _))
  exact ⟨hle, fun o => by rw [World.frozen?_of_block (w := w) (hs R (Nat.le_refl _))]; exact hfr o, ⟨v, (hc 0).trans hv, hb.keep (Nat.le_refl _) fun k hk => hs k (by omega)⟩, (hc 1).trans h1, (hc 2).trans h2, h3⟩
theorem RefAt.set1 {B R p q : Nat} {bad : Bool} {w : World} {l : List UInt8} (h : RefAt B w R l p bad) (i : Int) (hi : i = (q : Int)) (hq : q ≤ l.length) : RefAt B (w.setCell ⟨R, 1, none⟩ (.int .i64 i)) R l q bad := by
  subst hi
  obtain ⟨hle, hfr, ⟨v, hv, hb⟩, h1, h2, h3⟩ := h
  refine ⟨hle, fun o => by rw [World.frozen?_setCell]; exact hfr o, ⟨v, ?_, hb.keep (Nat.le_refl _) fun k hk => Below.heap_setCell _ _ _ _ (by show k ≠ R; omega)⟩, World.cell?_setCell_same _ _ _ h1, ?_, hq⟩
  · rw [World.cell?_setCell_other _ _ _ _ (by simp)]; exact hv
  · rw [World.cell?_setCell_other _ _ _ _ (by simp)]; exact h2
theorem RefAt.set2 {B R p : Nat} {bad : Bool} {w : World} {l : List UInt8} (h : RefAt B w R l p bad) (b : Bool) : RefAt B (w.setCell ⟨R, 2, none⟩ (.bool b)) R l p b := by
  obtain ⟨hle, hfr, ⟨v, hv, hb⟩, h1, h2, h3⟩ := h
  refine ⟨hle, fun o => by rw [World.frozen?_setCell]; exact hfr o, ⟨v, ?_, hb.keep (Nat.le_refl _) fun k hk => Below.heap_setCell _ _ _ _ (by show k ≠ R; omega)⟩, ?_, World.cell?_setCell_same _ _ _ h2, h3⟩
  · rw [World.cell?_setCell_other _ _ _ _ (by simp)]; exact hv
  · rw [World.cell?_setCell_other _ _ _ _ (by simp)]; exact h1
theorem RefAt.drewN {B R p : Nat} {bad : Bool} {w : World} {l : List UInt8} (h : RefAt B w R l p bad) (n : Nat) : RefAt B (w.drewN n) R l p bad := h.keep fun _ _ => rfl
def NextPost (B R : Nat) (l : List UInt8) (x : Int) (q : Nat) (bad : Bool) (w : World) (e : Ending) (w' : World) : Prop := e = .returned (.int .u8 x) ∧ RefAt B w' R l q bad ∧ w.grownBy w' (some R)
set_option maxRecDepth 100000 in
set_option maxHeartbeats 1000000 in
theorem next_end (B R p : Nat) (bad : Bool) (l : List UInt8) (hl : l.length ≤ 1000000) (w : World) (h : RefAt B w R l p bad) (hp : l.length ≤ p) :
    Calls Try.prog 83 #[.pointer (some ⟨R, 0, none⟩)] w (NextPost B R l 0 p true w) := by
  have H := Lib.hid h
  obtain ⟨_, hfr, ⟨v, hv, hb⟩, h1, h2, h3⟩ := h
  obtain ⟨oa, cap, rfl, _, _⟩ := hb.form
  have f2 := hfr 2
  clear hb hfr
  have hge : (l.length : Int) ≤ (p : Int) := by omega
  have hpi : (p : Int) ≤ 1000000 := by omega
  go_enter Try.func83, Try.ntmps83
  go_wp2
  go_quiet (fail)
  go_wp2
  go_ret
  exact ⟨rfl, (H.out.drewN _).set2 true, grown_setR (grown_drewN _ _ _)⟩
set_option maxRecDepth 100000 in
set_option maxHeartbeats 1000000 in
theorem next_some (B R p : Nat) (bad : Bool) (c : UInt8) (l : List UInt8) (hl : l.length ≤ 1000000) (w : World) (h : RefAt B w R l p bad) (hp : l[p]? = some c) :
    Calls Try.prog 83 #[.pointer (some ⟨R, 0, none⟩)] w (NextPost B R l (c.toNat : Int) (p + 1) bad w) := by
  have H := Lib.hid h
  have hlt : p < l.length := (List.getElem?_eq_some_iff.1 hp).1
  obtain ⟨hle, hfr, ⟨v, hv, hb⟩, h1, h2, h3⟩ := h
  rcases hb with ⟨rfl, _⟩ | ⟨_, b, off, cap, rfl, hc1, hc2, hbB, hcell⟩
  · simp at hlt
  have hc := hcell p c hp
  have f1 := hfr 1
  have hbR : R ≠ b := by omega
  clear hcell hfr hp
  have hpl : (p : Int) < (l.length : Int) := by omega
  have hpi : (p : Int) ≤ 1000000 := by omega
  go_enter Try.func83, Try.ntmps83
  go_wp2
  go_quiet (fail)
  go_wp2
  go_quiet (fail)
  go_wp2
  go_ret
  exact ⟨rfl, ((H.out.drewN _).set1 _ (by omega) (by omega)).drewN _, grown_drewN' (grown_setR (grown_drewN _ _ _)) _⟩

/-- a numeral that the reference has read -/
def NumbPost (B R : Nat) (l : List UInt8) (o : Option (Nat × List UInt8)) (w : World) (e : Ending) (w' : World) : Prop :=
  match o with
  | some (n, r) => e = .returned (.int .u64 (n : Int)) ∧ ∃ q, l.drop q = r ∧ RefAt B w' R l q false ∧ w.grownBy w' (some R)
  | none => e = .returned (.int .u64 0) ∧ ∃ q, RefAt B w' R l q true ∧ w.grownBy w' (some R)
def RNumRel (B R : Nat) (l s : List UInt8) (w : World) (i u : Value) (wr : World) : Prop :=
  ∃ (k x q : Nat), i = .int .i64 k ∧ u = .int .u64 x ∧ k ≤ 9 ∧ x < 2 ^ (7 * k) ∧ rdNum 0 0 s = rdNum k x (l.drop q) ∧ RefAt B wr R l q false ∧ w.grownBy wr (some R)
theorem num_add (x k : Nat) (c : UInt8) (hk : k ≤ 9) (hx : x < 2 ^ (7 * k)) (hc : k = 9 → c.toNat ≤ 1) :
    IntKind.u64.wrap ((x : Int) + IntKind.u64.wrap ((c.toNat : Int) % 128 * 2 ^ (7 * k))) = ((x + c.toNat % 128 * 2 ^ (7 * k) : Nat) : Int) := by
  have hm : c.toNat % 128 < 128 := Nat.mod_lt _ (by decide)
  have hb : x + c.toNat % 128 * 2 ^ (7 * k) < 18446744073709551616 := by
    by_cases h9 : k = 9
    · subst h9; have := hc rfl; simp at hx ⊢; omega
    · have h2 : (2 : Nat) ^ (7 * k) ≤ 2 ^ 56 := Nat.pow_le_pow_right (by decide) (by omega)
      have h3 : c.toNat % 128 * 2 ^ (7 * k) ≤ 127 * 2 ^ 56 := Nat.mul_le_mul (by omega) h2
      omega
  have e2 : (c.toNat : Int) % 128 * 2 ^ (7 * k) = ((c.toNat % 128 * 2 ^ (7 * k) : Nat) : Int) := by push_cast; rfl
  rw [e2, Go.Proofs.Mul64.wrapN _ (by omega), Go.Proofs.Mul64.addN, Go.Proofs.Mul64.wrapN _ hb]
theorem drop_nil {l : List UInt8} {q : Nat} (h : l.length ≤ q) : l.drop q = [] := List.drop_of_length_le h
theorem drop_cons {l : List UInt8} {q : Nat} (h : q < l.length) : l.drop q = l[q] :: l.drop (q + 1) := List.drop_eq_getElem_cons h

set_option maxRecDepth 100000 in
set_option maxHeartbeats 1000000 in
theorem rnumber_any (B R p : Nat) (l : List UInt8) (hl : l.length ≤ 1000000) (w : World) (h : RefAt B w R l p false) :
    Calls Try.prog 84 #[.pointer (some ⟨R, 0, none⟩)] w (NumbPost B R l (rdNum 0 0 (l.drop p)) w) := by
  have H := Lib.hid h; clear h
  go_enter Try.func84, Try.ntmps84
  go_wp2
  go_loopw [3, 4] (fun u i wr => RNumRel B R l (l.drop p) w i u wr) (fun _ i _ => 10 - (intOf i).toNat)
  case atStart => exact ⟨0, 0, p, rfl, rfl, by omega, by simp, rfl, H.out, grown_refl _ _⟩
  case round =>
    obtain ⟨k, x, q, rfl, rfl, hk, hx, heq, hrd, hg⟩ := hrel
    have Heq := Lib.hid heq; have Hx := Lib.hid hx; have HRd := Lib.hid hrd
    have c2 := hrd.c2
    clear heq hx hrd
    by_cases hq : q < l.length
    case neg =>
      have hn : Hid (rdNum 0 0 (l.drop p) = none) := by show _ = _; rw [Heq.out, drop_nil (by omega), rdNum]
      by_cases hk0 : k = 0
      · subst hk0
        have hx0 : x = 0 := by have := Hx.out; simpa using this
        subst hx0
        go_wp2_with (go_at_call 83; refine (next_end B R q false l hl _ HRd.out (by omega)).mono ?_; rintro e w' ⟨rfl, hr', hg'⟩)
        go_ret
        rw [hn.out]
        exact ⟨rfl, q, hr', grown_trans hg hg' (.inl rfl)⟩
      · have hk1 : (0 : Int) < (k : Int) := by omega
        go_wp2_with (go_at_call 83; refine (next_end B R q false l hl _ HRd.out (by omega)).mono ?_; rintro e w' ⟨rfl, hr', hg'⟩; have HR' := Lib.hid hr'; have f2 := hr'.fr 2; have d2 := hr'.c2; clear hr')
        all_goals
          go_ret
          rw [hn.out]
          exact ⟨rfl, q, HR'.out.set2 true, grown_setR (grown_trans hg hg' (.inl rfl))⟩
    case pos =>
      obtain ⟨c, hcq⟩ : ∃ c, l[q]? = some c := ⟨_, List.getElem?_eq_getElem hq⟩
      have hdr : l.drop q = c :: l.drop (q + 1) := by
        rw [drop_cons hq]; congr 1
        have := List.getElem?_eq_getElem hq; rw [hcq] at this; injection this with this; exact this.symm
      have Hcq := Lib.hid hcq
      have Heq2 : Hid (rdNum 0 0 (l.drop p) = rdNum k x (c :: l.drop (q + 1))) := by show _ = _; rw [Heq.out, hdr]
      clear hcq hdr Heq
      obtain ⟨b0, e0⟩ : ∃ b, ((k : Int) == 9) = b := ⟨_, rfl⟩
      obtain ⟨b1, e1⟩ : ∃ b, decide ((1 : Int) < (c.toNat : Int)) = b := ⟨_, rfl⟩
      obtain ⟨b2, e2⟩ : ∃ b, decide (0 < k) = b := ⟨_, rfl⟩
      obtain ⟨b3, e3⟩ : ∃ b, ((c.toNat : Int) == 0) = b := ⟨_, rfl⟩
      obtain ⟨b4, e4⟩ : ∃ b, decide ((c.toNat : Int) < 128) = b := ⟨_, rfl⟩
      have E := Lib.hid (And.intro e0 (And.intro e1 (And.intro e2 (And.intro e3 e4))))
      have hcond : Hid (((b0 && b1) || (b2 && b3)) = false ↔ ((k = 0 ∨ c.toNat ≠ 0) ∧ (k < 9 ∨ c.toNat ≤ 1))) := by
        show _ ↔ _
        rw [← e0, ← e1, ← e2, ← e3]
        simp; omega
      by_cases hgood : ((b0 && b1) || (b2 && b3)) = false
      case neg =>
        have hn : Hid (rdNum 0 0 (l.drop p) = none) := by show _ = _; rw [Heq2.out]; exact rdNum_bad fun h => hgood (hcond.out.2 h)
        have hgf : ((b0 && b1) || (b2 && b3)) = true := eq_true_of_ne_false hgood
        clear hgood hcond
        have HG := Lib.hid hgf; clear hgf
        cases b0 <;> cases b1 <;> cases b2 <;> cases b3
        all_goals first | (exfalso; exact absurd HG.out (by decide)) | skip
        all_goals
          go_wp2_with (go_at_call 83; refine (next_some B R q false c l hl _ HRd.out Hcq.out).mono ?_; rintro e w' ⟨rfl, hr', hg'⟩; have HR' := Lib.hid hr'; have f2 := hr'.fr 2; have d2 := hr'.c2; clear hr')
        all_goals
          go_ret
          rw [hn.out]
          exact ⟨rfl, q + 1, HR'.out.set2 true, grown_setR (grown_trans hg hg' (.inl rfl))⟩
      case pos =>
        have hgd := hcond.out.1 hgood
        have HGD := Lib.hid hgd
        have HG := Lib.hid hgood; clear hgood hgd hcond
        cases b4
        · have hc128 : Hid (¬ c.toNat < 128) := by have := E.out.2.2.2.2; simp at this; show ¬ _; omega
          have hk9 : k < 9 := by
            have h1 := HGD.out.2; have h2 := hc128.out; omega
          have hor := Lib.hid (num_add x k c hk Hx.out (by omega))
          have hon := Lib.hid (rdNum_on (x := x) (r := l.drop (q + 1)) HGD.out hc128.out)
          cases b0 <;> cases b1 <;> cases b2 <;> cases b3
          all_goals first | (exfalso; exact absurd HG.out (by decide)) | skip
          all_goals
            go_wp2_with (go_at_call 83; refine (next_some B R q false c l hl _ HRd.out Hcq.out).mono ?_; rintro e w' ⟨rfl, hr', hg'⟩; have HR' := Lib.hid hr'; have f2 := hr'.fr 2; have d2 := hr'.c2; clear hr')
            go_roundw
            case rel =>
              refine ⟨k + 1, x + c.toNat % 128 * 2 ^ (7 * k), q + 1, by go_num, by rw [hor.out], by omega, ?_, by rw [Heq2.out, hon.out], HR'.out, grown_trans hg hg' (.inl rfl)⟩
              have h1 : c.toNat % 128 * 2 ^ (7 * k) ≤ 127 * 2 ^ (7 * k) := Nat.mul_le_mul_right _ (by omega)
              have h2 : (2 : Nat) ^ (7 * (k + 1)) = 128 * 2 ^ (7 * k) := by rw [show 7 * (k + 1) = 7 + 7 * k from by omega, Nat.pow_add]
              have h3 := Hx.out
              omega
            case measure => simp [intOf]; omega
        · have hc128 : Hid (c.toNat < 128) := by have := E.out.2.2.2.2; simp at this; show _ < _; omega
          have hor := Lib.hid (num_add x k c hk Hx.out (fun h => by have := HGD.out.2; omega))
          have hen := Lib.hid (rdNum_end (x := x) (r := l.drop (q + 1)) HGD.out hc128.out)
          cases b0 <;> cases b1 <;> cases b2 <;> cases b3
          all_goals first | (exfalso; exact absurd HG.out (by decide)) | skip
          all_goals
            go_wp2_with (go_at_call 83; refine (next_some B R q false c l hl _ HRd.out Hcq.out).mono ?_; rintro e w' ⟨rfl, hr', hg'⟩; have HR' := Lib.hid hr'; have f2 := hr'.fr 2; have d2 := hr'.c2; clear hr')
            go_ret
            rw [Heq2.out, hen.out]
            exact ⟨by rw [← hor.out]; rfl, q + 1, rfl, HR'.out, grown_trans hg hg' (.inl rfl)⟩
end Go.Proofs.Ytgdbmoggpfpkkaa
/- the reference's Reader: Value, where no list is read. -/
namespace Go.Proofs.Ytgdbmoggpfpkkaa
open Go.RowKit

theorem RefAt.setT {B R p T i : Nat} {bad : Bool} {w : World} {l : List UInt8} {v : Value} (h : RefAt B w R l p bad) (hT : R < T) : RefAt B (w.setCell ⟨T, i, none⟩ v) R l p bad :=
  h.keep fun k hk => Below.heap_setCell _ _ _ _ (by show k ≠ T; omega)
theorem RefAt.alloc {B R p : Nat} {bad : Bool} {w : World} {l : List UInt8} (h : RefAt B w R l p bad) (hR : R < w.heap.size) (o : Obj) : RefAt B (w.alloc o) R l p bad :=
  h.keep fun k hk => Below.heap_alloc w o k (by omega)
def RValPost (B R : Nat) (l : List UInt8) (o : Option (V × List UInt8)) (w : World) (e : Ending) (w' : World) : Prop :=
  ∃ x v q bad, e = .returned v ∧ RdVD (fun k => w.heap.size ≤ k ∧ k < w'.heap.size) w' x v ∧ RefAt B w' R l q bad ∧ w.grownBy w' (some R) ∧
    (match o with | some (y, r) => x = y ∧ bad = false ∧ l.drop q = r | none => bad = true)
def RValSaid (d : Nat) : Prop := ∀ (B R p : Nat) (l : List UInt8) (di : Int) (_ : di = 16 - (d : Int)) (_ : l.length ≤ 1000000) (w : World) (_ : RefAt B w R l p false) (_ : R < w.heap.size),
  Calls Try.prog 61 #[.pointer (some ⟨R, 0, none⟩), .int .i64 di] w (RValPost B R l (rdV d (l.drop p)) w)
theorem rdVD_nil (D : Nat → Prop) (w : World) (k n : Int) (s : ByteArray) (h1 : I64 k) (h2 : I64 n) (h3 : s.size ≤ maxLen) : RdVD D w (.mk k n s []) (.agg #[.int .i64 k, .int .i64 n, .string s, .slice none 0 0]) :=
  ⟨h1, h2, h3, _, rfl, .inl ⟨rfl, none, 0, rfl⟩⟩
theorem I64_0 : I64 0 := by unfold I64; omega
/-- Value returns the zero value, and the reader has failed -/
theorem rval_zero {B R q : Nat} {l : List UInt8} {o : Option (V × List UInt8)} {w w' : World} (ho : o = none) (hr : RefAt B w' R l q true) (hg : w.grownBy w' (some R)) :
    RValPost B R l o w (.returned (.agg #[.int .i64 0, .int .i64 0, .string ⟨#[]⟩, .slice none 0 0])) w' := by
  subst ho
  exact ⟨.mk 0 0 ⟨#[]⟩ [], _, q, true, rfl, rdVD_nil _ _ _ _ _ I64_0 I64_0 (Nat.zero_le _), hr, hg, rfl⟩

set_option maxRecDepth 100000 in
set_option maxHeartbeats 1000000 in
theorem rvalue_end (d : Nat) (B R p : Nat) (l : List UInt8) (di : Int) (hl : l.length ≤ 1000000) (w : World) (h : RefAt B w R l p false) (hRw : R < w.heap.size) (hp : l.length ≤ p) :
    Calls Try.prog 61 #[.pointer (some ⟨R, 0, none⟩), .int .i64 di] w (RValPost B R l (rdV d (l.drop p)) w) := by
  have H := Lib.hid h; clear h
  have hn : Hid (rdV d (l.drop p) = none) := by show _ = _; rw [drop_nil hp, rdV_nil]
  go_enter Try.func61, Try.ntmps61
  go_wp2_with fail
  refine (next_end B R p false l hl _ (H.out.alloc hRw _) hp).mono ?_
  rintro e w1 ⟨rfl, hr1, hg1⟩
  have hbx := (BoxAt.made w 57 (.int .i64 0) (.int .i64 0) (.string ⟨#[]⟩) (.slice none 0 0)).grown hg1 (by omega)
  obtain ⟨x0, x1, x2, x3, xf⟩ := hbx
  have hgw : w.grownBy w1 (some R) := grown_trans (grown_alloc (grown_refl w _) _) hg1 (.inl rfl)
  have f2 := hr1.fr 2; have r2 := hr1.c2
  have hRT : R ≠ w.heap.size := by omega
  have HR1 := Lib.hid (hr1.set2 true)
  clear hr1 hg1
  go_wp2
  refine bodyPost_ret (v := .agg #[.int .i64 0, .int .i64 0, .string ⟨#[]⟩, .slice none 0 0]) (by simp [results, Try.results61, go_sem, x0, x1, x2, x3]) rfl ?_
  exact rval_zero (q := p) hn.out (by repeat (first | exact HR1.out | refine RefAt.setT ?_ hRw)) (by repeat (first | exact grown_setR hgw | refine grown_set_new ?_ (Nat.le_refl _)))

/-- what is known where Value begins to look at the first byte -/
structure RHead (B R p : Nat) (l : List UInt8) (w w1 : World) : Prop where
  bx : BoxAt w1 w.heap.size (.int .i64 0) (.int .i64 0) (.string ⟨#[]⟩) (.slice none 0 0)
  gw : w.grownBy w1 (some R)
  rd : RefAt B w1 R l (p + 1) false
theorem rhead (B R p : Nat) (c : UInt8) (l : List UInt8) (hl : l.length ≤ 1000000) (w : World) (h : RefAt B w R l p false) (hRw : R < w.heap.size) (hp : l[p]? = some c) :
    Calls Try.prog 83 #[.pointer (some ⟨R, 0, none⟩)] (w.alloc (.cells #[.int .i64 0, .int .i64 0, .string ⟨#[]⟩, .slice none 0 0] 57)) fun e w1 => e = .returned (.int .u8 (c.toNat : Int)) ∧ RHead B R p l w w1 := by
  refine (next_some B R p false c l hl _ (h.alloc hRw _) hp).mono ?_
  rintro e w1 ⟨rfl, hr1, hg1⟩
  exact ⟨rfl, (BoxAt.made w 57 (.int .i64 0) (.int .i64 0) (.string ⟨#[]⟩) (.slice none 0 0)).grown hg1 (by omega), grown_trans (grown_alloc (grown_refl w _) _) hg1 (.inl rfl), hr1⟩
theorem drop_at {l : List UInt8} {p : Nat} {c : UInt8} (hp : l[p]? = some c) : l.drop p = c :: l.drop (p + 1) := by
  have hlt := (List.getElem?_eq_some_iff.1 hp)
  obtain ⟨h1, h2⟩ := hlt
  rw [drop_cons h1, h2]

set_option maxRecDepth 100000 in
set_option maxHeartbeats 1000000 in
theorem rvalue_0 (d : Nat) (B R p : Nat) (c : UInt8) (l : List UInt8) (di : Int) (hl : l.length ≤ 1000000) (w : World) (h : RefAt B w R l p false) (hRw : R < w.heap.size) (hp : l[p]? = some c) (h1 : c ≠ 1) (h2 : c ≠ 2) (h3 : c ≠ 3) :
    Calls Try.prog 61 #[.pointer (some ⟨R, 0, none⟩), .int .i64 di] w (RValPost B R l (rdV d (l.drop p)) w) := by
  have H := Lib.hid h; clear h
  have hn : Hid (rdV d (l.drop p) = none) := by show _ = _; rw [drop_at hp, rdV_bad d c _ h1 h2 h3]
  have n1 : ((c.toNat : Int) == 1) = false := by rw [beq_eq_false_iff_ne]; intro h; exact h1 (UInt8.toNat_inj.1 (by simpa using (by omega : c.toNat = 1)))
  have n2 : ((c.toNat : Int) == 2) = false := by rw [beq_eq_false_iff_ne]; intro h; exact h2 (UInt8.toNat_inj.1 (by simpa using (by omega : c.toNat = 2)))
  have n3 : ((c.toNat : Int) == 3) = false := by rw [beq_eq_false_iff_ne]; intro h; exact h3 (UInt8.toNat_inj.1 (by simpa using (by omega : c.toNat = 3)))
  have Hp := Lib.hid hp
  clear h1 h2 h3 hp
  go_enter Try.func61, Try.ntmps61
  go_wp2_with fail
  refine (rhead B R p c l hl w H.out hRw Hp.out).mono ?_
  rintro e w1 ⟨rfl, hh⟩
  obtain ⟨⟨x0, x1, x2, x3, xf⟩, hgw, hr1⟩ := hh
  have f2 := hr1.fr 2; have r2 := hr1.c2
  have hRT : R ≠ w.heap.size := by omega
  have HR1 := Lib.hid (hr1.set2 true)
  clear hr1
  go_wp2
  refine bodyPost_ret (v := .agg #[.int .i64 0, .int .i64 0, .string ⟨#[]⟩, .slice none 0 0]) (by simp [results, Try.results61, go_sem, x0, x1, x2, x3]) rfl ?_
  exact rval_zero (q := p + 1) hn.out (by repeat (first | exact HR1.out | refine RefAt.setT ?_ hRw)) (by repeat (first | exact grown_setR hgw | refine grown_set_new ?_ (Nat.le_refl _)))

theorem rval_int {B R q : Nat} {bad : Bool} {l : List UInt8} {o : Option (V × List UInt8)} {w w' : World} (n : Int) (hn : I64 n) (hr : RefAt B w' R l q bad) (hg : w.grownBy w' (some R))
    (ho : match o with | some (y, r) => V.mk 1 n ⟨#[]⟩ [] = y ∧ bad = false ∧ l.drop q = r | none => bad = true) :
    RValPost B R l o w (.returned (.agg #[.int .i64 1, .int .i64 n, .string ⟨#[]⟩, .slice none 0 0])) w' :=
  ⟨.mk 1 n ⟨#[]⟩ [], _, q, bad, rfl, rdVD_nil _ _ _ _ _ (by unfold I64; omega) hn (Nat.zero_le _), hr, hg, ho⟩
theorem RHead.num {B R p : Nat} {l : List UInt8} {w w1 w2 : World} (h : RHead B R p l w w1) (hRw : R < w.heap.size) (hg : w1.grownBy w2 (some R)) :
    BoxAt w2 w.heap.size (.int .i64 0) (.int .i64 0) (.string ⟨#[]⟩) (.slice none 0 0) ∧ w.grownBy w2 (some R) :=
  ⟨h.bx.grown hg (by omega), grown_trans h.gw hg (.inl rfl)⟩
set_option maxRecDepth 100000 in
set_option maxHeartbeats 1000000 in
theorem rvalue_1 (d : Nat) (B R p : Nat) (l : List UInt8) (di : Int) (hl : l.length ≤ 1000000) (w : World) (h : RefAt B w R l p false) (hRw : R < w.heap.size) (hp : l[p]? = some 1) :
    Calls Try.prog 61 #[.pointer (some ⟨R, 0, none⟩), .int .i64 di] w (RValPost B R l (rdV d (l.drop p)) w) := by
  have H := Lib.hid h; clear h
  have Hp := Lib.hid hp; clear hp
  have hv := Lib.hid (rdV_1 d (l.drop (p + 1)))
  cases hN : rdNum 0 0 (l.drop (p + 1)) with
  | none =>
    have hn : Hid (rdV d (l.drop p) = none) := by show _ = _; rw [drop_at Hp.out, hv.out, hN]
    have HN := Lib.hid hN; clear hN
    go_enter Try.func61, Try.ntmps61
    go_wp2_with fail
    refine (rhead B R p 1 l hl w H.out hRw Hp.out).mono ?_
    rintro e w1 ⟨rfl, hh⟩
    go_wp2_with fail
    refine (rnumber_any B R (p + 1) l hl _ hh.rd).mono ?_
    rw [HN.out]
    rintro e w2 ⟨rfl, q, hr2, hg2⟩
    obtain ⟨⟨x0, x1, x2, x3, xf⟩, hgw⟩ := hh.num hRw hg2
    have HH := Lib.hid hh; have HR2 := Lib.hid hr2
    clear hh hr2 hg2
    go_wp2
    refine bodyPost_ret (v := .agg #[.int .i64 1, .int .i64 0, .string ⟨#[]⟩, .slice none 0 0]) (by simp [results, Try.results61, go_sem, x0, x1, x2, x3]) rfl ?_
    exact rval_int (q := q) (bad := true) 0 I64_0 (by repeat (first | exact HR2.out | refine RefAt.setT ?_ hRw)) (by repeat (first | exact hgw | refine grown_set_new ?_ (Nat.le_refl _))) (by rw [hn.out])
  | some pr =>
    obtain ⟨u, r'⟩ := pr
    have hn : Hid (rdV d (l.drop p) = some (.mk 1 (sgn u) ⟨#[]⟩ [], r')) := by show _ = _; rw [drop_at Hp.out, hv.out, hN]
    have hu64 := Lib.hid (rdNum_lt _ 0 0 u r' (by decide) (by simp) hN)
    have hI := Lib.hid (sgn_I64 u hu64.out)
    have HN := Lib.hid hN; clear hN
    go_enter Try.func61, Try.ntmps61
    go_wp2_with fail
    refine (rhead B R p 1 l hl w H.out hRw Hp.out).mono ?_
    rintro e w1 ⟨rfl, hh⟩
    go_wp2_with fail
    refine (rnumber_any B R (p + 1) l hl _ hh.rd).mono ?_
    rw [HN.out]
    rintro e w2 ⟨rfl, q, hq, hr2, hg2⟩
    obtain ⟨⟨x0, x1, x2, x3, xf⟩, hgw⟩ := hh.num hRw hg2
    have HH := Lib.hid hh; have HR2 := Lib.hid hr2; have Hq := Lib.hid hq
    clear hh hr2 hg2 hq
    obtain ⟨m, hm⟩ : ∃ m, u / 2 = m := ⟨_, rfl⟩
    have hml : m < 9223372036854775808 := by have := hu64.out; omega
    have e2 : IntKind.u64.wrap ((u : Int) / 2) = (m : Int) := by rw [IntKind.wrap_u64]; omega
    have e3 : wrap64 (m : Int) = (m : Int) := by unfold wrap64; omega
    by_cases hpar : u % 2 = 1
    · have e1 : ((u : Int) % 2 == 1) = true := by rw [beq_iff_eq]; omega
      have e4 : wrap64 (-(m : Int)) = -(m : Int) := by unfold wrap64; omega
      obtain ⟨z, hz⟩ : ∃ z, sgn u = z := ⟨_, rfl⟩
      have e5 : wrap64 (-(m : Int) - 1) = z := by rw [← hz]; unfold wrap64 sgn; rw [if_neg (by omega)]; omega
      rw [hz] at hI hn
      clear hpar hm hml hz
      go_wp2
      refine bodyPost_ret (v := .agg #[.int .i64 1, .int .i64 z, .string ⟨#[]⟩, .slice none 0 0]) (by simp [results, Try.results61, go_sem, x0, x1, x2, x3]) rfl ?_
      exact rval_int (q := q) (bad := false) z hI.out (by repeat (first | exact HR2.out | refine RefAt.setT ?_ hRw)) (by repeat (first | exact hgw | refine grown_set_new ?_ (Nat.le_refl _))) (by rw [hn.out]; exact ⟨rfl, rfl, Hq.out⟩)
    · have e1 : ((u : Int) % 2 == 1) = false := by rw [beq_eq_false_iff_ne]; omega
      have hz : sgn u = (m : Int) := by unfold sgn; rw [if_pos (by omega), hm]
      rw [hz] at hI hn
      clear hpar hm hml hz
      go_wp2
      refine bodyPost_ret (v := .agg #[.int .i64 1, .int .i64 m, .string ⟨#[]⟩, .slice none 0 0]) (by simp [results, Try.results61, go_sem, x0, x1, x2, x3]) rfl ?_
      exact rval_int (q := q) (bad := false) m hI.out (by repeat (first | exact HR2.out | refine RefAt.setT ?_ hRw)) (by repeat (first | exact hgw | refine grown_set_new ?_ (Nat.le_refl _))) (by rw [hn.out]; exact ⟨rfl, rfl, Hq.out⟩)
end Go.Proofs.Ytgdbmoggpfpkkaa
/- the reference's Reader: Value, texts. -/
namespace Go.Proofs.Ytgdbmoggpfpkkaa
open Go.RowKit

set_option maxRecDepth 100000 in
set_option maxHeartbeats 4000000 in
theorem rvalue_2n (d : Nat) (B R p : Nat) (l : List UInt8) (di : Int) (hl : l.length ≤ 1000000) (w : World) (h : RefAt B w R l p false) (hRw : R < w.heap.size) (hp : l[p]? = some 2) (hN : rdNum 0 0 (l.drop (p + 1)) = none) :
    Calls Try.prog 61 #[.pointer (some ⟨R, 0, none⟩), .int .i64 di] w (RValPost B R l (rdV d (l.drop p)) w) := by
  have H := Lib.hid h; clear h
  have Hp := Lib.hid hp; clear hp
  have hv := Lib.hid (rdV_2 d (l.drop (p + 1)))
  have hn : Hid (rdV d (l.drop p) = none) := by show _ = _; rw [drop_at Hp.out, hv.out]; unfold rdLen; rw [hN]
  have HN := Lib.hid hN; clear hN
  go_enter Try.func61, Try.ntmps61
  go_wp2_with fail
  refine (rhead B R p 2 l hl w H.out hRw Hp.out).mono ?_
  rintro e w1 ⟨rfl, hh⟩
  go_wp2_with fail
  refine (rnumber_any B R (p + 1) l hl _ hh.rd).mono ?_
  rw [HN.out]
  rintro e w2 ⟨rfl, q, hr2, hg2⟩
  obtain ⟨⟨x0, x1, x2, x3, xf⟩, hgw⟩ := hh.num hRw hg2
  have f2 := hr2.fr 2; have r2 := hr2.c2
  have hRT : R ≠ w.heap.size := by omega
  have HH := Lib.hid hh; have HR2 := Lib.hid hr2
  clear hh hr2 hg2
  go_wp2
  go_quiet (fail)
  go_wp2
  refine bodyPost_ret (v := .agg #[.int .i64 0, .int .i64 0, .string ⟨#[]⟩, .slice none 0 0]) (by simp [results, Try.results61, go_sem, x0, x1, x2, x3]) rfl ?_
  exact rval_zero (q := q) hn.out (by repeat (first | exact (HR2.out.drewN _).set2 true | refine RefAt.setT ?_ hRw)) (by repeat (first | exact grown_setR (grown_drewN' hgw _) | refine grown_set_new ?_ (Nat.le_refl _)))
set_option maxRecDepth 100000 in
set_option maxHeartbeats 4000000 in
theorem rvalue_2l (d : Nat) (B R p : Nat) (l : List UInt8) (di : Int) (hl : l.length ≤ 1000000) (w : World) (h : RefAt B w R l p false) (hRw : R < w.heap.size) (hp : l[p]? = some 2) (n : Nat) (r' : List UInt8) (hN : rdNum 0 0 (l.drop (p + 1)) = some (n, r')) (hnr : ¬ n ≤ r'.length) :
    Calls Try.prog 61 #[.pointer (some ⟨R, 0, none⟩), .int .i64 di] w (RValPost B R l (rdV d (l.drop p)) w) := by
  have H := Lib.hid h; clear h
  have Hp := Lib.hid hp; clear hp
  have hv := Lib.hid (rdV_2 d (l.drop (p + 1)))
  have hn64 := Lib.hid (rdNum_lt _ 0 0 n r' (by decide) (by simp) hN)
  have hlr := rdNum_len _ 0 0 _ _ hN
  have hlp : (l.drop (p + 1)).length ≤ 1000000 := by simp; omega
  have HN := Lib.hid hN; clear hN
  have hn : Hid (rdV d (l.drop p) = none) := by show _ = _; rw [drop_at Hp.out, hv.out]; unfold rdLen; rw [HN.out]; simp only; rw [if_neg hnr]
  have Hnr := Lib.hid hnr
  have Hlr := Lib.hid hlr; have Hlp := Lib.hid hlp
  clear hnr hlr hlp
  go_enter Try.func61, Try.ntmps61
  go_wp2_with fail
  refine (rhead B R p 2 l hl w H.out hRw Hp.out).mono ?_
  rintro e w1 ⟨rfl, hh⟩
  go_wp2_with fail
  refine (rnumber_any B R (p + 1) l hl _ hh.rd).mono ?_
  rw [HN.out]
  rintro e w2 ⟨rfl, q, hq, hr2, hg2⟩
  obtain ⟨⟨x0, x1, x2, x3, xf⟩, hgw⟩ := hh.num hRw hg2
  have f2 := hr2.fr 2; have r2 := hr2.c2; have r1 := hr2.c1
  obtain ⟨v, r0, hb⟩ := hr2.c0
  obtain ⟨oa, cap, rfl, _, _⟩ := hb.form
  have hRT : R ≠ w.heap.size := by omega
  have hql := hr2.hp
  have hm : l.length - q = r'.length := by rw [← hq]; simp
  obtain ⟨m, hmm⟩ : ∃ m, r'.length = m := ⟨_, rfl⟩
  have e1 : wrap64 ((l.length : Int) - (q : Int)) = (m : Int) := by unfold wrap64; omega
  have e2 : IntKind.u64.wrap (m : Int) = (m : Int) := by rw [IntKind.wrap_u64]; omega
  have t1 : decide (m < n) = true := decide_eq_true (by have := Hnr.out; omega)
  have HH := Lib.hid hh; have HR2 := Lib.hid hr2
  clear hh hr2 hg2 hb hq hm hmm hql
  go_wp2
  go_quiet (fail)
  go_wp2
  refine bodyPost_ret (v := .agg #[.int .i64 0, .int .i64 0, .string ⟨#[]⟩, .slice none 0 0]) (by simp [results, Try.results61, go_sem, x0, x1, x2, x3]) rfl ?_
  exact rval_zero (q := q) hn.out (by repeat (first | exact (HR2.out.drewN _).set2 true | refine RefAt.setT ?_ hRw)) (by repeat (first | exact grown_setR (grown_drewN' hgw _) | refine grown_set_new ?_ (Nat.le_refl _)))
end Go.Proofs.Ytgdbmoggpfpkkaa
/- the reference's Reader: Value, texts that fit. -/
namespace Go.Proofs.Ytgdbmoggpfpkkaa
open Go.RowKit

/-- the numbers of a text that is read: l bytes, n of them from q on -/
structure TxtNums (L q n m z : Nat) : Prop where
  e1 : wrap64 ((L : Int) - (q : Int)) = (m : Int)
  e2 : IntKind.u64.wrap (m : Int) = (m : Int)
  e3 : wrap64 (n : Int) = (n : Int)
  e4 : wrap64 ((q : Int) + (n : Int)) = (z : Int)
  e5 : wrap64 ((z : Int) - (n : Int)) = (q : Int)
  t1 : decide (m < n) = false
  zl : z ≤ L
  qz : q ≤ z
theorem txtNums {L q n m z : Nat} (h1 : L - q = m) (h2 : q ≤ L) (h3 : L ≤ 1000000) (h4 : n ≤ m) (h5 : q + n = z) : TxtNums L q n m z :=
  ⟨by unfold wrap64; omega, by rw [IntKind.wrap_u64]; omega, by unfold wrap64; omega, by unfold wrap64; omega, by unfold wrap64; omega, decide_eq_false (by omega), by omega, by omega⟩

theorem txt_slice {B b off cap q n z : Nat} {w : World} {l : List UInt8} (hc1 : l.length ≤ cap) (hc2 : cap ≤ maxLen) (hbB : b < B) (hcell : ∀ j c, l[j]? = some c → w.cell? ⟨b, off + j, none⟩ = some (.int .u8 (c.toNat : Int)))
    (hqz : q + n = z) (hzl : z ≤ l.length) : BtsAt B w ((l.drop q).take n) (sliced (some ⟨b, off, none⟩) q z cap 1) := by
  have hlen : ((l.drop q).take n).length = n := by simp; omega
  unfold sliced
  by_cases h : cap = q
  · have h0 : n = 0 := by omega
    rw [if_pos h]
    subst h0
    exact .inl ⟨by simp, _, cap - q, by rw [show z - q = 0 from by omega], by omega⟩
  · rw [if_neg h]
    have ha : (⟨b, off, none⟩ : Addr).add (q * 1) = ⟨b, off + q, none⟩ := by unfold Addr.add; split <;> simp_all
    rw [Option.map_some, ha]
    refine BtsAt.mk' (by rw [hlen]; omega) (by rw [hlen]; omega) (by omega) hbB fun j c hj => ?_
    rw [List.getElem?_take] at hj
    split at hj
    · rw [List.getElem?_drop] at hj; rw [Nat.add_assoc]; exact hcell (q + j) c hj
    · cases hj
theorem run_txt_slice (a : Option Addr) (L cap q z : Nat) (h1 : q ≤ z) (h2 : z ≤ cap) (w : World) :
    (Instr.slice 33 (.slice a L cap) (some (.int .i64 (q : Int))) (some (.int .i64 (z : Int))) none).run Try.prog w = .ok (sliced a q z cap 1) w := by
  rw [run_slice_lh (P := Try.prog) (w := w) 33 a L cap (by kernel_rfl) .i64 .i64 q z (by omega) (by omega) (by omega)]
  have hs : (sizeOf (Try.prog.elem 33)).run Try.prog w = .ok 1 w := by kernel_rfl
  rw [hs]; rfl

set_option maxRecDepth 100000 in
set_option maxHeartbeats 4000000 in
theorem rvalue_2s (d : Nat) (B R p : Nat) (l : List UInt8) (di : Int) (hl : l.length ≤ 1000000) (w : World) (h : RefAt B w R l p false) (hRw : R < w.heap.size) (hp : l[p]? = some 2) (n : Nat) (r' : List UInt8) (hN : rdNum 0 0 (l.drop (p + 1)) = some (n, r')) (hnr : n ≤ r'.length) :
    Calls Try.prog 61 #[.pointer (some ⟨R, 0, none⟩), .int .i64 di] w (RValPost B R l (rdV d (l.drop p)) w) := by
  have H := Lib.hid h; clear h
  have Hp := Lib.hid hp; clear hp
  have hv := Lib.hid (rdV_2 d (l.drop (p + 1)))
  have hn64 := Lib.hid (rdNum_lt _ 0 0 n r' (by decide) (by simp) hN)
  have hlr := rdNum_len _ 0 0 _ _ hN
  have hlp : (l.drop (p + 1)).length ≤ 1000000 := by simp; omega
  have HN := Lib.hid hN; clear hN
  have hn : Hid (rdV d (l.drop p) = some (.mk 2 0 ⟨(r'.take n).toArray⟩ [], r'.drop n)) := by show _ = _; rw [drop_at Hp.out, hv.out]; unfold rdLen; rw [HN.out]; simp only; rw [if_pos hnr]
  have Hnr := Lib.hid hnr
  have Hlr := Lib.hid hlr; have Hlp := Lib.hid hlp
  clear hnr hlr hlp
  go_enter Try.func61, Try.ntmps61
  go_wp2_with fail
  refine (rhead B R p 2 l hl w H.out hRw Hp.out).mono ?_
  rintro e w1 ⟨rfl, hh⟩
  go_wp2_with fail
  refine (rnumber_any B R (p + 1) l hl _ hh.rd).mono ?_
  rw [HN.out]
  rintro e w2 ⟨rfl, q, hq, hr2, hg2⟩
  obtain ⟨⟨x0, x1, x2, x3, xf⟩, hgw⟩ := hh.num hRw hg2
  have f2 := hr2.fr 2; have r2 := hr2.c2; have r1 := hr2.c1; have f1 := hr2.fr 1
  obtain ⟨v, r0, hb⟩ := hr2.c0
  rcases hb with ⟨rfl, _⟩ | ⟨_, b, off, cap, rfl, hc1, hc2, hbB, hcell⟩
  · have := H.out.hp; simp at Hp; exact absurd Hp.out (by simp)
  have HC2 := Lib.hid (And.intro hc1 hc2)
  clear hc1 hc2
  have hRT : R ≠ w.heap.size := by omega
  have hbR : R ≠ b := by have := hr2.le; omega
  have hql := hr2.hp
  have hm : l.length - q = r'.length := by rw [← hq]; simp
  obtain ⟨m, hmm⟩ : ∃ m, r'.length = m := ⟨_, rfl⟩
  have hnm : n ≤ m := by rw [← hmm]; exact Hnr.out
  obtain ⟨z, hz⟩ : ∃ z, q + n = z := ⟨_, rfl⟩
  obtain ⟨e1, e2, e3, e4, e5, t1, hzl, hqz⟩ := txtNums (hm.trans hmm) hql hl hnm hz
  have HH := Lib.hid hh; have HR2 := Lib.hid hr2; have HC := Lib.hid hcell
  have Hq := Lib.hid hq
  have Hz := Lib.hid hz; have Hm := Lib.hid hm; have Hmm := Lib.hid hmm
  have HZ := Lib.hid (And.intro hzl hqz)
  have e6' := Lib.hid ((IntWalk.i64_left (n : Int)).trans e3)
  have e7' := Lib.hid ((IntWalk.i64_left ((z : Int) - (n : Int))).trans e5)
  clear hh hr2 hg2 hcell hq hm hmm hz hnm hql hzl hqz
  go_wp2
  go_quiet (fail)
  go_wp2
  obtain ⟨w3, hw3⟩ : ∃ w3, (w2.drewN nq).setCell ⟨R, 1, none⟩ (.int .i64 (z : Int)) = w3 := ⟨_, rfl⟩
  have hg3 : w2.grownBy w3 (some R) := by rw [← hw3]; exact grown_setR (grown_drewN _ _ _)
  have HR3 : Hid (RefAt B w3 R l z false) := by rw [← hw3]; exact (HR2.out.drewN _).set1 _ rfl HZ.out.1
  have y0 : w3.cell? ⟨R, 0, none⟩ = some (.slice (some ⟨b, off, none⟩) l.length cap) := by rw [← hw3, World.cell?_setCell_other _ _ _ _ (by simp)]; exact r0
  have y1 := HR3.out.c1
  have hb3 := (BoxAt.mk x0 x1 x2 x3 xf).grown hg3 hRT
  have hgw3 := grown_trans hgw hg3 (.inl rfl)
  have hgc : ∀ k, k ≠ R → ∀ o, w3.cell? ⟨k, o, none⟩ = w2.cell? ⟨k, o, none⟩ := fun k hk o => by rw [← hw3, World.cell?_setCell_other _ _ _ _ (by simp <;> omega)]; rfl
  rw [hw3]
  clear x0 x1 x2 x3 xf r0 r1 r2 f1 f2 hgw hw3 hg3
  obtain ⟨x0, x1, x2, x3, xf⟩ := hb3
  obtain ⟨hzl, hqz⟩ := HZ.out
  have hbt := txt_slice (q := q) (n := n) (z := z) HC2.out.1 HC2.out.2 hbB (fun j c hj => ((hgc b (by omega) _).trans (HC.out j c hj))) Hz.out hzl
  rw [Hq.out] at hbt
  obtain ⟨sv, hsv⟩ : ∃ sv, sliced (some ⟨b, off, none⟩) q z cap 1 = sv := ⟨_, rfl⟩
  have s1 := run_txt_slice (some ⟨b, off, none⟩) l.length cap q z hqz (by have := HC2.out.1; omega)
  rw [hsv] at hbt s1
  have s2 : (convert 33 9 sv).run Try.prog w3.drew = .ok (.string ⟨(r'.take n).toArray⟩) w3.drew := run_conv_bts (P := Try.prog) Try.underlying33 Try.underlying5 Try.underlying9 (hbt.keep (w' := w3.drew) (Nat.le_refl B) fun _ _ => rfl)
  have e6 : IntKind.i64.wrap (n : Int) = (n : Int) := e6'.out
  have e7 : IntKind.i64.wrap ((z : Int) - (n : Int)) = (q : Int) := e7'.out
  clear hbt hsv
  go_still_tail 18, (by kernel_rfl)
  have z0 : w3.drew.cell? ⟨w.heap.size, 0, none⟩ = some (.int .i64 0) := x0
  have z1 : w3.drew.cell? ⟨w.heap.size, 1, none⟩ = some (.int .i64 0) := x1
  have z2 : w3.drew.cell? ⟨w.heap.size, 2, none⟩ = some (.string ⟨#[]⟩) := x2
  have z3 : w3.drew.cell? ⟨w.heap.size, 3, none⟩ = some (.slice none 0 0) := x3
  have zf : ∀ o, w3.drew.frozen? ⟨w.heap.size, o, none⟩ = false := xf
  have HR4 : Hid (RefAt B w3.drew R l z false) := HR3.out.keep fun _ _ => rfl
  have hgw4 : w.grownBy w3.drew (some R) := grown_drew' hgw3
  clear x0 x1 x2 x3 xf s1 s2 e6 e7 y0 y1 hgw3 HR3 hgc
  change wpList _ _ _ _ _ w3.drew
  generalize w3.drew = w4 at *
  have hdz : l.drop z = r'.drop n := by rw [← Hq.out, List.drop_drop, Hz.out]
  have Hdz := Lib.hid hdz; clear hdz
  generalize hS : (⟨(r'.take n).toArray⟩ : ByteArray) = S at *
  have hSl : S.size ≤ maxLen := by
    rw [← hS]; show (r'.take n).toArray.size ≤ maxLen
    have h1 := Hlr.out; have h2 := Hlp.out
    simp only [List.size_toArray, List.length_take]; unfold maxLen; omega
  have HSl := Lib.hid hSl
  clear hSl hS
  go_wp2
  refine bodyPost_ret (v := .agg #[.int .i64 2, .int .i64 0, .string S, .slice none 0 0]) (by simp [results, Try.results61, go_sem, z0, z1, z2, z3]) rfl ?_
  exact ⟨.mk 2 0 S [], _, z, false, rfl, rdVD_nil _ _ _ _ _ (by unfold I64; omega) I64_0 HSl.out, (by repeat (first | exact HR4.out | refine RefAt.setT ?_ hRw)), (by repeat (first | exact hgw4 | refine grown_set_new ?_ (Nat.le_refl _))), (by rw [hn.out]; exact ⟨rfl, rfl, Hdz.out⟩)⟩
theorem rvalue_2 (d : Nat) (B R p : Nat) (l : List UInt8) (di : Int) (hl : l.length ≤ 1000000) (w : World) (h : RefAt B w R l p false) (hRw : R < w.heap.size) (hp : l[p]? = some 2) :
    Calls Try.prog 61 #[.pointer (some ⟨R, 0, none⟩), .int .i64 di] w (RValPost B R l (rdV d (l.drop p)) w) := by
  cases hN : rdNum 0 0 (l.drop (p + 1)) with
  | none => exact rvalue_2n d B R p l di hl w h hRw hp hN
  | some pr =>
    obtain ⟨n, r'⟩ := pr
    by_cases hnr : n ≤ r'.length
    · exact rvalue_2s d B R p l di hl w h hRw hp n r' hN hnr
    · exact rvalue_2l d B R p l di hl w h hRw hp n r' hN hnr
end Go.Proofs.Ytgdbmoggpfpkkaa
