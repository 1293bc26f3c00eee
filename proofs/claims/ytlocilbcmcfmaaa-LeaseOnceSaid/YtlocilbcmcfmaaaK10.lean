/- Merged: Ded Dee Cfo Pla Ivk Lco Drd. -/
import Derived.Test.YtlocilbcmcfmaaaK01
import Derived.Test.YtlocilbcmcfmaaaK02
import Derived.Test.YtlocilbcmcfmaaaK07
import Derived.Test.YtlocilbcmcfmaaaK08
import Derived.Test.YtlocilbcmcfmaaaK09
/- codec.Decode: the walk. -/
namespace Go.Proofs.Ytlocilbcmcfmaaa
open Go.RowKit

/-- what Decode answers -/
def decF (l : List UInt8) : Option V := match rdV 16 l with | some (x, []) => some x | _ => none
def DecPost (o : Option V) (w : World) (e : Ending) (w' : World) : Prop :=
  match o with
  | some x => ∃ v, e = .returned (.tuple #[v, .int .i64 0]) ∧ RdVD (fun k => w.heap.size ≤ k ∧ k < w'.heap.size) w' x v ∧ w.grownBy w' none
  | none => e = .returned (.tuple #[.agg #[.int .i64 0, .int .i64 0, .string ⟨#[]⟩, .slice none 0 0], .int .i64 10]) ∧ w.grownBy w' none

/-- the three things that Decode makes -/
def DecW (w : World) (v : Value) : World := ((w.alloc (.cells #[.int .i64 0, .int .i64 0, .string ⟨#[]⟩, .slice none 0 0] 54)).alloc (.cells #[.int .i64 0] 30)).alloc (.cells #[v] 94)
theorem decW_size (w : World) (v : Value) : (DecW w v).heap.size = w.heap.size + 1 + 1 + 1 := by simp [DecW]
theorem decW_grown (w : World) (v : Value) (G : Option Nat) : w.grownBy (DecW w v) G := grown_alloc (grown_alloc (grown_alloc (grown_refl w G) _) _) _
theorem cell_made (w : World) (v : Value) (t : TypeId) : (w.alloc (.cells #[v] t)).cell? ⟨w.heap.size, 0, none⟩ = some v := by simp
theorem decW_rdr {B : Nat} {l : List UInt8} {v : Value} {w : World} (hb : BtsAt B w l v) (hB : B ≤ w.heap.size) : RdrAt w.heap.size (DecW w v) (w.heap.size + 1 + 1) l := by
  refine ⟨by omega, ?_, v, ?_, ?_⟩
  · exact World.frozen?_alloc_at _ _ _ _ (by simp)
  · have e : ((w.alloc (.cells #[.int .i64 0, .int .i64 0, .string ⟨#[]⟩, .slice none 0 0] 54)).alloc (.cells #[.int .i64 0] 30)).heap.size = w.heap.size + 1 + 1 := by simp
    have h := cell_made ((w.alloc (.cells #[.int .i64 0, .int .i64 0, .string ⟨#[]⟩, .slice none 0 0] 54)).alloc (.cells #[.int .i64 0] 30)) v 94
    rw [e] at h; exact h
  · exact hb.keep hB fun k hk => (decW_grown w v none).block k (by omega) (by simp)
theorem decW_box (w : World) (v : Value) : BoxAt (DecW w v) w.heap.size (.int .i64 0) (.int .i64 0) (.string ⟨#[]⟩) (.slice none 0 0) := by
  have h := BoxAt.made w 54 (.int .i64 0) (.int .i64 0) (.string ⟨#[]⟩) (.slice none 0 0)
  exact h.grown (R := w.heap.size + 1) (grown_alloc (grown_alloc (grown_refl _ _) _) _) (by omega)
theorem decW_e (w : World) (v : Value) : (DecW w v).cell? ⟨w.heap.size + 1, 0, none⟩ = some (.int .i64 0) ∧ (DecW w v).frozen? ⟨w.heap.size + 1, 0, none⟩ = false := by
  have h : (DecW w v).heap[w.heap.size + 1]? = ((w.alloc (.cells #[.int .i64 0, .int .i64 0, .string ⟨#[]⟩, .slice none 0 0] 54)).alloc (.cells #[.int .i64 0] 30)).heap[w.heap.size + 1]? := Below.heap_alloc _ _ _ (by simp)
  exact ⟨(World.cell?_of_block (w := _) h).trans (by simp), (World.frozen?_of_block (w := _) h).trans (World.frozen?_alloc_at _ _ _ _ (by simp))⟩
theorem box_set {w : World} {V : Nat} {a b c d : Value} (h : BoxAt w V a b c d) (a' b' c' d' : Value) : BoxAt ((((w.setCell ⟨V, 0, none⟩ a').setCell ⟨V, 1, none⟩ b').setCell ⟨V, 2, none⟩ c').setCell ⟨V, 3, none⟩ d') V a' b' c' d' := by
  obtain ⟨x0, x1, x2, x3, xf⟩ := h
  refine ⟨?_, ?_, ?_, ?_, ?_⟩
  · simp [go_sem, x0]
  · simp [go_sem, x1]
  · simp [go_sem, x2]
  · simp [go_sem, x3]
  · intro o; simp [go_sem, xf]
theorem SlVD.shape {D : Nat → Prop} {w : World} {l : List V} {lv : Value} (h : SlVD D w l lv) : ∃ o n c, lv = .slice o n c := by
  rcases h with ⟨_, oa, cap, rfl⟩ | ⟨_, c, o, cap, rfl, _⟩
  · exact ⟨_, _, _, rfl⟩
  · exact ⟨_, _, _, rfl⟩
set_option maxRecDepth 100000 in
set_option maxHeartbeats 1000000 in
theorem decode_none (B : Nat) (l : List UInt8) (hl : l.length ≤ 1000000) (oa : Option Addr) (cap : Nat) (w : World) (hb : BtsAt B w l (.slice oa l.length cap)) (hB : B ≤ w.heap.size) (hN : rdV 16 l = none) :
    Calls Try.prog 29 #[.slice oa l.length cap] w (DecPost none w) := by
  have hmf : ∀ (fn : Fn) (first cap : Array Value) (w : World), (Instr.makeFunc fn first cap).run Try.prog w = .ok (.func fn first cap) w := fun _ _ _ _ => rfl
  have HR := Lib.hid (decW_rdr hb hB)
  have hx := Lib.hid (decW_box w (.slice oa l.length cap))
  have hy := Lib.hid (decW_e w (.slice oa l.length cap))
  have hg0 := Lib.hid (decW_grown w (.slice oa l.length cap) none)
  have hsz := Lib.hid (decW_size w (.slice oa l.length cap))
  have HN := Lib.hid hN; clear hN hb
  go_enter_defers Try.func29, Try.ntmps29
  go_wp2_with (go_at_call 39; refine (value_any 16 (by omega) w.heap.size (w.heap.size + 1 + 1) l 0 (by simp) hl (DecW w (.slice oa l.length cap)) HR.out (by rw [hsz.out]; omega)).mono ?_; rw [HN.out]; rintro e w9 ⟨rfl, hg9⟩)
  refine leaves_cons (f := 38) (args := #[.pointer (some ⟨w.heap.size, 0, none⟩), .pointer (some ⟨w.heap.size + 1, 0, none⟩)]) (by simp) (by simp [go_sem]) ?_
  have hs0 := hsz.out
  have hy9 := hg9.block (w.heap.size + 1) (by omega) (fun e => by injection e; omega)
  refine (catch_panicking w.heap.size (w.heap.size + 1) _ _ _ _ (.int .i64 0) w9 (hx.out.grown hg9 (by omega)) ((World.cell?_of_block (w := DecW w _) hy9).trans hy.out.1) ((World.frozen?_of_block (w := DecW w _) hy9).trans hy.out.2) (by omega)).mono ?_
  rintro e u' w'' ⟨rfl, rfl, hx2, hy2, _, hg2⟩
  have hgw : w.grownBy w'' none := hg2 w none (grown_trans hg0.out hg9 (.inr fun g hg => by injection hg; omega)) (by omega) (by omega)
  obtain ⟨x0, x1, x2, x3, _⟩ := hx2
  simp [Leaves, settle, results, Try.results29, go_sem, x0, x1, x2, x3, hy2]
  exact ⟨rfl, hgw⟩
set_option maxRecDepth 100000 in
set_option maxHeartbeats 1000000 in
theorem decode_junk (B : Nat) (l : List UInt8) (hl : l.length ≤ 1000000) (oa : Option Addr) (cap : Nat) (w : World) (hb : BtsAt B w l (.slice oa l.length cap)) (hB : B ≤ w.heap.size) (x : V) (r : List UInt8) (hN : rdV 16 l = some (x, r)) (hr : r ≠ []) :
    Calls Try.prog 29 #[.slice oa l.length cap] w (DecPost none w) := by
  have hmf : ∀ (fn : Fn) (first cap : Array Value) (w : World), (Instr.makeFunc fn first cap).run Try.prog w = .ok (.func fn first cap) w := fun _ _ _ _ => rfl
  have HR := Lib.hid (decW_rdr hb hB)
  have hx := Lib.hid (decW_box w (.slice oa l.length cap))
  have hy := Lib.hid (decW_e w (.slice oa l.length cap))
  have hg0 := Lib.hid (decW_grown w (.slice oa l.length cap) none)
  have hsz := Lib.hid (decW_size w (.slice oa l.length cap))
  have HN := Lib.hid hN; clear hN hb
  have hrl : ((r.length : Int) == 0) = false := by cases r <;> simp_all <;> omega
  have hbnd : (r.length : Int) ≤ 1000000 := by have := rdV_len 16 l x r HN.out; omega
  clear hr
  go_enter_defers Try.func29, Try.ntmps29
  go_wp2_with (first
    | (go_at_call 39; refine (value_any 16 (by omega) w.heap.size (w.heap.size + 1 + 1) l 0 (by simp) hl (DecW w (.slice oa l.length cap)) HR.out (by rw [hsz.out]; omega)).mono ?_; rw [HN.out]; rintro e w9 ⟨v9, rfl, ⟨z1, z2, z3, lx, rfl, z4⟩, hrd9, hg9⟩
       obtain ⟨xo, xn, xc, rfl⟩ := z4.shape
       have hs0 := hsz.out
       have hs9 := hg9.size
       have hx9 := Lib.hid (hx.out.grown hg9 (by omega))
       obtain ⟨x0, x1, x2, x3, xf⟩ := hx9.out
       have hy9 := hg9.block (w.heap.size + 1) (by omega) (fun e => by injection e; omega)
       have e0 : w9.cell? ⟨w.heap.size + 1, 0, none⟩ = some (.int .i64 0) := (World.cell?_of_block (w := DecW w _) hy9).trans hy.out.1
       have ef : w9.frozen? ⟨w.heap.size + 1, 0, none⟩ = false := (World.frozen?_of_block (w := DecW w _) hy9).trans hy.out.2
       obtain ⟨_, fR, vR, cR, bR⟩ := hrd9
       obtain ⟨oR, capR, rfl⟩ := bR.shape
       have Z := Lib.hid (And.intro z1 (And.intro z2 (And.intro z3 z4)))
       clear hy9 bR z1 z2 z3 z4
       have hgw := Lib.hid (grown_trans (G := none) hg0.out hg9 (.inr fun g hg => by injection hg; omega)))
    | (go_at_call 40; refine (want_false _ _).mono ?_; rintro e w' ⟨rfl, rfl⟩))
  refine leaves_cons (f := 38) (args := #[.pointer (some ⟨w.heap.size, 0, none⟩), .pointer (some ⟨w.heap.size + 1, 0, none⟩)]) (by simp) (by simp [go_sem]) ?_
  refine (catch_panicking w.heap.size (w.heap.size + 1) _ _ _ _ (.int .i64 0) _ (box_set hx9.out _ _ _ _) (by simp [go_sem, e0]) (by simp [go_sem, ef]) (by omega)).mono ?_
  rintro e u' w'' ⟨rfl, rfl, hx2, hy2, _, hg2⟩
  have hgw : w.grownBy w'' none := hg2 w none (grown_set_new (grown_set_new (grown_set_new (grown_set_new hgw.out (Nat.le_refl _)) (Nat.le_refl _)) (Nat.le_refl _)) (Nat.le_refl _)) (by omega) (by omega)
  obtain ⟨y0, y1, y2, y3, _⟩ := hx2
  simp [Leaves, settle, results, Try.results29, go_sem, y0, y1, y2, y3, hy2]
  exact ⟨rfl, hgw⟩
end Go.Proofs.Ytlocilbcmcfmaaa
/- codec.Decode: the walk where all is read. -/
namespace Go.Proofs.Ytlocilbcmcfmaaa
open Go.RowKit

/-- the world at Decode's return -/
def FinT (w9 : World) (V E : Nat) (a b c d : Value) : World :=
  ((((((((w9.setCell ⟨V, 0, none⟩ a).setCell ⟨V, 1, none⟩ b).setCell ⟨V, 2, none⟩ c).setCell ⟨V, 3, none⟩ d).setCell ⟨V, 0, none⟩ a).setCell ⟨V, 1, none⟩ b).setCell ⟨V, 2, none⟩ c).setCell ⟨V, 3, none⟩ d).setCell ⟨E, 0, none⟩ (.int .i64 0)
structure FinS (w9 : World) (V E : Nat) (a b c d : Value) (wf : World) : Prop where
  c0 : wf.cell? ⟨V, 0, none⟩ = some a
  c1 : wf.cell? ⟨V, 1, none⟩ = some b
  c2 : wf.cell? ⟨V, 2, none⟩ = some c
  c3 : wf.cell? ⟨V, 3, none⟩ = some d
  e0 : wf.cell? ⟨E, 0, none⟩ = some (.int .i64 0)
  sz : wf.heap.size = w9.heap.size
  old : ∀ k, k ≠ V → k ≠ E → wf.heap[k]? = w9.heap[k]?
  gr : ∀ (base : World) (G : Option Nat), base.grownBy w9 G → base.heap.size ≤ V → base.heap.size ≤ E → base.grownBy wf G
theorem finS (w9 : World) (V E : Nat) (a b c d x y z u e : Value) (h : BoxAt w9 V x y z u) (he : w9.cell? ⟨E, 0, none⟩ = some e) (hne : V ≠ E) : FinS w9 V E a b c d (FinT w9 V E a b c d) := by
  have hb := box_set (box_set h a b c d) a b c d
  have he2 : ((((((((w9.setCell ⟨V, 0, none⟩ a).setCell ⟨V, 1, none⟩ b).setCell ⟨V, 2, none⟩ c).setCell ⟨V, 3, none⟩ d).setCell ⟨V, 0, none⟩ a).setCell ⟨V, 1, none⟩ b).setCell ⟨V, 2, none⟩ c).setCell ⟨V, 3, none⟩ d).cell? ⟨E, 0, none⟩ = some e := by simp [go_sem, he]
  refine ⟨?_, ?_, ?_, ?_, World.cell?_setCell_same' _ _ _ (by rw [he2]; rfl), by simp [FinT, World.setCell], ?_, ?_⟩
  · exact (World.cell?_setCell_other _ _ _ _ (by simp)).trans hb.c0
  · exact (World.cell?_setCell_other _ _ _ _ (by simp)).trans hb.c1
  · exact (World.cell?_setCell_other _ _ _ _ (by simp)).trans hb.c2
  · exact (World.cell?_setCell_other _ _ _ _ (by simp)).trans hb.c3
  · intro k h1 h2
    unfold FinT
    rw [Below.heap_setCell _ _ _ _ (by exact h2), Below.heap_setCell _ _ _ _ (by exact h1), Below.heap_setCell _ _ _ _ (by exact h1), Below.heap_setCell _ _ _ _ (by exact h1), Below.heap_setCell _ _ _ _ (by exact h1), Below.heap_setCell _ _ _ _ (by exact h1), Below.heap_setCell _ _ _ _ (by exact h1), Below.heap_setCell _ _ _ _ (by exact h1), Below.heap_setCell _ _ _ _ (by exact h1)]
  · intro base G hg hV hE
    exact grown_set_new (grown_set_new (grown_set_new (grown_set_new (grown_set_new (grown_set_new (grown_set_new (grown_set_new (grown_set_new hg hV) hV) hV) hV) hV) hV) hV) hV) hE
set_option maxRecDepth 100000 in
set_option maxHeartbeats 4000000 in
theorem decode_some (B : Nat) (l : List UInt8) (hl : l.length ≤ 1000000) (oa : Option Addr) (cap : Nat) (w : World) (hb : BtsAt B w l (.slice oa l.length cap)) (hB : B ≤ w.heap.size) (x : V) (r : List UInt8) (hN : rdV 16 l = some (x, r)) (hr : r = []) :
    Calls Try.prog 29 #[.slice oa l.length cap] w (DecPost (some x) w) := by
  have hmf : ∀ (fn : Fn) (first cap : Array Value) (w : World), (Instr.makeFunc fn first cap).run Try.prog w = .ok (.func fn first cap) w := fun _ _ _ _ => rfl
  have HR := Lib.hid (decW_rdr hb hB)
  have hx := Lib.hid (decW_box w (.slice oa l.length cap))
  have hy := Lib.hid (decW_e w (.slice oa l.length cap))
  have hg0 := Lib.hid (decW_grown w (.slice oa l.length cap) none)
  have hsz := Lib.hid (decW_size w (.slice oa l.length cap))
  have HN := Lib.hid hN; clear hN hb
  have hrl : ((r.length : Int) == 0) = true := by cases r <;> simp_all <;> omega
  have hbnd : (r.length : Int) ≤ 1000000 := by have := rdV_len 16 l x r HN.out; omega
  clear hr
  go_enter_defers Try.func29, Try.ntmps29
  go_wp2_with (first
    | (go_at_call 39; refine (value_any 16 (by omega) w.heap.size (w.heap.size + 1 + 1) l 0 (by simp) hl (DecW w (.slice oa l.length cap)) HR.out (by rw [hsz.out]; omega)).mono ?_; rw [HN.out]; rintro e w9 ⟨v9, rfl, ⟨z1, z2, z3, lx, rfl, z4⟩, hrd9, hg9⟩
       obtain ⟨xo, xn, xc, rfl⟩ := z4.shape
       have hs0 := hsz.out
       have hs9 := hg9.size
       have hx9 := Lib.hid (hx.out.grown hg9 (by omega))
       obtain ⟨x0, x1, x2, x3, xf⟩ := hx9.out
       have hy9 := hg9.block (w.heap.size + 1) (by omega) (fun e => by injection e; omega)
       have e0 : w9.cell? ⟨w.heap.size + 1, 0, none⟩ = some (.int .i64 0) := (World.cell?_of_block (w := DecW w _) hy9).trans hy.out.1
       have ef : w9.frozen? ⟨w.heap.size + 1, 0, none⟩ = false := (World.frozen?_of_block (w := DecW w _) hy9).trans hy.out.2
       obtain ⟨_, fR, vR, cR, bR⟩ := hrd9
       obtain ⟨oR, capR, rfl⟩ := bR.shape
       have Z := Lib.hid (And.intro z1 (And.intro z2 (And.intro z3 z4)))
       clear hy9 bR z1 z2 z3 z4
       have hgw := Lib.hid (grown_trans (G := none) hg0.out hg9 (.inr fun g hg => by injection hg; omega)))
    | (go_at_call 40; refine (want_true _ _).mono ?_; rintro e w' ⟨rfl, rfl⟩))
  have hf := finS w9 w.heap.size (w.heap.size + 1) (.int .i64 x.kind) (.int .i64 x.n) (.string x.s) (.slice xo xn xc) _ _ _ _ _ hx9.out e0 (by omega)
  change bodyPostD _ _ _ _ _ (FinT w9 w.heap.size (w.heap.size + 1) (.int .i64 x.kind) (.int .i64 x.n) (.string x.s) (.slice xo xn xc))
  generalize FinT w9 w.heap.size (w.heap.size + 1) (.int .i64 x.kind) (.int .i64 x.n) (.string x.s) (.slice xo xn xc) = wf at hf ⊢
  obtain ⟨y0, y1, y2, y3, y4, ys, yo, yg⟩ := hf
  have YO := Lib.hid yo; have YG := Lib.hid yg; clear yo yg
  refine leaves_cons (f := 38) (args := #[.pointer (some ⟨w.heap.size, 0, none⟩), .pointer (some ⟨w.heap.size + 1, 0, none⟩)]) (by simp) (by simp [go_sem]) ?_
  refine (catch_idle w.heap.size (w.heap.size + 1) wf).mono ?_
  rintro e u' w'' ⟨rfl, rfl, rfl⟩
  simp [Leaves, settle, results, Try.results29, go_sem, y0, y1, y2, y3, y4]
  refine ⟨_, rfl, ⟨Z.out.1, Z.out.2.1, Z.out.2.2.1, _, rfl, Z.out.2.2.2.keep (fun k hk => ⟨by omega, by omega⟩) (fun k hk => YO.out k (by omega) (by omega))⟩, YG.out w none hgw.out (Nat.le_refl _) (by omega)⟩
/-- Decode, whatever it is handed -/
theorem decode_any (B : Nat) (l : List UInt8) (hl : l.length ≤ 1000000) (v : Value) (w : World) (hb : BtsAt B w l v) (hB : B ≤ w.heap.size) :
    Calls Try.prog 29 #[v] w (DecPost (decF l) w) := by
  obtain ⟨oa, cap, rfl⟩ := hb.shape
  unfold decF
  cases hN : rdV 16 l with
  | none => exact decode_none B l hl oa cap w hb hB hN
  | some p =>
    obtain ⟨x, r⟩ := p
    cases r with
    | nil => exact decode_some B l hl oa cap w hb hB x [] hN rfl
    | cons c r => exact decode_junk B l hl oa cap w hb hB x (c :: r) hN (by simp)
end Go.Proofs.Ytlocilbcmcfmaaa
/- four cells of a block. -/
namespace Go.Proofs.Ytlocilbcmcfmaaa
open Go.RowKit
theorem str_eq {s t : ByteArray} (h : s.toList = t.toList) : s = t := by
  rw [ByteArray.toList_eq, ByteArray.toList_eq] at h
  exact ByteArray.ext (Array.toList_inj.1 h)
theorem to_box {w w' : World} {ob : Obj} (h : Below (w.alloc ob).heap.size (w.alloc ob) w') : Below (w.heap.size + 1) (w.alloc ob) w' := h.mono (by simp)

theorem box_cells {w w' : World} {a b c d : Value} {t : TypeId} (h : Below (w.heap.size + 1) (w.alloc (.cells #[a, b, c, d] t)) w') :
    w'.cell? ⟨w.heap.size, 0, none⟩ = some a ∧ w'.cell? ⟨w.heap.size, 1, none⟩ = some b ∧ w'.cell? ⟨w.heap.size, 2, none⟩ = some c ∧ w'.cell? ⟨w.heap.size, 3, none⟩ = some d :=
  ⟨(h.cell (p := ⟨w.heap.size, 0, none⟩) (by simp)).trans (by simp), (h.cell (p := ⟨w.heap.size, 1, none⟩) (by simp)).trans (by simp), (h.cell (p := ⟨w.heap.size, 2, none⟩) (by simp)).trans (by simp), (h.cell (p := ⟨w.heap.size, 3, none⟩) (by simp)).trans (by simp)⟩
theorem box_ext {w w' : World} {a b c d : Value} {t : TypeId} (h : Below (w.alloc (.cells #[a, b, c, d] t)).heap.size (w.alloc (.cells #[a, b, c, d] t)) w') :
    w'.cell? ⟨w.heap.size, 0, none⟩ = some a ∧ w'.cell? ⟨w.heap.size, 1, none⟩ = some b ∧ w'.cell? ⟨w.heap.size, 2, none⟩ = some c ∧ w'.cell? ⟨w.heap.size, 3, none⟩ = some d := box_cells (to_box h)
theorem RdV.drew {w : World} {x : V} {v : Value} (h : RdV w.heap.size w x v) : RdV w.drew.heap.size w.drew x v := h.keep (Nat.le_refl _) (fun _ _ => rfl)
/-- four cells of a block -/
structure C4 (w : World) (T : Nat) (a b c d : Value) : Prop where
  c0 : w.cell? ⟨T, 0, none⟩ = some a
  c1 : w.cell? ⟨T, 1, none⟩ = some b
  c2 : w.cell? ⟨T, 2, none⟩ = some c
  c3 : w.cell? ⟨T, 3, none⟩ = some d
theorem C4.ext {w w' : World} {T : Nat} {a b c d : Value} (h : C4 w T a b c d) (hb : Below w.heap.size w w') : C4 w' T a b c d := ⟨cell_ext hb h.c0, cell_ext hb h.c1, cell_ext hb h.c2, cell_ext hb h.c3⟩
theorem C4.of_box {w w' : World} {a b c d : Value} {t : TypeId} (h : Below (w.alloc (.cells #[a, b, c, d] t)).heap.size (w.alloc (.cells #[a, b, c, d] t)) w') : C4 w' w.heap.size a b c d := by
  obtain ⟨c0, c1, c2, c3⟩ := box_ext h
  exact ⟨c0, c1, c2, c3⟩
theorem C4.of_two {w w' : World} {a b c d a2 b2 c2 d2 : Value} {t t2 : TypeId} (h : Below ((w.alloc (.cells #[a, b, c, d] t)).alloc (.cells #[a2, b2, c2, d2] t2)).heap.size ((w.alloc (.cells #[a, b, c, d] t)).alloc (.cells #[a2, b2, c2, d2] t2)) w') :
    C4 w' w.heap.size a b c d ∧ C4 w' (w.heap.size + 1) a2 b2 c2 d2 ∧ Below w.heap.size w w' := by
  have h2 := C4.of_box (w := w.alloc (.cells #[a, b, c, d] t)) h
  rw [World.size_alloc] at h2
  have hb := below_after (w := w.alloc (.cells #[a, b, c, d] t)) h
  exact ⟨C4.of_box hb, h2, below_after hb⟩
end Go.Proofs.Ytlocilbcmcfmaaa
/- the plain law of the codec: what is encoded is read back, and what is read was encoded so. -/
namespace Go.Proofs.Ytlocilbcmcfmaaa
open Go.RowKit

def DecRd (o : Option V) (w : World) (e : Ending) (w' : World) : Prop :=
  match o with
  | some x => ∃ oa cap, e = .returned (.tuple #[.agg #[.int .i64 x.kind, .int .i64 x.n, .string x.s, .slice oa x.l.length cap], .int .i64 0]) ∧ RdV w'.heap.size w' x (.agg #[.int .i64 x.kind, .int .i64 x.n, .string x.s, .slice oa x.l.length cap]) ∧ Below w.heap.size w w'
  | none => e = .returned (.tuple #[.agg #[.int .i64 0, .int .i64 0, .string ⟨#[]⟩, .slice none 0 0], .int .i64 10]) ∧ Below w.heap.size w w'
theorem lo_nat (x : Nat) (h : x < 256) : (loDig x).toNat = x := by have := lo_cast x; omega
theorem hi_nat (x : Nat) : (hiDig x).toNat = x % 128 + 128 := by have := hi_cast x; omega
theorem pow_split (k : Nat) : (2 : Nat) ^ (7 * (k + 1)) = 128 * 2 ^ (7 * k) := by rw [show 7 * (k + 1) = 7 + 7 * k from by omega, Nat.pow_add]
theorem digit_sum (u p : Nat) : u % 128 * p + u / 128 * (128 * p) = u * p := by
  have h := Nat.mod_add_div u 128
  calc u % 128 * p + u / 128 * (128 * p) = u % 128 * p + 128 * (u / 128) * p := by rw [← Nat.mul_assoc, Nat.mul_comm (u / 128) 128]
    _ = (u % 128 + 128 * (u / 128)) * p := by rw [Nat.add_mul]
    _ = u * p := by rw [h]

theorem num_read : ∀ (f k u x : Nat) (r : List UInt8), f + k = 9 → u < 128 ^ f * 2 → (k = 0 ∨ u ≠ 0) → rdNum k x (numF f u ++ r) = some (x + u * 2 ^ (7 * k), r)
  | 0, k, u, x, r, hk, hu, h0 => by
    have hu' : u < 2 := by simpa using hu
    have hl := lo_nat u (by omega)
    simp only [numF, List.singleton_append]
    rw [rdNum_end (by rw [hl]; omega) (by omega), hl, Nat.mod_eq_of_lt (by omega)]
  | f + 1, k, u, x, r, hk, hu, h0 => by
    by_cases h : u < 128
    · have hl := lo_nat u (by omega)
      rw [numF, if_pos h]
      simp only [List.singleton_append]
      rw [rdNum_end (by rw [hl]; omega) (by omega), hl, Nat.mod_eq_of_lt (by omega)]
    · have hh := hi_nat u
      rw [numF, if_neg h, List.cons_append, rdNum_on (by rw [hh]; omega) (by omega), hh]
      rw [num_read f (k + 1) (u / 128) _ r (by omega) (by
        rw [Nat.pow_succ] at hu
        exact Nat.div_lt_of_lt_mul (by rw [← Nat.mul_assoc, Nat.mul_comm 128]; exact hu)) (by omega)]
      congr 2
      rw [pow_split, show (u % 128 + 128) % 128 = u % 128 from by omega, Nat.add_assoc, digit_sum]
theorem num_rd (u : Nat) (hu : u < 18446744073709551616) (r : List UInt8) : rdNum 0 0 (num u ++ r) = some (u, r) := by
  have := num_read 9 0 u 0 r rfl (by simpa using hu) (.inl rfl)
  simpa [num] using this

theorem num_sound : ∀ (f k x n : Nat) (l r : List UInt8), f + k = 9 → rdNum k x l = some (n, r) → ∃ u, l = numF f u ++ r ∧ n = x + u * 2 ^ (7 * k) ∧ (k = 0 ∨ u ≠ 0) ∧ u < 128 ^ f * 2
  | f, k, x, n, [], r, hk, h => by simp [rdNum] at h
  | f, k, x, n, c :: t, r, hk, h => by
    by_cases hg : (k = 0 ∨ c.toNat ≠ 0) ∧ (k < 9 ∨ c.toNat ≤ 1)
    case neg => rw [rdNum_bad hg] at h; cases h
    have hlo : c.toNat < 256 := c.toNat_lt
    by_cases hc : c.toNat < 128
    · rw [rdNum_end hg hc, Nat.mod_eq_of_lt hc] at h
      simp at h; obtain ⟨rfl, rfl⟩ := h
      have hcl : loDig c.toNat = c := UInt8.toNat_inj.1 (lo_nat c.toNat hlo)
      refine ⟨c.toNat, ?_, rfl, hg.1, ?_⟩
      · cases f with
        | zero => simp [numF, hcl]
        | succ f => rw [numF, if_pos hc]; simp [hcl]
      · have h1 : 1 ≤ 128 ^ f := Nat.one_le_pow _ _ (by decide)
        cases f with
        | zero => have := hg.2; simp; omega
        | succ f =>
          have h2 : 1 ≤ 128 ^ f := Nat.one_le_pow _ _ (by decide)
          rw [Nat.pow_succ]; omega
    · cases f with
      | zero => have := hg.2; omega
      | succ f =>
        rw [rdNum_on hg hc] at h
        obtain ⟨u, rfl, rfl, hu0, hul⟩ := num_sound f (k + 1) _ n t r (by omega) h
        have hu1 : u ≠ 0 := by omega
        have hd : (c.toNat % 128 + 128 * u) / 128 = u := by omega
        have hm : (c.toNat % 128 + 128 * u) % 128 = c.toNat % 128 := by omega
        have hh : hiDig (c.toNat % 128 + 128 * u) = c := UInt8.toNat_inj.1 (by rw [hi_nat, hm]; omega)
        refine ⟨c.toNat % 128 + 128 * u, ?_, ?_, .inr (by omega), ?_⟩
        · rw [numF, if_neg (by omega), hh, hd, List.cons_append]
        · have := digit_sum (c.toNat % 128 + 128 * u) (2 ^ (7 * k))
          rw [hm, hd] at this
          rw [pow_split, ← this, Nat.add_assoc]
        · rw [Nat.pow_succ]; omega
theorem num_snd {n : Nat} {l r : List UInt8} (h : rdNum 0 0 l = some (n, r)) : l = num n ++ r ∧ n < 18446744073709551616 := by
  obtain ⟨u, h1, h2, _, h4⟩ := num_sound 9 0 0 n l r rfl h
  have : n = u := by simpa using h2
  subst this
  exact ⟨h1, by simpa using h4⟩

theorem sgn_uns (n : Int) (h : I64 n) : sgn (uns n) = n := by unfold I64 at h; unfold sgn uns; split <;> split <;> omega
theorem uns_sgn (u : Nat) : uns (sgn u) = u := by unfold sgn uns; split <;> split <;> omega

theorem num_pos (u : Nat) : 1 ≤ (num u).length := numF_pos 9 u
theorem fm_cases : ∀ x : V, fm x = true → (∃ n, x = .mk 1 n ⟨#[]⟩ []) ∨ (∃ s, x = .mk 2 0 s []) ∨ (∃ l, x = .mk 3 0 ⟨#[]⟩ l ∧ fms l = true)
  | .mk k n s l, h => by
    have he : ∀ s : ByteArray, s.toList.isEmpty = true → s = ⟨#[]⟩ := fun s hs => str_eq (by rw [List.isEmpty_iff.1 hs, ByteArray.toList_eq])
    rw [fm] at h
    split at h
    · rename_i hk; subst hk
      simp only [Bool.and_eq_true] at h
      obtain rfl := he s h.1
      obtain rfl := List.isEmpty_iff.1 h.2
      exact .inl ⟨n, rfl⟩
    · split at h
      · rename_i hk; subst hk
        simp only [Bool.and_eq_true, beq_iff_eq] at h
        obtain ⟨rfl, h2⟩ := h
        obtain rfl := List.isEmpty_iff.1 h2
        exact .inr (.inl ⟨s, rfl⟩)
      · split at h
        · rename_i hk; subst hk
          simp only [Bool.and_eq_true, beq_iff_eq] at h
          obtain ⟨⟨rfl, h2⟩, h3⟩ := h
          obtain rfl := he s h2
          exact .inr (.inr ⟨l, rfl, h3⟩)
        · cases h
theorem fms_cons {x : V} {r : List V} (h : fms (x :: r) = true) : fm x = true ∧ fms r = true := by simpa [fms] using h
/-- an encoding is not much shorter than what it holds -/
theorem enc_lenN (N : Nat) : (∀ x : V, sz x ≤ N → fm x = true → sz x ≤ 13 * (enc x).length ∧ 2 ≤ (enc x).length) := by
  induction N with
  | zero => intro x h; obtain ⟨k, n, s, l⟩ := x; simp [sz] at h
  | succ N ih =>
    intro x hN hf
    have hs : ∀ l : List V, szs l ≤ N → fms l = true → szs l ≤ 13 * (encs l).length ∧ l.length ≤ (encs l).length := by
      intro l
      induction l with
      | nil => intro _ _; simp [szs]
      | cons y r ihr =>
        intro h1 h2
        obtain ⟨h3, h4⟩ := fms_cons h2
        simp only [szs] at h1 ⊢
        have := ih y (by omega) h3
        have := ihr (by omega) h4
        simp only [encs, List.length_append, List.length_cons]; omega
    rcases fm_cases x hf with ⟨n, rfl⟩ | ⟨s, rfl⟩ | ⟨l, rfl, hl⟩
    · have := num_pos (uns n)
      rw [enc_1]
      simp [sz, szs]
      have h0 : (⟨#[]⟩ : ByteArray).size = 0 := rfl
      omega
    · have := num_pos s.size
      have h5 : s.data.toList.length = s.size := by simp
      rw [enc_2]
      simp [sz, szs]
      omega
    · have := num_pos l.length
      have h0 : (⟨#[]⟩ : ByteArray).size = 0 := rfl
      simp only [sz] at hN
      have := hs l (by omega) hl
      rw [enc_3]
      simp [sz]
      omega
theorem enc_len {x : V} (h : fm x = true) : sz x ≤ 13 * (enc x).length ∧ 2 ≤ (enc x).length := enc_lenN (sz x) x (Nat.le_refl _) h
theorem encs_len : ∀ l : List V, fms l = true → l.length ≤ (encs l).length
  | [], _ => by simp
  | x :: r, h => by
    obtain ⟨h1, h2⟩ := fms_cons h
    have := (enc_len h1).2; have := encs_len r h2
    simp only [encs, List.length_append, List.length_cons]; omega

theorem rdLen_enc {n : Nat} (h : n < 18446744073709551616) (r : List UInt8) (hr : n ≤ r.length) : rdLen (num n ++ r) = some (n, r) := by
  unfold rdLen; rw [num_rd n h]; simp [hr]
theorem rdVs_enc (f : List UInt8 → Option (V × List UInt8)) (l : List V) (r : List UInt8) (hf : ∀ x ∈ l, ∀ t, f (enc x ++ t) = some (x, t)) : ∀ k, k ≤ l.length → rdVs f k (encs l ++ r) = some (l.take k, encs (l.drop k) ++ r)
  | 0, _ => by simp [rdVs]
  | k + 1, hk => by
    have h1 := rdVs_enc f l r hf k (by omega)
    have hd : l.drop k = l[k] :: l.drop (k + 1) := List.drop_eq_getElem_cons (by omega)
    rw [hd] at h1
    simp only [encs, List.append_assoc] at h1
    rw [rdVs_some f k _ _ _ _ _ h1 (hf l[k] (List.getElem_mem _) _)]
    congr 2
    rw [List.take_succ_eq_append_getElem (by omega)]
theorem dps_mem : ∀ {l : List V} {x : V}, x ∈ l → dp x ≤ dps l
  | y :: r, x, h => by
    simp only [dps]
    rcases List.mem_cons.1 h with rfl | h
    · omega
    · have := dps_mem h; omega
theorem fms_mem : ∀ {l : List V} {x : V}, fms l = true → x ∈ l → fm x = true
  | y :: r, x, hf, h => by
    obtain ⟨h1, h2⟩ := fms_cons hf
    rcases List.mem_cons.1 h with rfl | h
    · exact h1
    · exact fms_mem h2 h
theorem rdV_enc : ∀ (d : Nat) (x : V), fm x = true → dp x ≤ d → okV x → ∀ r, rdV d (enc x ++ r) = some (x, r) := by
  intro d
  induction d with
  | zero =>
    intro x hf hd hok r
    rcases fm_cases x hf with ⟨n, rfl⟩ | ⟨s, rfl⟩ | ⟨l, rfl, hl⟩
    · obtain ⟨_, hn, _⟩ := hok
      rw [enc_1, List.append_assoc, List.singleton_append, rdV_1, num_rd _ (uns_lt n hn)]
      show some (V.mk 1 (sgn (uns n)) ⟨#[]⟩ [], r) = _
      rw [sgn_uns n hn]
    · obtain ⟨_, _, hs, _⟩ := hok
      unfold maxLen at hs
      rw [enc_2, List.append_assoc, List.append_assoc, List.singleton_append, rdV_2, rdLen_enc (by omega) _ (by simp)]
      simp
    · rw [dp_3] at hd; omega
  | succ d ih =>
    intro x hf hd hok r
    rcases fm_cases x hf with ⟨n, rfl⟩ | ⟨s, rfl⟩ | ⟨l, rfl, hl⟩
    · obtain ⟨_, hn, _⟩ := hok
      rw [enc_1, List.append_assoc, List.singleton_append, rdV_1, num_rd _ (uns_lt n hn)]
      show some (V.mk 1 (sgn (uns n)) ⟨#[]⟩ [], r) = _
      rw [sgn_uns n hn]
    · obtain ⟨_, _, hs, _⟩ := hok
      unfold maxLen at hs
      rw [enc_2, List.append_assoc, List.append_assoc, List.singleton_append, rdV_2, rdLen_enc (by omega) _ (by simp)]
      simp
    · obtain ⟨_, _, _, hll, hoks⟩ := hok
      unfold maxLen at hll
      rw [dp_3] at hd
      rw [enc_3, List.append_assoc, List.append_assoc, List.singleton_append, rdV_3, rdLen_enc (by omega) _ (by have := encs_len l hl; simp; omega)]
      have h1 := rdVs_enc (rdV d) l r (fun x hx t => ih x (fms_mem hl hx) (by have := dps_mem hx; omega) (okVs_mem hoks hx) t) l.length (Nat.le_refl _)
      simp only [h1]
      simp [encs]

theorem rdLen_snd {n : Nat} {l r : List UInt8} (h : rdLen l = some (n, r)) : l = num n ++ r ∧ n < 18446744073709551616 ∧ n ≤ r.length := by
  unfold rdLen at h
  cases hN : rdNum 0 0 l with
  | none => rw [hN] at h; cases h
  | some p =>
    obtain ⟨m, t⟩ := p
    rw [hN] at h
    simp only at h
    split at h
    · rename_i hm
      simp at h; obtain ⟨rfl, rfl⟩ := h
      obtain ⟨h1, h2⟩ := num_snd hN
      exact ⟨h1, h2, hm⟩
    · cases h
theorem encs_append (a b : List V) : encs (a ++ b) = encs a ++ encs b := by
  induction a with
  | nil => simp [encs]
  | cons x r ih => simp [encs, ih]
/-- what a value that was read is good for -/
structure Rd1 (d : Nat) (l : List UInt8) (x : V) (r : List UInt8) : Prop where
  eq : l = enc x ++ r
  fm : fm x = true
  dp : dp x ≤ d
  ok : l.length ≤ maxLen → okV x
theorem dps_append (a : List V) (x : V) : dps (a ++ [x]) = max (dps a) (dp x) := by
  induction a with
  | nil => simp [dps]
  | cons y r ih => simp only [List.cons_append, dps, ih]; omega
theorem fms_append (a : List V) (x : V) : fms (a ++ [x]) = (fms a && Go.Proofs.Ytlocilbcmcfmaaa.fm x) := by
  induction a with
  | nil => simp [fms]
  | cons y r ih => simp only [List.cons_append, fms, ih, Bool.and_assoc]
theorem okVs_append (a : List V) (x : V) (h : okVs a) (hx : okV x) : okVs (a ++ [x]) := by
  induction a with
  | nil => exact ⟨hx, trivial⟩
  | cons y r ih => exact ⟨h.1, ih h.2⟩
theorem rdVs_sound (d : Nat) (ih : ∀ l x r, rdV d l = some (x, r) → Rd1 d l x r) : ∀ (n : Nat) (l : List UInt8) (xs : List V) (r : List UInt8), rdVs (rdV d) n l = some (xs, r) →
    xs.length = n ∧ l = encs xs ++ r ∧ fms xs = true ∧ dps xs ≤ d ∧ (l.length ≤ maxLen → okVs xs)
  | 0, l, xs, r, h => by simp [rdVs] at h; obtain ⟨rfl, rfl⟩ := h; simp [encs, fms, dps, okVs]
  | n + 1, l, xs, r, h => by
    simp only [rdVs] at h
    cases hN : rdVs (rdV d) n l with
    | none => rw [hN] at h; cases h
    | some p =>
      obtain ⟨ys, t⟩ := p
      rw [hN] at h; simp only at h
      cases hM : rdV d t with
      | none => rw [hM] at h; cases h
      | some q =>
        obtain ⟨y, t'⟩ := q
        rw [hM] at h; simp at h
        obtain ⟨rfl, rfl⟩ := h
        obtain ⟨h1, h2, h3, h4, h5⟩ := rdVs_sound d ih n l ys t hN
        obtain ⟨g1, g2, g3, g4⟩ := ih t y t' hM
        refine ⟨by simp [h1], ?_, by rw [fms_append, h3, g2]; rfl, by rw [dps_append]; omega, fun hl => okVs_append _ _ (h5 hl) (g4 ?_)⟩
        · rw [h2, g1, encs_append]; simp [encs]
        · have : t.length ≤ l.length := by rw [h2]; simp
          omega
theorem sound_12 (d : Nat) (c : UInt8) (t : List UInt8) (x : V) (r : List UInt8) (h3 : c ≠ 3) (h : rdV d (c :: t) = some (x, r)) : Rd1 d (c :: t) x r := by
  by_cases h1 : c = 1
  · subst h1
    rw [rdV_1] at h
    cases hN : rdNum 0 0 t with
    | none => rw [hN] at h; cases h
    | some p =>
      obtain ⟨u, t'⟩ := p
      rw [hN] at h; simp at h
      obtain ⟨rfl, rfl⟩ := h
      obtain ⟨e1, e2⟩ := num_snd hN
      refine ⟨?_, by simp [Go.Proofs.Ytlocilbcmcfmaaa.fm, ByteArray.toList_eq], by rw [dp_1]; omega, fun _ => ⟨by unfold I64; omega, sgn_I64 u e2, Nat.zero_le _, Nat.zero_le _, trivial⟩⟩
      rw [enc_1, uns_sgn, e1]; simp
  by_cases h2 : c = 2
  · subst h2
    rw [rdV_2] at h
    cases hN : rdLen t with
    | none => rw [hN] at h; cases h
    | some p =>
      obtain ⟨n, t'⟩ := p
      rw [hN] at h; simp at h
      obtain ⟨rfl, rfl⟩ := h
      obtain ⟨e1, e2, e3⟩ := rdLen_snd hN
      have hsz : (⟨(t'.take n).toArray⟩ : ByteArray).size = n := by simp [ByteArray.size]; omega
      refine ⟨?_, by simp [Go.Proofs.Ytlocilbcmcfmaaa.fm], by rw [dp_2]; omega, fun hl => ⟨by unfold I64; omega, by unfold I64; omega, ?_, Nat.zero_le _, trivial⟩⟩
      · rw [enc_2, hsz, e1]; simp
      · rw [hsz]; simp only [List.length_cons] at hl; rw [e1] at hl; simp at hl; omega
  · rw [rdV_bad d c t h1 h2 h3] at h; cases h
theorem rdV_sound : ∀ (d : Nat) (l : List UInt8) (x : V) (r : List UInt8), rdV d l = some (x, r) → Rd1 d l x r := by
  intro d
  induction d with
  | zero =>
    intro l x r h
    cases l with
    | nil => rw [rdV_nil] at h; cases h
    | cons c t =>
      by_cases h3 : c = 3
      · subst h3; rw [rdV_30] at h; cases h
      · exact sound_12 0 c t x r h3 h
  | succ d ih =>
    intro l x r h
    cases l with
    | nil => rw [rdV_nil] at h; cases h
    | cons c t =>
      by_cases h3 : c = 3
      · subst h3
        rw [rdV_3] at h
        cases hN : rdLen t with
        | none => rw [hN] at h; cases h
        | some p =>
          obtain ⟨n, t'⟩ := p
          rw [hN] at h; simp only at h
          cases hM : rdVs (rdV d) n t' with
          | none => rw [hM] at h; cases h
          | some q =>
            obtain ⟨xs, t''⟩ := q
            rw [hM] at h; simp at h
            obtain ⟨rfl, rfl⟩ := h
            obtain ⟨e1, e2, e3⟩ := rdLen_snd hN
            obtain ⟨g1, g2, g3, g4, g5⟩ := rdVs_sound d ih n t' xs t'' hM
            have hlen : t'.length ≤ (3 :: t).length := by rw [e1]; simp; omega
            refine ⟨?_, by simp [Go.Proofs.Ytlocilbcmcfmaaa.fm, g3, ByteArray.toList_eq], by rw [dp_3]; omega, fun hl => ⟨by unfold I64; omega, by unfold I64; omega, Nat.zero_le _, by omega, g5 (by omega)⟩⟩
            rw [enc_3, g1, e1, g2]; simp
      · exact sound_12 (d + 1) c t x r h3 h

theorem ck_ok {x : V} (h : ck x = 0) : fm x = true ∧ dp x ≤ 16 := by
  unfold ck at h
  by_cases hf : fm x = true
  · rw [if_pos hf] at h
    refine ⟨hf, ?_⟩
    by_cases h16 : 16 < dp x
    · rw [if_pos h16] at h; cases h
    · omega
  · rw [if_neg hf] at h; cases h
theorem ok_ck {x : V} (h1 : fm x = true) (h2 : dp x ≤ 16) : ck x = 0 := by unfold ck; rw [if_pos h1, if_neg (by omega)]
/-- what is encoded is decoded -/
theorem decF_enc {x : V} (h : ck x = 0) (hok : okV x) : decF (enc x) = some x := by
  obtain ⟨h1, h2⟩ := ck_ok h
  have := rdV_enc 16 x h1 h2 hok []
  rw [List.append_nil] at this
  unfold decF; rw [this]
/-- what is decoded was encoded so -/
theorem decF_sound {l : List UInt8} {x : V} (h : decF l = some x) (hl : l.length ≤ maxLen) : enc x = l ∧ ck x = 0 ∧ okV x ∧ sz x ≤ 13 * l.length := by
  unfold decF at h
  cases hN : rdV 16 l with
  | none => rw [hN] at h; cases h
  | some p =>
    obtain ⟨y, r⟩ := p
    rw [hN] at h
    cases r with
    | cons c r => cases h
    | nil =>
      simp at h; subst h
      obtain ⟨e, f, g, o⟩ := rdV_sound 16 l y [] hN
      rw [List.append_nil] at e
      refine ⟨e.symm, ok_ck f g, o hl, ?_⟩
      rw [e]; exact (enc_len f).1
/-- no encoding begins another -/
theorem enc_prefix {x y : V} (hx : ck x = 0) (hy : ck y = 0) (ox : okV x) (oy : okV y) (r s : List UInt8) (h : enc x ++ r = enc y ++ s) : x = y ∧ r = s := by
  have h1 := rdV_enc 16 x (ck_ok hx).1 (ck_ok hx).2 ox r
  have h2 := rdV_enc 16 y (ck_ok hy).1 (ck_ok hy).2 oy s
  rw [h] at h1
  rw [h1] at h2
  simpa using h2
end Go.Proofs.Ytlocilbcmcfmaaa
/- a list of values that are numbers, built by append. -/
namespace Go.Proofs.Ytlocilbcmcfmaaa
open Go.RowKit
/-- a value that is a number -/
def iV (x : Int) : V := .mk 1 x ⟨#[]⟩ []
def lsI (xs : List Int) : V := .mk 3 0 ⟨#[]⟩ (xs.map iV)
def ivK : EK Int := ⟨4, fun x => [.int .i64 1, .int .i64 x, .string ⟨#[]⟩, .slice none 0 0], fun _ => rfl, fun x u hu => by simp only [List.mem_cons, List.not_mem_nil, or_false] at hu; rcases hu with rfl | rfl | rfl | rfl <;> rfl, by decide⟩
theorem v_info : (Try.prog.info? 54).map (fun i => (i.zero, i.size, i.bytes)) = some (some (.agg #[.int .i64 0, .int .i64 0, .string ⟨#[]⟩, .slice none 0 0]), 4, 56) := by kernel_rfl
theorem iv_ats {B : Nat} {w : World} {b : Nat} (hb : b < B) : ∀ (xs : List Int) (off : Nat), (∀ x ∈ xs, I64 x) → (∀ j x, xs[j]? = some x → ElAt ivK w b (off + j * 4) x) → V.ats B w (xs.map iV) b off
  | [], _, _, _ => trivial
  | x :: r, off, hi, h => by
    have h0 := h 0 x rfl
    rw [Nat.zero_mul, Nat.add_zero] at h0
    refine ⟨⟨hb, by unfold I64; omega, hi x List.mem_cons_self, by unfold maxLen; decide, h0 0 _ rfl, h0 1 _ rfl, h0 2 _ rfl, _, h0 3 _ rfl, .inl ⟨rfl, _, _, rfl⟩⟩, iv_ats hb r (off + 4) (fun y hy => hi y (List.mem_cons_of_mem _ hy)) fun j y hj => ?_⟩
    have := h (j + 1) y (by simpa using hj)
    rw [show off + 4 + j * 4 = off + (j + 1) * 4 by omega]; exact this
theorem iv_sl {B : Nat} {w : World} {xs : List Int} {v : Value} (hi : ∀ x ∈ xs, I64 x) (h : LsAt ivK B w xs v) : SlV B w (xs.map iV) v := by
  rcases h with ⟨rfl, oa, cap, rfl⟩ | ⟨b, off, cap, rfl, h2, h3, h4, h5⟩
  · exact .inl ⟨rfl, oa, cap, rfl⟩
  · by_cases h0 : xs = []
    · subst h0; exact .inl ⟨rfl, _, _, rfl⟩
    · refine .inr ⟨by simpa using h0, b, off, cap, by rw [List.length_map], by rw [List.length_map]; omega, iv_ats h4 xs off hi h5⟩
theorem iv_rd {B : Nat} {w : World} {xs : List Int} {v : Value} (hi : ∀ x ∈ xs, I64 x) (h : LsAt ivK B w xs v) : RdV B w (lsI xs) (.agg #[.int .i64 3, .int .i64 0, .string ⟨#[]⟩, v]) :=
  ⟨by show I64 3; unfold I64; omega, by show I64 0; unfold I64; omega, by show (0 : Nat) ≤ _; unfold maxLen; decide, v, rfl, iv_sl hi h⟩
theorem iv_sz : ∀ xs : List Int, szs (xs.map iV) ≤ 30 * xs.length
  | [] => by simp [szs]
  | x :: r => by
    have := iv_sz r
    simp only [List.map_cons, szs, iV, sz, List.length_cons]
    have h0 : (⟨#[]⟩ : ByteArray).size = 0 := rfl
    simp only [h0, List.length_nil]
    omega
theorem iv_fm : ∀ xs : List Int, fms (xs.map iV) = true ∧ dps (xs.map iV) = 0
  | [] => by simp [fms, dps]
  | x :: r => by
    obtain ⟨h1, h2⟩ := iv_fm r
    simp only [List.map_cons, fms, dps, h1, h2]
    constructor
    · simp [iV, fm, ByteArray.toList_eq]
    · simp [iV, dp]
theorem lsI_ck (xs : List Int) : ck (lsI xs) = 0 := by
  obtain ⟨h1, h2⟩ := iv_fm xs
  refine ok_ck ?_ ?_
  · unfold lsI; simp [fm, h1, ByteArray.toList_eq]
  · unfold lsI; simp [dp, h2]
theorem lsI_sz (xs : List Int) : sz (lsI xs) ≤ 30 * xs.length + 60 := by
  have := iv_sz xs
  unfold lsI
  simp only [sz, List.length_map]
  have h0 : (⟨#[]⟩ : ByteArray).size = 0 := rfl
  simp only [h0]
  omega
theorem iv_oks : ∀ xs : List Int, (∀ x ∈ xs, I64 x) → okVs (xs.map iV)
  | [], _ => by simp [okVs]
  | x :: r, h => by
    have := iv_oks r fun y hy => h y (List.mem_cons_of_mem _ hy)
    have hx := h x List.mem_cons_self
    have h0 : (⟨#[]⟩ : ByteArray).size ≤ maxLen := by show (0 : Nat) ≤ _; unfold maxLen; decide
    simp only [List.map_cons, okVs, iV, okV]
    refine ⟨?_, this⟩
    first
      | exact ⟨by unfold I64; omega, hx, h0, by simp⟩
      | exact ⟨by unfold I64; omega, hx, h0, by simp, by simp [okVs]⟩
      | exact ⟨by unfold I64; omega, hx, h0, trivial, by unfold maxLen; simp⟩
theorem lsI_ok {xs : List Int} (h : ∀ x ∈ xs, I64 x) (hl : xs.length ≤ 1000) : okV (lsI xs) := by
  have := iv_oks xs h
  have h0 : (⟨#[]⟩ : ByteArray).size ≤ maxLen := by show (0 : Nat) ≤ _; unfold maxLen; decide
  unfold lsI
  simp only [okV]
  first
    | exact ⟨by unfold I64; omega, by unfold I64; omega, h0, by rw [List.length_map]; unfold maxLen; omega, this⟩
    | exact ⟨by unfold I64; omega, by unfold I64; omega, h0, this, by rw [List.length_map]; unfold maxLen; omega⟩
    | exact ⟨by unfold I64; omega, by unfold I64; omega, h0, this⟩
theorem own_belowK {α : Type} {K : EK α} {e : TypeId} {w0 w1 w2 : World} {base : Nat} {v : Value} {l : List α} (hb : Below w0.heap.size w0 w1) (hO : OwnK K e w1 base v l) (hg : w1.grownBy w2 v.ownBlock) (hbs : w0.heap.size ≤ base := by omega) : Below w0.heap.size w0 w2 :=
  hb.trans ⟨hg.os, hg.tape, hg.output, hg.size, fun k hk => hg.block k (Nat.lt_of_lt_of_le hk hb.size) (fun e => by have := (hO.lt k e.symm).1; omega)⟩
end Go.Proofs.Ytlocilbcmcfmaaa
/- lease.Encode. -/
namespace Go.Proofs.Ytlocilbcmcfmaaa
open Go.RowKit
def cmX (c : Cm) : List Int := [c.kd, c.sl, c.ai, c.fl, c.tk]
theorem arr5_0 (a b c d e : Int) (w : World) : (Instr.index 73 (.agg #[.int .i64 a, .int .i64 b, .int .i64 c, .int .i64 d, .int .i64 e]) (.int .i64 0)).run Try.prog w = .ok (.int .i64 a) w := by kernel_rfl
theorem arr5_1 (a b c d e : Int) (w : World) : (Instr.index 73 (.agg #[.int .i64 a, .int .i64 b, .int .i64 c, .int .i64 d, .int .i64 e]) (.int .i64 1)).run Try.prog w = .ok (.int .i64 b) w := by kernel_rfl
theorem arr5_2 (a b c d e : Int) (w : World) : (Instr.index 73 (.agg #[.int .i64 a, .int .i64 b, .int .i64 c, .int .i64 d, .int .i64 e]) (.int .i64 2)).run Try.prog w = .ok (.int .i64 c) w := by kernel_rfl
theorem arr5_3 (a b c d e : Int) (w : World) : (Instr.index 73 (.agg #[.int .i64 a, .int .i64 b, .int .i64 c, .int .i64 d, .int .i64 e]) (.int .i64 3)).run Try.prog w = .ok (.int .i64 d) w := by kernel_rfl
theorem arr5_4 (a b c d e : Int) (w : World) : (Instr.index 73 (.agg #[.int .i64 a, .int .i64 b, .int .i64 c, .int .i64 d, .int .i64 e]) (.int .i64 4)).run Try.prog w = .ok (.int .i64 e) w := by kernel_rfl
theorem arr5_at (c : Cm) (k : Nat) (x : Int) (h : (cmX c)[k]? = some x) (w : World) : (Instr.index 73 (.agg #[.int .i64 c.kd, .int .i64 c.sl, .int .i64 c.ai, .int .i64 c.fl, .int .i64 c.tk]) (.int .i64 (k : Int))).run Try.prog w = .ok (.int .i64 x) w := by
  match k, h with
  | 0, h => have h : some c.kd = some x := h; obtain rfl := Option.some.inj h; rw [show ((0 : Nat) : Int) = 0 from rfl]; exact arr5_0 _ _ _ _ _ w
  | 1, h => have h : some c.sl = some x := h; obtain rfl := Option.some.inj h; rw [show ((1 : Nat) : Int) = 1 from rfl]; exact arr5_1 _ _ _ _ _ w
  | 2, h => have h : some c.ai = some x := h; obtain rfl := Option.some.inj h; rw [show ((2 : Nat) : Int) = 2 from rfl]; exact arr5_2 _ _ _ _ _ w
  | 3, h => have h : some c.fl = some x := h; obtain rfl := Option.some.inj h; rw [show ((3 : Nat) : Int) = 3 from rfl]; exact arr5_3 _ _ _ _ _ w
  | 4, h => have h : some c.tk = some x := h; obtain rfl := Option.some.inj h; rw [show ((4 : Nat) : Int) = 4 from rfl]; exact arr5_4 _ _ _ _ _ w
  | k + 5, h => cases h
/-- the loop: the list so far -/
def EncRel (c : Cm) (w : World) (i : Value) (wr : World) : Prop :=
  ∃ (k : Nat) (v : Value), k ≤ 5 ∧ i = .int .i64 k ∧ Below w.heap.size w wr ∧ CB wr (w.heap.size + 1) 54 [.int .i64 3, .int .i64 0, .string ⟨#[]⟩, v] ∧ OwnK ivK 54 wr (w.heap.size + 1 + 1) v ((cmX c).take k)
def EncCm (c : Cm) (w : World) (e : Ending) (w' : World) : Prop :=
  Below w.heap.size w w' ∧ ∃ b, e = .returned (.tuple #[b, .int .i64 0]) ∧ RdB w' b (enc (lsI (cmX c)))
set_option maxRecDepth 100000 in
set_option maxHeartbeats 4000000 in
theorem encode35_any (c : Cm) (w : World) (hI : ∀ x ∈ cmX c, I64 x) : Calls Try.prog 15 #[c.v] w (EncCm c w) := by
  have HI := Lib.hid hI
  clear hI
  have hcb : Hid (CB ((w.alloc (.cells #[.int .i64 c.kd, .int .i64 c.sl, .int .i64 c.ai, .int .i64 c.fl, .int .i64 c.tk] 33)).alloc (.cells #[.int .i64 3, .int .i64 0, .string ⟨#[]⟩, .slice none 0 0] 54)) w.heap.size 33 c.cells) := (CB.new w _ _).alloc _
  have hcv : Hid (CB ((w.alloc (.cells #[.int .i64 c.kd, .int .i64 c.sl, .int .i64 c.ai, .int .i64 c.fl, .int .i64 c.tk] 33)).alloc (.cells #[.int .i64 3, .int .i64 0, .string ⟨#[]⟩, .slice none 0 0] 54)) (w.heap.size + 1) 54 [.int .i64 3, .int .i64 0, .string ⟨#[]⟩, .slice none 0 0]) := cb_two w _ _ _
  have hB : Hid (Below w.heap.size w ((w.alloc (.cells #[.int .i64 c.kd, .int .i64 c.sl, .int .i64 c.ai, .int .i64 c.fl, .int .i64 c.tk] 33)).alloc (.cells #[.int .i64 3, .int .i64 0, .string ⟨#[]⟩, .slice none 0 0] 54))) := by
    refine Below.alloc ((Below.refl w.heap.size w).alloc (Nat.le_refl _) _) ?_ _; simp only [World.size_alloc]; omega
  change Calls Try.prog 15 #[.agg #[.int .i64 c.kd, .int .i64 c.sl, .int .i64 c.ai, .int .i64 c.fl, .int .i64 c.tk]] w _
  go_enter Try.func15, Try.ntmps15
  go_upto_region 2 with fail
  generalize (w.alloc (.cells #[.int .i64 c.kd, .int .i64 c.sl, .int .i64 c.ai, .int .i64 c.fl, .int .i64 c.tk] 33)).alloc (.cells #[.int .i64 3, .int .i64 0, .string ⟨#[]⟩, .slice none 0 0] 54) = w0 at *
  have c0 : w0.cell? ⟨w.heap.size, 0, none⟩ = some (.int .i64 c.kd) := hcb.out.cell 0
  have c1 : w0.cell? ⟨w.heap.size, 1, none⟩ = some (.int .i64 c.sl) := hcb.out.cell 1
  have c2 : w0.cell? ⟨w.heap.size, 2, none⟩ = some (.int .i64 c.ai) := hcb.out.cell 2
  have c3 : w0.cell? ⟨w.heap.size, 3, none⟩ = some (.int .i64 c.fl) := hcb.out.cell 3
  have c4 : w0.cell? ⟨w.heap.size, 4, none⟩ = some (.int .i64 c.tk) := hcb.out.cell 4
  go_wp2_with fail
  clear c0 c1 c2 c3 c4
  go_loopw [6, 19] (fun _ i wr => EncRel c w i wr) (fun _ i _ => 5 - (intOf i).toNat)
  case atStart => exact ⟨0, _, by omega, rfl, hB.out, hcv.out, OwnK.nil _ _ _⟩
  case round =>
    obtain ⟨k, v, hk, rfl, hb, hc, hO⟩ := hrel
    have HB := Lib.hid hb; have HC := Lib.hid hc; have HO := Lib.hid hO
    clear hb hc hO
    obtain ⟨oa, cap, rfl, _⟩ := HO.out.rd.shape
    have hlen : ((cmX c).take k).length = k := by rw [List.length_take]; simp [cmX]; omega
    by_cases hlt : k < 5
    · have tj : decide ((k : Int) < 5) = true := by simp; omega
      have tj' : decide (k < 5) = true := by simp; omega
      have kb : (k : Int) < 5 := by omega
      obtain ⟨x, hx⟩ : ∃ x, (cmX c)[k]? = some x := ⟨_, List.getElem?_eq_getElem (by simp [cmX]; omega)⟩
      have hix := fun w => arr5_at c k x hx w
      have hts := Lib.hid (take_snoc hx)
      have Hlen := Lib.hid hlen
      generalize hxs : (cmX c).take k = xs at *
      have Hxs := Lib.hid hxs
      clear hlen hx hxs
      have v3 : wr.cell? ⟨w.heap.size + 1, 3, none⟩ = some (.slice oa xs.length cap) := HC.out.cell 3
      have hgl := Lib.hid (HC.out.lt)
      have hn : Hid (OwnK ivK 54 (wr.alloc (.cells #[.int .i64 1, .int .i64 x, .string ⟨#[]⟩, .slice none 0 0] 54)) (w.heap.size + 1 + 1) (.slice oa xs.length cap) xs) := HO.out.alloc _
      have hsrc : Hid (Src Try.prog 4 52 (.slice (some ⟨wr.heap.size, 0, none⟩) 1 1) 1 (ivK.flat [x]) (wr.alloc (.cells #[.int .i64 1, .int .i64 x, .string ⟨#[]⟩, .slice none 0 0] 54))) := src_el (K := ivK) (a := x) Try.underlying52 (CB.new wr _ _)
      have hB4 := Lib.hid (HB.out.alloc HB.out.size (.cells #[.int .i64 1, .int .i64 x, .string ⟨#[]⟩, .slice none 0 0] 54))
      have hC4 := Lib.hid (HC.out.alloc (.cells #[.int .i64 1, .int .i64 x, .string ⟨#[]⟩, .slice none 0 0] 54))
      have hg4 := Lib.hid (show w.heap.size + 1 + 1 ≤ (wr.alloc (.cells #[.int .i64 1, .int .i64 x, .string ⟨#[]⟩, .slice none 0 0] 54)).heap.size by have := hgl.out; rw [World.size_alloc]; omega)
      go_wp2_with (at_builtin; refine wpList_append_x (e := 54) (z := (.agg #[.int .i64 0, .int .i64 0, .string ⟨#[]⟩, .slice none 0 0])) (size := 4) (bytes := 56) Try.underlying52 v_info rfl rfl _ _ rfl (w.heap.size + 1 + 1) _ xs.length (ivK.flat xs) rfl hn.out _ 1 (ivK.flat [x]) rfl hsrc.out (by have := Hlen.out; unfold maxLen; omega) (by have := Hlen.out; omega) hg4.out ?_; intro v5 w5 ho5 hg5 hn5; have HO5 : Hid (OwnK ivK 54 w5 (w.heap.size + 1 + 1) v5 (xs ++ [x])) := OwnK.append (K := ivK) ho5 (by simp); have HC5 := Lib.hid (hC4.out.keep (hg5.block _ hC4.out.lt (fun e => by have := (hn.out.lt _ e.symm).1; omega))); have HB5 := Lib.hid (own_belowK hB4.out hn.out hg5); have y3 : w5.cell? ⟨w.heap.size + 1, 3, none⟩ = some (.slice oa xs.length cap) := HC5.out.cell 3; have z3 : w5.frozen? ⟨w.heap.size + 1, 3, none⟩ = false := HC5.out.frozen _; obtain ⟨o6, c6, hv5, _⟩ := HO5.out.rd.shape; have hl6 : (xs ++ [x]).length = k + 1 := (by simp [Hlen.out]); rw [hl6] at hv5; subst hv5; clear ho5 hg5 hn5 hl6)
      have hno : Hid ((Value.slice o6 (k + 1) c6).ownBlock ≠ some (w.heap.size + 1)) := fun e => by have := (HO5.out.lt _ e).1; omega
      have HO6 := Lib.hid (HO5.out.far2 (i := 3) hno.out (.slice o6 (k + 1) c6))
      have HC6 := Lib.hid (HC5.out.set 3 (.slice o6 (k + 1) c6))
      have HB6 := Lib.hid (HB5.out.setCell (p := ⟨w.heap.size + 1, 3, none⟩) (Nat.le_succ _) (.slice o6 (k + 1) c6))
      go_roundw
      case rel => exact ⟨k + 1, _, by omega, by go_num, HB6.out, HC6.out, by rw [hts.out]; exact HO6.out⟩
      case measure => simp [intOf]; omega
    · obtain rfl : k = 5 := by omega
      have tj : decide (((5 : Nat) : Int) < 5) = false := by simp
      have hall : Hid ((cmX c).take 5 = cmX c) := by show _ = _; simp [cmX]
      rw [hall.out] at HO HC hlen
      generalize hxs : cmX c = xs at *
      have Hxs := Lib.hid hxs
      clear hxs hall
      have v0 : wr.cell? ⟨w.heap.size + 1, 0, none⟩ = some (.int .i64 3) := HC.out.cell 0
      have v1 : wr.cell? ⟨w.heap.size + 1, 1, none⟩ = some (.int .i64 0) := HC.out.cell 1
      have v2 : wr.cell? ⟨w.heap.size + 1, 2, none⟩ = some (.string ⟨#[]⟩) := HC.out.cell 2
      have v3 : wr.cell? ⟨w.heap.size + 1, 3, none⟩ = some (.slice oa xs.length cap) := HC.out.cell 3
      have hcall : Hid (Calls Try.prog 17 #[.agg #[.int .i64 3, .int .i64 0, .string ⟨#[]⟩, .slice oa xs.length cap]] wr (EncPost (lsI xs) wr)) :=
        encode_any (lsI xs) (by have := lsI_sz xs; omega) _ wr (iv_rd HI.out HO.out.rd)
      have Hlen := Lib.hid hlen
      clear hlen
      go_wp2_with (go_at_call 17; refine hcall.out.mono ?_; rintro e w7 ⟨bv, rfl, hrb, hb7⟩; rw [lsI_ck] at *; rw [if_pos rfl] at hrb; have HR7 := Lib.hid hrb; clear hrb)
      go_ret2
      exact ⟨below_ext HB.out hb7, _, rfl, by first | exact HR7.out | (rw [Hxs.out]; exact HR7.out)⟩
end Go.Proofs.Ytlocilbcmcfmaaa
/- Decode, for whoever reads on. -/
namespace Go.Proofs.Ytlocilbcmcfmaaa
open Go.RowKit
theorem grown_below {w w' : World} (h : w.grownBy w' none) : Below w.heap.size w w' := ⟨h.os, h.tape, h.output, h.size, fun k hk => h.block k hk (by simp)⟩
theorem decode_rd (l : List UInt8) (hl : l.length ≤ 1000000) (v : Value) (w : World) (hb : BtsAt w.heap.size w l v) : Calls Try.prog 29 #[v] w (DecRd (decF l) w) := by
  refine (decode_any w.heap.size l hl v w hb (Nat.le_refl _)).mono ?_
  intro e w' h
  cases ho : decF l with
  | none => rw [ho] at h; exact ⟨h.1, grown_below h.2⟩
  | some x =>
    rw [ho] at h
    obtain ⟨v, rfl, hv, hg⟩ := h
    have hr : RdV w'.heap.size w' x v := hv.rd (B := w'.heap.size) fun k hk => hk.2
    obtain ⟨oa, cap, rfl, _⟩ := hr.form
    exact ⟨oa, cap, rfl, hr, grown_below hg⟩
theorem slV_nil (B : Nat) (w : World) : SlV B w [] (.slice none 0 0) := .inl ⟨rfl, none, 0, rfl⟩
end Go.Proofs.Ytlocilbcmcfmaaa
