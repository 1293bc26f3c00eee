/- codec.Decode: the walk where all is read. -/
import Derived.Test.YtebedfcdbhgfdaaDed
namespace Go.Proofs.Ytebedfcdbhgfdaa
open Go.RowKit

/-- the world at Decode's return -/
def FinT (w9 : World) (V E : Nat) (a b c d : Value) : World :=
  ((((((((w9.setCell ⟨V, 0, none⟩ a).setCell ⟨V, 1, none⟩ b).setCell ⟨V, 2, none⟩ c).setCell ⟨V, 3, none⟩ d).setCell ⟨V, 0, none⟩ a).setCell ⟨V, 1, none⟩ b).setCell ⟨V, 2, none⟩ c).setCell ⟨V, 3, none⟩ d).setCell ⟨E, 0, none⟩ (.int .i64 0)
structure FinS (w9 : World) (V E : Nat) (a b c d : Value) (wf : World) : Prop where
  c0 : wf.cell? ⟨V, 0, none⟩ = some a
  c1 : wf.cell? ⟨V, 1, none⟩ = some b
  c2 : wf.cell? ⟨V, 2, none⟩ = some c
  c3 : wf.cell? ⟨V, 3, none⟩ = some d
  e0 : wf.cell? ⟨E, 0, none⟩ = some (.int .i64 0)
  sz : wf.heap.size = w9.heap.size
  old : ∀ k, k ≠ V → k ≠ E → wf.heap[k]? = w9.heap[k]?
  gr : ∀ (base : World) (G : Option Nat), base.grownBy w9 G → base.heap.size ≤ V → base.heap.size ≤ E → base.grownBy wf G
theorem finS (w9 : World) (V E : Nat) (a b c d x y z u e : Value) (h : BoxAt w9 V x y z u) (he : w9.cell? ⟨E, 0, none⟩ = some e) (hne : V ≠ E) : FinS w9 V E a b c d (FinT w9 V E a b c d) := by
  have hb := box_set (box_set h a b c d) a b c d
  have he2 : ((((((((w9.setCell ⟨V, 0, none⟩ a).setCell ⟨V, 1, none⟩ b).setCell ⟨V, 2, none⟩ c).setCell ⟨V, 3, none⟩ d).setCell ⟨V, 0, none⟩ a).setCell ⟨V, 1, none⟩ b).setCell ⟨V, 2, none⟩ c).setCell ⟨V, 3, none⟩ d).cell? ⟨E, 0, none⟩ = some e := by simp [go_sem, he]
  refine ⟨?_, ?_, ?_, ?_, World.cell?_setCell_same' _ _ _ (by rw [he2]; rfl), by simp [FinT, World.setCell], ?_, ?_⟩
  · exact (World.cell?_setCell_other _ _ _ _ (by simp)).trans hb.c0
  · exact (World.cell?_setCell_other _ _ _ _ (by simp)).trans hb.c1
  · exact (World.cell?_setCell_other _ _ _ _ (by simp)).trans hb.c2
  · exact (World.cell?_setCell_other _ _ _ _ (by simp)).trans hb.c3
  · intro k h1 h2
    unfold FinT
    rw [Below.heap_setCell _ _ _ _ (by exact h2), Below.heap_setCell _ _ _ _ (by exact h1), Below.heap_setCell _ _ _ _ (by exact h1), Below.heap_setCell _ _ _ _ (by exact h1), Below.heap_setCell _ _ _ _ (by exact h1), Below.heap_setCell _ _ _ _ (by exact h1), Below.heap_setCell _ _ _ _ (by exact h1), Below.heap_setCell _ _ _ _ (by exact h1), Below.heap_setCell _ _ _ _ (by exact h1)]
  · intro base G hg hV hE
    exact grown_set_new (grown_set_new (grown_set_new (grown_set_new (grown_set_new (grown_set_new (grown_set_new (grown_set_new (grown_set_new hg hV) hV) hV) hV) hV) hV) hV) hV) hE
set_option maxRecDepth 100000 in
set_option maxHeartbeats 4000000 in
theorem decode_some (B : Nat) (l : List UInt8) (hl : l.length ≤ 1000000) (oa : Option Addr) (cap : Nat) (w : World) (hb : BtsAt B w l (.slice oa l.length cap)) (hB : B ≤ w.heap.size) (x : V) (r : List UInt8) (hN : rdV 16 l = some (x, r)) (hr : r = []) :
    Calls Try.prog 18 #[.slice oa l.length cap] w (DecPost (some x) w) := by
  have hmf : ∀ (fn : Fn) (first cap : Array Value) (w : World), (Instr.makeFunc fn first cap).run Try.prog w = .ok (.func fn first cap) w := fun _ _ _ _ => rfl
  have HR := Lib.hid (decW_rdr hb hB)
  have hx := Lib.hid (decW_box w (.slice oa l.length cap))
  have hy := Lib.hid (decW_e w (.slice oa l.length cap))
  have hg0 := Lib.hid (decW_grown w (.slice oa l.length cap) none)
  have hsz := Lib.hid (decW_size w (.slice oa l.length cap))
  have HN := Lib.hid hN; clear hN hb
  have hrl : ((r.length : Int) == 0) = true := by cases r <;> simp_all <;> omega
  have hbnd : (r.length : Int) ≤ 1000000 := by have := rdV_len 16 l x r HN.out; omega
  clear hr
  go_enter_defers Try.func18, Try.ntmps18
  go_wp2_with (first
    | (go_at_call 32; refine (value_any 16 (by omega) w.heap.size (w.heap.size + 1 + 1) l 0 (by simp) hl (DecW w (.slice oa l.length cap)) HR.out (by rw [hsz.out]; omega)).mono ?_; rw [HN.out]; rintro e w9 ⟨v9, rfl, ⟨z1, z2, z3, lx, rfl, z4⟩, hrd9, hg9⟩
       obtain ⟨xo, xn, xc, rfl⟩ := z4.shape
       have hs0 := hsz.out
       have hs9 := hg9.size
       have hx9 := Lib.hid (hx.out.grown hg9 (by omega))
       obtain ⟨x0, x1, x2, x3, xf⟩ := hx9.out
       have hy9 := hg9.block (w.heap.size + 1) (by omega) (fun e => by injection e; omega)
       have e0 : w9.cell? ⟨w.heap.size + 1, 0, none⟩ = some (.int .i64 0) := (World.cell?_of_block (w := DecW w _) hy9).trans hy.out.1
       have ef : w9.frozen? ⟨w.heap.size + 1, 0, none⟩ = false := (World.frozen?_of_block (w := DecW w _) hy9).trans hy.out.2
       obtain ⟨_, fR, vR, cR, bR⟩ := hrd9
       obtain ⟨oR, capR, rfl⟩ := bR.shape
       have Z := Lib.hid (And.intro z1 (And.intro z2 (And.intro z3 z4)))
       clear hy9 bR z1 z2 z3 z4
       have hgw := Lib.hid (grown_trans (G := none) hg0.out hg9 (.inr fun g hg => by injection hg; omega)))
    | (go_at_call 33; refine (want_true _ _).mono ?_; rintro e w' ⟨rfl, rfl⟩))
  have hf := finS w9 w.heap.size (w.heap.size + 1) (.int .i64 x.kind) (.int .i64 x.n) (.string x.s) (.slice xo xn xc) _ _ _ _ _ hx9.out e0 (by omega)
  change bodyPostD _ _ _ _ _ (FinT w9 w.heap.size (w.heap.size + 1) (.int .i64 x.kind) (.int .i64 x.n) (.string x.s) (.slice xo xn xc))
  generalize FinT w9 w.heap.size (w.heap.size + 1) (.int .i64 x.kind) (.int .i64 x.n) (.string x.s) (.slice xo xn xc) = wf at hf ⊢
  obtain ⟨y0, y1, y2, y3, y4, ys, yo, yg⟩ := hf
  have YO := Lib.hid yo; have YG := Lib.hid yg; clear yo yg
  refine leaves_cons (f := 31) (args := #[.pointer (some ⟨w.heap.size, 0, none⟩), .pointer (some ⟨w.heap.size + 1, 0, none⟩)]) (by simp) (by simp [go_sem]) ?_
  refine (catch_idle w.heap.size (w.heap.size + 1) wf).mono ?_
  rintro e u' w'' ⟨rfl, rfl, rfl⟩
  simp [Leaves, settle, results, Try.results18, go_sem, y0, y1, y2, y3, y4]
  refine ⟨_, rfl, ⟨Z.out.1, Z.out.2.1, Z.out.2.2.1, _, rfl, Z.out.2.2.2.keep (fun k hk => ⟨by omega, by omega⟩) (fun k hk => YO.out k (by omega) (by omega))⟩, YG.out w none hgw.out (Nat.le_refl _) (by omega)⟩
/-- Decode, whatever it is handed -/
theorem decode_any (B : Nat) (l : List UInt8) (hl : l.length ≤ 1000000) (v : Value) (w : World) (hb : BtsAt B w l v) (hB : B ≤ w.heap.size) :
    Calls Try.prog 18 #[v] w (DecPost (decF l) w) := by
  obtain ⟨oa, cap, rfl⟩ := hb.shape
  unfold decF
  cases hN : rdV 16 l with
  | none => exact decode_none B l hl oa cap w hb hB hN
  | some p =>
    obtain ⟨x, r⟩ := p
    cases r with
    | nil => exact decode_some B l hl oa cap w hb hB x [] hN rfl
    | cons c r => exact decode_junk B l hl oa cap w hb hB x (c :: r) hN (by simp)
end Go.Proofs.Ytebedfcdbhgfdaa
