/- codec.Decode: the walk. -/
import Derived.Test.YtebedfcdbhgfdaaDec
namespace Go.Proofs.Ytebedfcdbhgfdaa
open Go.RowKit

/-- what Decode answers -/
def decF (l : List UInt8) : Option V := match rdV 16 l with | some (x, []) => some x | _ => none
def DecPost (o : Option V) (w : World) (e : Ending) (w' : World) : Prop :=
  match o with
  | some x => ∃ v, e = .returned (.tuple #[v, .int .i64 0]) ∧ RdVD (fun k => w.heap.size ≤ k ∧ k < w'.heap.size) w' x v ∧ w.grownBy w' none
  | none => e = .returned (.tuple #[.agg #[.int .i64 0, .int .i64 0, .string ⟨#[]⟩, .slice none 0 0], .int .i64 10]) ∧ w.grownBy w' none

/-- the three things that Decode makes -/
def DecW (w : World) (v : Value) : World := ((w.alloc (.cells #[.int .i64 0, .int .i64 0, .string ⟨#[]⟩, .slice none 0 0] 24)).alloc (.cells #[.int .i64 0] 28)).alloc (.cells #[v] 58)
theorem decW_size (w : World) (v : Value) : (DecW w v).heap.size = w.heap.size + 1 + 1 + 1 := by simp [DecW]
theorem decW_grown (w : World) (v : Value) (G : Option Nat) : w.grownBy (DecW w v) G := grown_alloc (grown_alloc (grown_alloc (grown_refl w G) _) _) _
theorem cell_made (w : World) (v : Value) (t : TypeId) : (w.alloc (.cells #[v] t)).cell? ⟨w.heap.size, 0, none⟩ = some v := by simp
theorem decW_rdr {B : Nat} {l : List UInt8} {v : Value} {w : World} (hb : BtsAt B w l v) (hB : B ≤ w.heap.size) : RdrAt w.heap.size (DecW w v) (w.heap.size + 1 + 1) l := by
  refine ⟨by omega, ?_, v, ?_, ?_⟩
  · exact World.frozen?_alloc_at _ _ _ _ (by simp)
  · have e : ((w.alloc (.cells #[.int .i64 0, .int .i64 0, .string ⟨#[]⟩, .slice none 0 0] 24)).alloc (.cells #[.int .i64 0] 28)).heap.size = w.heap.size + 1 + 1 := by simp
    have h := cell_made ((w.alloc (.cells #[.int .i64 0, .int .i64 0, .string ⟨#[]⟩, .slice none 0 0] 24)).alloc (.cells #[.int .i64 0] 28)) v 58
    rw [e] at h; exact h
  · exact hb.keep hB fun k hk => (decW_grown w v none).block k (by omega) (by simp)
theorem decW_box (w : World) (v : Value) : BoxAt (DecW w v) w.heap.size (.int .i64 0) (.int .i64 0) (.string ⟨#[]⟩) (.slice none 0 0) := by
  have h := BoxAt.made w 24 (.int .i64 0) (.int .i64 0) (.string ⟨#[]⟩) (.slice none 0 0)
  exact h.grown (R := w.heap.size + 1) (grown_alloc (grown_alloc (grown_refl _ _) _) _) (by omega)
theorem decW_e (w : World) (v : Value) : (DecW w v).cell? ⟨w.heap.size + 1, 0, none⟩ = some (.int .i64 0) ∧ (DecW w v).frozen? ⟨w.heap.size + 1, 0, none⟩ = false := by
  have h : (DecW w v).heap[w.heap.size + 1]? = ((w.alloc (.cells #[.int .i64 0, .int .i64 0, .string ⟨#[]⟩, .slice none 0 0] 24)).alloc (.cells #[.int .i64 0] 28)).heap[w.heap.size + 1]? := Below.heap_alloc _ _ _ (by simp)
  exact ⟨(World.cell?_of_block (w := _) h).trans (by simp), (World.frozen?_of_block (w := _) h).trans (World.frozen?_alloc_at _ _ _ _ (by simp))⟩
theorem box_set {w : World} {V : Nat} {a b c d : Value} (h : BoxAt w V a b c d) (a' b' c' d' : Value) : BoxAt ((((w.setCell ⟨V, 0, none⟩ a').setCell ⟨V, 1, none⟩ b').setCell ⟨V, 2, none⟩ c').setCell ⟨V, 3, none⟩ d') V a' b' c' d' := by
  obtain ⟨x0, x1, x2, x3, xf⟩ := h
  refine ⟨?_, ?_, ?_, ?_, ?_⟩
  · simp [go_sem, x0]
  · simp [go_sem, x1]
  · simp [go_sem, x2]
  · simp [go_sem, x3]
  · intro o; simp [go_sem, xf]
theorem SlVD.shape {D : Nat → Prop} {w : World} {l : List V} {lv : Value} (h : SlVD D w l lv) : ∃ o n c, lv = .slice o n c := by
  rcases h with ⟨_, oa, cap, rfl⟩ | ⟨_, c, o, cap, rfl, _⟩
  · exact ⟨_, _, _, rfl⟩
  · exact ⟨_, _, _, rfl⟩
theorem BtsAt.shape {B : Nat} {w : World} {l : List UInt8} {v : Value} (h : BtsAt B w l v) : ∃ oa cap, v = .slice oa l.length cap := by
  rcases h with ⟨rfl, oa, cap, rfl, _⟩ | ⟨_, b, off, cap, rfl, _⟩
  · exact ⟨oa, cap, rfl⟩
  · exact ⟨_, cap, rfl⟩
set_option maxRecDepth 100000 in
set_option maxHeartbeats 1000000 in
theorem decode_none (B : Nat) (l : List UInt8) (hl : l.length ≤ 1000000) (oa : Option Addr) (cap : Nat) (w : World) (hb : BtsAt B w l (.slice oa l.length cap)) (hB : B ≤ w.heap.size) (hN : rdV 16 l = none) :
    Calls Try.prog 18 #[.slice oa l.length cap] w (DecPost none w) := by
  have hmf : ∀ (fn : Fn) (first cap : Array Value) (w : World), (Instr.makeFunc fn first cap).run Try.prog w = .ok (.func fn first cap) w := fun _ _ _ _ => rfl
  have HR := Lib.hid (decW_rdr hb hB)
  have hx := Lib.hid (decW_box w (.slice oa l.length cap))
  have hy := Lib.hid (decW_e w (.slice oa l.length cap))
  have hg0 := Lib.hid (decW_grown w (.slice oa l.length cap) none)
  have hsz := Lib.hid (decW_size w (.slice oa l.length cap))
  have HN := Lib.hid hN; clear hN hb
  go_enter_defers Try.func18, Try.ntmps18
  go_wp2_with (go_at_call 32; refine (value_any 16 (by omega) w.heap.size (w.heap.size + 1 + 1) l 0 (by simp) hl (DecW w (.slice oa l.length cap)) HR.out (by rw [hsz.out]; omega)).mono ?_; rw [HN.out]; rintro e w9 ⟨rfl, hg9⟩)
  refine leaves_cons (f := 31) (args := #[.pointer (some ⟨w.heap.size, 0, none⟩), .pointer (some ⟨w.heap.size + 1, 0, none⟩)]) (by simp) (by simp [go_sem]) ?_
  have hs0 := hsz.out
  have hy9 := hg9.block (w.heap.size + 1) (by omega) (fun e => by injection e; omega)
  refine (catch_panicking w.heap.size (w.heap.size + 1) _ _ _ _ (.int .i64 0) w9 (hx.out.grown hg9 (by omega)) ((World.cell?_of_block (w := DecW w _) hy9).trans hy.out.1) ((World.frozen?_of_block (w := DecW w _) hy9).trans hy.out.2) (by omega)).mono ?_
  rintro e u' w'' ⟨rfl, rfl, hx2, hy2, _, hg2⟩
  have hgw : w.grownBy w'' none := hg2 w none (grown_trans hg0.out hg9 (.inr fun g hg => by injection hg; omega)) (by omega) (by omega)
  obtain ⟨x0, x1, x2, x3, _⟩ := hx2
  simp [Leaves, settle, results, Try.results18, go_sem, x0, x1, x2, x3, hy2]
  exact ⟨rfl, hgw⟩
set_option maxRecDepth 100000 in
set_option maxHeartbeats 1000000 in
theorem decode_junk (B : Nat) (l : List UInt8) (hl : l.length ≤ 1000000) (oa : Option Addr) (cap : Nat) (w : World) (hb : BtsAt B w l (.slice oa l.length cap)) (hB : B ≤ w.heap.size) (x : V) (r : List UInt8) (hN : rdV 16 l = some (x, r)) (hr : r ≠ []) :
    Calls Try.prog 18 #[.slice oa l.length cap] w (DecPost none w) := by
  have hmf : ∀ (fn : Fn) (first cap : Array Value) (w : World), (Instr.makeFunc fn first cap).run Try.prog w = .ok (.func fn first cap) w := fun _ _ _ _ => rfl
  have HR := Lib.hid (decW_rdr hb hB)
  have hx := Lib.hid (decW_box w (.slice oa l.length cap))
  have hy := Lib.hid (decW_e w (.slice oa l.length cap))
  have hg0 := Lib.hid (decW_grown w (.slice oa l.length cap) none)
  have hsz := Lib.hid (decW_size w (.slice oa l.length cap))
  have HN := Lib.hid hN; clear hN hb
  have hrl : ((r.length : Int) == 0) = false := by cases r <;> simp_all <;> omega
  have hbnd : (r.length : Int) ≤ 1000000 := by have := rdV_len 16 l x r HN.out; omega
  clear hr
  go_enter_defers Try.func18, Try.ntmps18
  go_wp2_with (first
    | (go_at_call 32; refine (value_any 16 (by omega) w.heap.size (w.heap.size + 1 + 1) l 0 (by simp) hl (DecW w (.slice oa l.length cap)) HR.out (by rw [hsz.out]; omega)).mono ?_; rw [HN.out]; rintro e w9 ⟨v9, rfl, ⟨z1, z2, z3, lx, rfl, z4⟩, hrd9, hg9⟩
       obtain ⟨xo, xn, xc, rfl⟩ := z4.shape
       have hs0 := hsz.out
       have hs9 := hg9.size
       have hx9 := Lib.hid (hx.out.grown hg9 (by omega))
       obtain ⟨x0, x1, x2, x3, xf⟩ := hx9.out
       have hy9 := hg9.block (w.heap.size + 1) (by omega) (fun e => by injection e; omega)
       have e0 : w9.cell? ⟨w.heap.size + 1, 0, none⟩ = some (.int .i64 0) := (World.cell?_of_block (w := DecW w _) hy9).trans hy.out.1
       have ef : w9.frozen? ⟨w.heap.size + 1, 0, none⟩ = false := (World.frozen?_of_block (w := DecW w _) hy9).trans hy.out.2
       obtain ⟨_, fR, vR, cR, bR⟩ := hrd9
       obtain ⟨oR, capR, rfl⟩ := bR.shape
       have Z := Lib.hid (And.intro z1 (And.intro z2 (And.intro z3 z4)))
       clear hy9 bR z1 z2 z3 z4
       have hgw := Lib.hid (grown_trans (G := none) hg0.out hg9 (.inr fun g hg => by injection hg; omega)))
    | (go_at_call 33; refine (want_false _ _).mono ?_; rintro e w' ⟨rfl, rfl⟩))
  refine leaves_cons (f := 31) (args := #[.pointer (some ⟨w.heap.size, 0, none⟩), .pointer (some ⟨w.heap.size + 1, 0, none⟩)]) (by simp) (by simp [go_sem]) ?_
  refine (catch_panicking w.heap.size (w.heap.size + 1) _ _ _ _ (.int .i64 0) _ (box_set hx9.out _ _ _ _) (by simp [go_sem, e0]) (by simp [go_sem, ef]) (by omega)).mono ?_
  rintro e u' w'' ⟨rfl, rfl, hx2, hy2, _, hg2⟩
  have hgw : w.grownBy w'' none := hg2 w none (grown_set_new (grown_set_new (grown_set_new (grown_set_new hgw.out (Nat.le_refl _)) (Nat.le_refl _)) (Nat.le_refl _)) (Nat.le_refl _)) (by omega) (by omega)
  obtain ⟨y0, y1, y2, y3, _⟩ := hx2
  simp [Leaves, settle, results, Try.results18, go_sem, y0, y1, y2, y3, hy2]
  exact ⟨rfl, hgw⟩
end Go.Proofs.Ytebedfcdbhgfdaa
