/- the reference's Decode: what is refused. -/
import Derived.Test.YtebedfcdbhgfdaaRrg
import Derived.Test.YtebedfcdbhgfdaaPla
namespace Go.Proofs.Ytebedfcdbhgfdaa
open Go.RowKit

theorem refAt_made {w : World} {l : List UInt8} {v : Value} {t t2 : TypeId} {o : Array Value} (hb : BtsAt w.heap.size w l v) :
    RefAt w.heap.size ((w.alloc (.cells o t)).alloc (.cells #[v, .int .i64 0, .bool false] t2)) (w.heap.size + 1) l 0 false := by
  have hs : (w.alloc (.cells o t)).heap.size = w.heap.size + 1 := World.size_alloc _ _
  refine ⟨Nat.le_succ _, fun i => ?_, ⟨v, ?_, ?_⟩, ?_, ?_, Nat.zero_le _⟩
  · rw [← hs]; exact World.frozen?_alloc_at _ _ _ _ rfl
  · rw [← hs]; simp
  · exact hb.keep (Nat.le_refl _) fun k hk => (Below.heap_alloc _ _ k (by rw [hs]; omega)).trans (Below.heap_alloc w _ k hk)
  · rw [← hs]; simp
  · rw [← hs]; simp

theorem below_of_grown {w w' : World} {R : Nat} (h : w.grownBy w' (some R)) (hR : w.heap.size ≤ R) : Below w.heap.size w w' :=
  ⟨h.os, h.tape, h.output, h.size, fun k hk => h.block k hk (fun e => by injection e with e; omega)⟩
set_option maxRecDepth 100000 in
set_option maxHeartbeats 1000000 in
theorem rdecode_none (l : List UInt8) (hl : l.length ≤ 1000000) (oa : Option Addr) (cap : Nat) (w : World) (hb : BtsAt w.heap.size w l (.slice oa l.length cap)) (hN : rdV 16 l = none) :
    Calls Try.prog 19 #[.slice oa l.length cap] w fun e w' => e = .returned (.tuple #[.agg #[.int .i64 0, .int .i64 0, .string ⟨#[]⟩, .slice none 0 0], .int .i64 10]) ∧ Below w.heap.size w w' := by
  have HB := Lib.hid hb; clear hb
  have HN := Lib.hid hN; clear hN
  go_enter Try.func19, Try.ntmps19
  go_wp2_with fail
  refine (rvalue_any 16 (by omega) w.heap.size (w.heap.size + 1) 0 l 0 (by simp) hl _ (refAt_made HB.out) (by simp)).mono ?_
  rw [List.drop_zero, HN.out]
  rintro e w9 ⟨x, v9, q, bad, rfl, hv9, hrd9, hg9, hbad⟩
  have hbt : bad = true := hbad
  subst hbt
  obtain ⟨z1, z2, z3, lx, rfl, z4⟩ := hv9
  have hbx := Lib.hid (((BoxAt.made w 24 (.int .i64 0) (.int .i64 0) (.string ⟨#[]⟩) (.slice none 0 0)).grown (R := w.heap.size + 1) (grown_alloc (grown_refl _ _) (.cells #[.slice oa l.length cap, .int .i64 0, .bool false] 62)) (by omega)).grown hg9 (by omega))
  obtain ⟨x0, x1, x2, x3, xf⟩ := hbx.out
  have r2 := hrd9.c2
  have hlt : w.heap.size + 1 < w9.heap.size := World.block_lt_of_cell? w9 _ r2
  have hlt0 : w.heap.size < w9.heap.size := by omega
  have h1 := z4.one
  obtain ⟨xo, xn, xc, rfl⟩ := z4.shape
  have Z := Lib.hid z4; have HR := Lib.hid hrd9; have HG := Lib.hid hg9
  clear z1 z2 z3 z4 hrd9 hg9 hbad h1
  go_wp2
  go_quiet (fail)
  have hgw : w.grownBy w9 (some (w.heap.size + 1)) := grown_trans (grown_alloc (grown_alloc (grown_refl w _) _) _) HG.out (.inl rfl)
  have hb10 := hbx.out.grown (R := w.heap.size + 1) (grown_drewN' (grown_alloc (grown_refl w9 _) (.cells #[.int .i64 x.kind, .int .i64 x.n, .string x.s, .slice xo xn xc] 24)) nq) (by omega)
  have hg10 := grown_drewN' (grown_alloc hgw (.cells #[.int .i64 x.kind, .int .i64 x.n, .string x.s, .slice xo xn xc] 24)) nq
  clear x0 x1 x2 x3 xf r2 hbx hgw
  generalize World.drewN (w9.alloc (.cells #[.int .i64 x.kind, .int .i64 x.n, .string x.s, .slice xo xn xc] 24)) nq = w10 at *
  obtain ⟨x0, x1, x2, x3, xf⟩ := hb10
  go_wp2
  refine bodyPost_ret (v := .tuple #[.agg #[.int .i64 0, .int .i64 0, .string ⟨#[]⟩, .slice none 0 0], .int .i64 10]) (by simp [results, Try.results19, go_sem, x0, x1, x2, x3]) rfl ?_
  refine ⟨rfl, below_of_grown (R := w.heap.size + 1) ?_ (by omega)⟩
  repeat (first | exact hg10 | refine grown_set_new ?_ (Nat.le_refl _))
end Go.Proofs.Ytebedfcdbhgfdaa
