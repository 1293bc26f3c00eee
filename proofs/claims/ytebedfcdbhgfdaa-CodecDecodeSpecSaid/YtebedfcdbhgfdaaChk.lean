/- codec.Check; the reference's Formed, Depth, Check; the makers of values. -/
import Derived.Test.YtebedfcdbhgfdaaForm
namespace Go.Proofs.Ytebedfcdbhgfdaa
open Go.RowKit

theorem RdV.alloc {w : World} {x : V} {v : Value} (h : RdV w.heap.size w x v) (ob : Obj) : RdV (w.alloc ob).heap.size (w.alloc ob) x v :=
  h.keep (by simp) ((Below.refl _ w).alloc (Nat.le_refl _) ob).block
theorem SlV.alloc {w : World} {x : List V} {v : Value} (h : SlV w.heap.size w x v) (ob : Obj) : SlV (w.alloc ob).heap.size (w.alloc ob) x v :=
  h.keep (by simp) ((Below.refl _ w).alloc (Nat.le_refl _) ob).block
theorem below_after {w w' : World} {ob : Obj} (h : Below (w.alloc ob).heap.size (w.alloc ob) w') : Below w.heap.size w w' :=
  ((Below.refl _ w).alloc (Nat.le_refl _) ob).trans (h.mono (by simp))
theorem below_box {w w' : World} {ob : Obj} (h : Below (w.heap.size + 1) (w.alloc ob) w') : Below w.heap.size w w' :=
  ((Below.refl _ w).alloc (Nat.le_refl _) ob).trans (h.mono (by omega))
theorem below_ext {w w1 w2 : World} (h : Below w.heap.size w w1) (h2 : Below w1.heap.size w1 w2) : Below w.heap.size w w2 := h.trans (h2.mono h.size)
theorem RdV.ext {w w' : World} {x : V} {v : Value} (h : RdV w.heap.size w x v) (hb : Below w.heap.size w w') : RdV w'.heap.size w' x v := h.keep hb.size hb.block
theorem SlV.ext {w w' : World} {x : List V} {v : Value} (h : SlV w.heap.size w x v) (hb : Below w.heap.size w w') : SlV w'.heap.size w' x v := h.keep hb.size hb.block

theorem SlV.elem {B : Nat} {w wr : World} {l : List V} {oa : Option Addr} {cap : Nat} (h : SlV B w l (.slice oa l.length cap)) (hs : ∀ k, k < B → wr.heap[k]? = w.heap[k]?) (hB : B ≤ wr.heap.size) {k : Nat} {x : V} (hx : l[k]? = some x) :
    ∃ c o xo xc, oa = some ⟨c, o, none⟩ ∧ c < B ∧ wr.cell? ⟨c, o + k * 4, none⟩ = some (.int .i64 x.kind) ∧ wr.cell? ⟨c, o + k * 4 + 1, none⟩ = some (.int .i64 x.n) ∧ wr.cell? ⟨c, o + k * 4 + 2, none⟩ = some (.string x.s) ∧
      wr.cell? ⟨c, o + k * 4 + 3, none⟩ = some (.slice xo x.l.length xc) ∧ RdV wr.heap.size wr x (.agg #[.int .i64 x.kind, .int .i64 x.n, .string x.s, .slice xo x.l.length xc]) := by
  rcases h with ⟨rfl, _⟩ | ⟨_, c, o, cap', he, hlm, hat⟩
  · simp at hx
  injection he with he1 he2 he3
  have hv := V.at_keep (Nat.le_refl _) hs x c (o + k * 4) (V.ats_get hat k x hx)
  obtain ⟨hcb, c0, c1, c2, xo, xc, c3, hrd⟩ := V.at_def hv
  exact ⟨c, o, xo, xc, he1, hcb, c0, c1, c2, c3, hrd.keep hB (fun _ _ => rfl)⟩

/-- what Check answers -/
def ck (x : V) : Int := if fm x then (if 16 < dp x then 2 else 0) else 1
def IntPost (n : Int) (w : World) (e : Ending) (w' : World) : Prop := e = .returned (.int .i64 n) ∧ Below w.heap.size w w'
def BoolPost (b : Bool) (w : World) (e : Ending) (w' : World) : Prop := e = .returned (.bool b) ∧ Below w.heap.size w w'

set_option maxRecDepth 100000 in
set_option maxHeartbeats 1000000 in
theorem check_any (x : V) (hx : sz x ≤ 100000000) (v : Value) (w : World) (hr : RdV w.heap.size w x v) : Calls Try.prog 16 #[v] w (IntPost (ck x) w) := by
  have HR := Lib.hid (fun ob => hr.alloc ob)
  obtain ⟨oa, cap, rfl, hl⟩ := hr.form
  have hd := dp_sz x
  clear hr hl
  rcases Bool.eq_false_or_eq_true (fm x) with hfx | hfx
  · by_cases h16 : 16 < dp x
    all_goals
      have hck := Lib.hid (show ck x = (if 16 < dp x then 2 else 0) from by simp [ck, hfx])
      go_enter Try.func16, Try.ntmps16
      go_wp2_with (go_at_call 28; refine (formed_any 100000000 (by decide) x hx _ _ (HR.out _)).mono ?_; rintro e w' ⟨rfl, hb'⟩)
      go_ret
      exact ⟨by rw [hck.out]; first | rw [if_pos h16]; rfl | rw [if_neg h16]; rfl, below_after hb'⟩
  · have hck := Lib.hid (show ck x = 1 from by simp [ck, hfx])
    go_enter Try.func16, Try.ntmps16
    go_wp2_with (go_at_call 28; refine (formed_any 100000000 (by decide) x hx _ _ (HR.out _)).mono ?_; rintro e w' ⟨rfl, hb'⟩)
    go_ret
    exact ⟨by rw [hck.out]; rfl, below_after hb'⟩

set_option maxHeartbeats 1000000 in
theorem rInt_any (n : Int) (w : World) : Calls Try.prog 23 #[.int .i64 n] w fun e w' => e = .returned (.agg #[.int .i64 1, .int .i64 n, .string ⟨#[]⟩, .slice none 0 0]) ∧ Below w.heap.size w w' := by
  go_enter Try.func23, Try.ntmps23
  go_wp2
  refine bodyPost_ret (v := .agg #[.int .i64 1, .int .i64 n, .string ⟨#[]⟩, .slice none 0 0]) (by simp [results, Try.results23, go_sem]) rfl ⟨rfl, by repeat (first | exact Below.refl _ _ | refine Below.alloc ?_ (by simp) _)⟩
set_option maxHeartbeats 1000000 in
theorem rText_any (s : ByteArray) (w : World) : Calls Try.prog 24 #[.string s] w fun e w' => e = .returned (.agg #[.int .i64 2, .int .i64 0, .string s, .slice none 0 0]) ∧ Below w.heap.size w w' := by
  go_enter Try.func24, Try.ntmps24
  go_wp2
  refine bodyPost_ret (v := .agg #[.int .i64 2, .int .i64 0, .string s, .slice none 0 0]) (by simp [results, Try.results24, go_sem]) rfl ⟨rfl, by repeat (first | exact Below.refl _ _ | refine Below.alloc ?_ (by simp) _)⟩
set_option maxHeartbeats 1000000 in
theorem rList_any (oa : Option Addr) (n cap : Nat) (w : World) : Calls Try.prog 22 #[.slice oa n cap] w fun e w' => e = .returned (.agg #[.int .i64 3, .int .i64 0, .string ⟨#[]⟩, .slice oa n cap]) ∧ Below w.heap.size w w' := by
  go_enter Try.func22, Try.ntmps22
  go_wp2
  refine bodyPost_ret (v := .agg #[.int .i64 3, .int .i64 0, .string ⟨#[]⟩, .slice oa n cap]) (by simp [results, Try.results22, go_sem]) rfl ⟨rfl, by repeat (first | exact Below.refl _ _ | refine Below.alloc ?_ (by simp) _)⟩
end Go.Proofs.Ytebedfcdbhgfdaa
