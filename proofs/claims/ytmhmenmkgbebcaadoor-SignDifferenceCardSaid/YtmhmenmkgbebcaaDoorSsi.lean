/- sign.Sign. -/
import Derived.Test.YtmhmenmkgbebcaaDoorSpu
import Derived.Deep.RegionHeld3
import Derived.Laws.EntriesVeiled
namespace Go.Proofs.YtmhmenmkgbebcaaDoor
open Go.RowKit Go.Shelf
def sNonce : ByteArray := ⟨#[110, 111, 110, 99, 101]⟩
def sSign : ByteArray := ⟨#[115, 105, 103, 110]⟩
/-- the nonce of a message -/
def nonceK (x : Int) (m : List UInt8) : Nat := scalF sNonce.data.toList ([x].flatMap b8 ++ m)
/-- a challenge -/
def chalK (r p : Int) (m : List UInt8) : Nat := scalF sSign.data.toList ([r, p].flatMap b8 ++ m)
theorem scalF_lt (t l : List UInt8) : 1 ≤ scalF t l ∧ scalF t l < cQ := by
  have h := restM_lt (tagged t l)
  have e : cM + 1 = cQ := by decide
  unfold scalF; omega
theorem CB.ext {w w' : World} {g : Nat} {t : TypeId} {cs : List Value} (h : CB w g t cs) (hb : Below w.heap.size w w') : CB w' g t cs := h.keep (hb.block _ h.lt)
theorem boxN (W : World) (ns : List Int) (t : TypeId) : ∀ j y, ns[j]? = some y → (W.alloc (.cells (ns.map (Value.int .i64)).toArray t)).cell? ⟨W.heap.size, j, none⟩ = some (.int .i64 y) := by
  intro j y h
  rw [(CB.new W t (ns.map (Value.int .i64))).cell j]; simp [h]
theorem box1 (W : World) (x : Int) (t : TypeId) : ∀ j y, [x][j]? = some y → (W.alloc (.cells #[.int .i64 x] t)).cell? ⟨W.heap.size, j, none⟩ = some (.int .i64 y) := boxN W [x] t
theorem box2 (W : World) (x z : Int) (t : TypeId) : ∀ j y, [x, z][j]? = some y → (W.alloc (.cells #[.int .i64 x, .int .i64 z] t)).cell? ⟨W.heap.size, j, none⟩ = some (.int .i64 y) := boxN W [x, z] t
set_option maxRecDepth 100000 in
set_option maxHeartbeats 2000000 in
theorem sign_ok (n : Nat) (v : Value) (l : List UInt8) (w : World) (k R c p m S : Nat) (hn : Hid (ZPr (n : Int))) (hl : l.length ≤ 50000) (hb : BtsAt w.heap.size w l v) (hL : Laid w)
    (hk : Hid (nonceK n l = k)) (hR : Hid (pw 4 k = R)) (hp : Hid (pw 4 n = p)) (hc : Hid (chalK R p l = c)) (hm : Hid (c * n % cQ = m)) (hS : Hid ((k + m) % cQ = S)) :
    Calls Tryd.prog 15 #[.int .i64 n, v] w fun e w' => e = .returned (.tuple #[.agg #[.int .i64 R, .int .i64 S], .int .i64 0]) ∧ Below w.heap.size w w' := by
  have hmf : ∀ (fn : Fn) (first cap : Array Value) (w : World), (Instr.makeFunc fn first cap).run Tryd.prog w = .ok (.func fn first cap) w := fun _ _ _ _ => rfl
  have HB := Lib.hid hb; have HL := Lib.hid hL; have Hl := Lib.hid hl
  obtain ⟨oa, cap, rfl⟩ := hb.shape
  have hnl : Hid (n < cQ) := Int.ofNat_lt.1 hn.out.2
  have hkl : Hid (k < cQ) := by show _ < _; rw [← hk.out]; exact (scalF_lt _ _).2
  have hcl : Hid (c < cQ) := by show _ < _; rw [← hc.out]; exact (scalF_lt _ _).2
  have hml : Hid (m < cQ) := by show _ < _; rw [← hm.out]; exact Nat.mod_lt _ (by decide)
  clear hb hL hl
  have hcb0 : Hid (CB (w.alloc (.cells #[.int .i64 0, .int .i64 0] 30)) w.heap.size 30 [.int .i64 0, .int .i64 0]) := heap_alloc_new w _
  have hb0 := Lib.hid ((Below.refl w.heap.size w).alloc (Nat.le_refl _) (.cells #[.int .i64 0, .int .i64 0] 30))
  go_enter Tryd.func15, Tryd.ntmps15
  go_wp2_with fail
  refine (valid_yes n hn _).mono ?_
  rintro e w1 ⟨rfl, rfl⟩
  generalize w.alloc (.cells #[.int .i64 0, .int .i64 0] 30) = w0 at *
  go_wp2_with fail
  have hbx := hb0.out.alloc hb0.out.size (.cells #[.int .i64 n] 3)
  refine (hash_any sNonce _ l _ 1 1 [(n : Int)] _ (by decide) Hl.out (HB.out.ext hbx) (HL.out.ext hbx) rfl (by decide) (box1 _ _ _)).mono ?_
  rw [show scalF sNonce.data.toList ([(n : Int)].flatMap b8 ++ l) = k from hk.out]
  rintro e w1 ⟨rfl, hb⟩
  have hcb1 := Lib.hid ((hcb0.out.alloc (.cells #[.int .i64 n] 3)).ext hb)
  have hb1 := Lib.hid (below_ext hbx hb)
  clear hb hbx hb0 hcb0
  go_wp2_with fail
  refine (base_ok k R hkl hR _).mono ?_
  rintro e w2 ⟨rfl, hb⟩
  have hcb2 := Lib.hid (hcb1.out.ext hb)
  have hb2 := Lib.hid (below_ext hb1.out hb)
  clear hb hcb1 hb1
  have c0 := hcb2.out.cell 0
  have f0 := hcb2.out.frozen 0
  go_wp2_with fail
  have hcb3 : Hid (CB (w2.setCell ⟨w.heap.size, 0, none⟩ (.int .i64 R)) w.heap.size 30 [.int .i64 R, .int .i64 0]) := hcb2.out.set 0 _
  have hb3 := Lib.hid (hb2.out.setCell (p := ⟨w.heap.size, 0, none⟩) (Nat.le_refl _) (.int .i64 R))
  clear c0 f0 hcb2 hb2
  generalize w2.setCell ⟨w.heap.size, 0, none⟩ (.int .i64 R) = w3 at *
  have c0 : w3.cell? ⟨w.heap.size, 0, none⟩ = some (.int .i64 R) := hcb3.out.cell 0
  have hbS := (Below.refl w3.heap.size w3).drew
  go_wp2_with fail
  go_region_held3 (fun w' => w'.cell? ⟨w.heap.size, 0, none⟩ = some (.int .i64 R))
    (first | go_keep | exact cell_ext hbS (hcb3.out.cell 0) | exact cell_ext (hbS.alloc hbS.size _) (hcb3.out.cell 0))
    (first
     | (go_at_call 32; refine (keypub_any n p hnl hp _).mono ?_; rintro e w7 ⟨rfl, hb7⟩; have hbS : Below w3.heap.size w3 w7 := by first | exact below_ext hbS hb7 | exact below_undrew hb7)
     | (go_at_call 35; refine (hash_any sSign _ l _ 2 2 [(R : Int), (p : Int)] _ (by decide) Hl.out (HB.out.ext (below_ext hb3.out (hbS.alloc hbS.size _))) (HL.out.ext (below_ext hb3.out (hbS.alloc hbS.size _))) rfl (by decide) (box2 _ _ _ _)).mono ?_
        rw [show scalF sSign.data.toList ([(R : Int), (p : Int)].flatMap b8 ++ l) = c from hc.out]
        rintro e w8 ⟨rfl, hb8⟩
        have hbS : Below w3.heap.size w3 w8 := below_ext (hbS.alloc hbS.size _) hb8)
     | (go_at_call 26; refine (prod_any c n m hcl hnl hm _).mono ?_; rintro e w9 ⟨rfl, hb9⟩; have hbS : Below w3.heap.size w3 w9 := below_ext hbS hb9))
  have hcb9 := Lib.hid (hcb3.out.ext hbS)
  have hb9 := Lib.hid (below_ext hb3.out hbS)
  clear hbS c0 hcb3 hb3
  go_wp2_with fail
  refine (sum_any k m S hkl hml hS _).mono ?_
  rintro e w10 ⟨rfl, hb⟩
  have hcb10 := Lib.hid (hcb9.out.ext hb)
  have hb10 := Lib.hid (below_ext hb9.out hb)
  clear hb hcb9 hb9
  have c0 : w10.cell? ⟨w.heap.size, 0, none⟩ = some (.int .i64 R) := hcb10.out.cell 0
  have f0 := hcb10.out.frozen 0
  have c1 : w10.cell? ⟨w.heap.size, 1, none⟩ = some (.int .i64 0) := hcb10.out.cell 1
  have f1 := hcb10.out.frozen 1
  go_wp2_with fail
  refine bodyPost_ret (v := .tuple #[.agg #[.int .i64 R, .int .i64 S], .int .i64 0]) (by simp [results, Tryd.results15, go_sem, c0, c1]) rfl ⟨rfl, ?_⟩
  exact ((hb10.out.setCell (p := ⟨w.heap.size, 1, none⟩) (Nat.le_refl _) _).setCell (p := ⟨w.heap.size, 0, none⟩) (Nat.le_refl _) _).setCell (p := ⟨w.heap.size, 1, none⟩) (Nat.le_refl _) _
set_option maxRecDepth 100000 in
set_option maxHeartbeats 2000000 in
theorem sign_bad (x : Int) (oa : Option Addr) (len cap : Nat) (w : World) (hx : Hid (¬ ZPr x)) :
    Calls Tryd.prog 15 #[.int .i64 x, .slice oa len cap] w fun e w' => e = .returned (.tuple #[.agg #[.int .i64 0, .int .i64 0], .int .i64 40]) ∧ Below w.heap.size w w' := by
  have hmf : ∀ (fn : Fn) (first cap : Array Value) (w : World), (Instr.makeFunc fn first cap).run Tryd.prog w = .ok (.func fn first cap) w := fun _ _ _ _ => rfl
  go_enter Tryd.func15, Tryd.ntmps15
  go_wp2_with fail
  refine (valid_no x hx _).mono ?_
  rintro e w1 ⟨rfl, rfl⟩
  go_wp2_with fail
  refine bodyPost_ret (v := .tuple #[.agg #[.int .i64 0, .int .i64 0], .int .i64 40]) (by simp [results, Tryd.results15, go_sem]) rfl ⟨rfl, ?_⟩
  exact (Below.refl w.heap.size w).alloc (Nat.le_refl _) _
end Go.Proofs.YtmhmenmkgbebcaaDoor
