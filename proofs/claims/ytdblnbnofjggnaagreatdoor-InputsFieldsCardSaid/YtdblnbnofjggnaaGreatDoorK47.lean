/- Parts of the proofs of chapter 49's laws: Ssi Ssr Sve Slw. -/
import Derived.Test.YtdblnbnofjggnaaGreatDoorK46
import Derived.Deep.RegionHeld3
import Derived.Laws.EntriesVeiled
import Derived.Laws.StructEq
import Derived.Test.YtdblnbnofjggnaaGreatDoorK45
namespace Go.Proofs.YtdblnbnofjggnaaGreatDoor
open Go.RowKit Go.Shelf
def sNonce : ByteArray := ⟨#[110, 111, 110, 99, 101]⟩
def sSign : ByteArray := ⟨#[115, 105, 103, 110]⟩
def nonceK (x : Int) (m : List UInt8) : Nat := scalF sNonce.data.toList ([x].flatMap b8 ++ m)
def chalK (r p : Int) (m : List UInt8) : Nat := scalF sSign.data.toList ([r, p].flatMap b8 ++ m)
theorem scalF_lt (t l : List UInt8) : 1 ≤ scalF t l ∧ scalF t l < cQ := by
 have h := restM_lt (tagged t l)
 have e : cM + 1 = cQ := by decide
 unfold scalF; omega
set_option maxRecDepth 100000 in
set_option maxHeartbeats 2000000 in
theorem sign_ok (n : Nat) (v : Value) (l : List UInt8) (w : World) (k R c p m S : Nat) (hn : Hid (ZPr (n : Int))) (hl : l.length ≤ 50000) (hb : BtsAt w.heap.size w l v) (hL : Laid w)
 (hk : Hid (nonceK n l = k)) (hR : Hid (pw 4 k = R)) (hp : Hid (pw 4 n = p)) (hc : Hid (chalK R p l = c)) (hm : Hid (c * n % cQ = m)) (hS : Hid ((k + m) % cQ = S)) :
 Calls Tryz.prog 67 #[.int .i64 n, v] w fun e w' => e = .returned (.tuple #[.agg #[.int .i64 R, .int .i64 S], .int .i64 0]) ∧ Below w.heap.size w w' := by
 have hmf : ∀ (fn : Fn) (first cap : Array Value) (w : World), (Instr.makeFunc fn first cap).run Tryz.prog w = .ok (.func fn first cap) w := fun _ _ _ _ => rfl
 have HB := Lib.hid hb; have HL := Lib.hid hL; have Hl := Lib.hid hl
 obtain ⟨oa, cap, rfl⟩ := hb.shape
 have hnl : Hid (n < cQ) := Int.ofNat_lt.1 hn.out.2
 have hkl : Hid (k < cQ) := by show _ < _; rw [← hk.out]; exact (scalF_lt _ _).2
 have hcl : Hid (c < cQ) := by show _ < _; rw [← hc.out]; exact (scalF_lt _ _).2
 have hml : Hid (m < cQ) := by show _ < _; rw [← hm.out]; exact Nat.mod_lt _ (by decide)
 clear hb hL hl
 have hcb0 : Hid (CB (w.alloc (.cells #[.int .i64 0, .int .i64 0] 39)) w.heap.size 39 [.int .i64 0, .int .i64 0]) := heap_alloc_new w _
 have hb0 := Lib.hid ((Below.refl w.heap.size w).alloc (Nat.le_refl _) (.cells #[.int .i64 0, .int .i64 0] 39))
 go_enter Tryz.func67, Tryz.ntmps67
 go_wp2_with fail
 refine (valid_yes n hn _).mono ?_
 rintro e w1 ⟨rfl, rfl⟩
 generalize w.alloc (.cells #[.int .i64 0, .int .i64 0] 39) = w0 at *
 go_wp2_with fail
 have hbx := hb0.out.alloc hb0.out.size (.cells #[.int .i64 n] 3)
 refine (hash_any sNonce _ l _ 1 1 [(n : Int)] _ (by decide) Hl.out (HB.out.ext hbx) (HL.out.ext hbx) rfl (by decide) (box1 _ _ _)).mono ?_
 rw [show scalF sNonce.data.toList ([(n : Int)].flatMap b8 ++ l) = k from hk.out]
 rintro e w1 ⟨rfl, hb⟩
 have hcb1 := Lib.hid ((hcb0.out.alloc (.cells #[.int .i64 n] 3)).ext hb)
 have hb1 := Lib.hid (below_ext hbx hb)
 clear hb hbx hb0 hcb0
 go_wp2_with fail
 refine (base_ok k R hkl hR _).mono ?_
 rintro e w2 ⟨rfl, hb⟩
 have hcb2 := Lib.hid (hcb1.out.ext hb)
 have hb2 := Lib.hid (below_ext hb1.out hb)
 clear hb hcb1 hb1
 have c0 := hcb2.out.cell 0
 have f0 := hcb2.out.frozen 0
 go_wp2_with fail
 have hcb3 : Hid (CB (w2.setCell ⟨w.heap.size, 0, none⟩ (.int .i64 R)) w.heap.size 39 [.int .i64 R, .int .i64 0]) := hcb2.out.set 0 _
 have hb3 := Lib.hid (hb2.out.setCell (p := ⟨w.heap.size, 0, none⟩) (Nat.le_refl _) (.int .i64 R))
 clear c0 f0 hcb2 hb2
 generalize w2.setCell ⟨w.heap.size, 0, none⟩ (.int .i64 R) = w3 at *
 have c0 : w3.cell? ⟨w.heap.size, 0, none⟩ = some (.int .i64 R) := hcb3.out.cell 0
 have hbS := (Below.refl w3.heap.size w3).drew
 go_wp2_with fail
 go_region_held3 (fun w' => w'.cell? ⟨w.heap.size, 0, none⟩ = some (.int .i64 R))
  (first | go_keep | exact cell_ext hbS (hcb3.out.cell 0) | exact cell_ext (hbS.alloc hbS.size _) (hcb3.out.cell 0))
  (first
   | (go_at_call 72; refine (keypub_any n p hnl hp _).mono ?_; rintro e w7 ⟨rfl, hb7⟩; have hbS : Below w3.heap.size w3 w7 := by first | exact below_ext hbS hb7 | exact below_undrew hb7)
   | (go_at_call 129; refine (hash_any sSign _ l _ 2 2 [(R : Int), (p : Int)] _ (by decide) Hl.out (HB.out.ext (below_ext hb3.out (hbS.alloc hbS.size _))) (HL.out.ext (below_ext hb3.out (hbS.alloc hbS.size _))) rfl (by decide) (box2 _ _ _ _)).mono ?_
      rw [show scalF sSign.data.toList ([(R : Int), (p : Int)].flatMap b8 ++ l) = c from hc.out]
      rintro e w8 ⟨rfl, hb8⟩
      have hbS : Below w3.heap.size w3 w8 := below_ext (hbS.alloc hbS.size _) hb8)
   | (go_at_call 131; refine (prod_any c n m hcl hnl hm _).mono ?_; rintro e w9 ⟨rfl, hb9⟩; have hbS : Below w3.heap.size w3 w9 := below_ext hbS hb9))
 have hcb9 := Lib.hid (hcb3.out.ext hbS)
 have hb9 := Lib.hid (below_ext hb3.out hbS)
 clear hbS c0 hcb3 hb3
 go_wp2_with fail
 refine (sum_any k m S hkl hml hS _).mono ?_
 rintro e w10 ⟨rfl, hb⟩
 have hcb10 := Lib.hid (hcb9.out.ext hb)
 have hb10 := Lib.hid (below_ext hb9.out hb)
 clear hb hcb9 hb9
 have c0 : w10.cell? ⟨w.heap.size, 0, none⟩ = some (.int .i64 R) := hcb10.out.cell 0
 have f0 := hcb10.out.frozen 0
 have c1 : w10.cell? ⟨w.heap.size, 1, none⟩ = some (.int .i64 0) := hcb10.out.cell 1
 have f1 := hcb10.out.frozen 1
 go_wp2_with fail
 refine bodyPost_ret (v := .tuple #[.agg #[.int .i64 R, .int .i64 S], .int .i64 0]) (by simp [results, Tryz.results67, go_sem, c0, c1]) rfl ⟨rfl, ?_⟩
 exact ((hb10.out.setCell (p := ⟨w.heap.size, 1, none⟩) (Nat.le_refl _) _).setCell (p := ⟨w.heap.size, 0, none⟩) (Nat.le_refl _) _).setCell (p := ⟨w.heap.size, 1, none⟩) (Nat.le_refl _) _
set_option maxRecDepth 100000 in
set_option maxHeartbeats 2000000 in
theorem sign_bad (x : Int) (oa : Option Addr) (len cap : Nat) (w : World) (hx : Hid (¬ ZPr x)) :
 Calls Tryz.prog 67 #[.int .i64 x, .slice oa len cap] w fun e w' => e = .returned (.tuple #[.agg #[.int .i64 0, .int .i64 0], .int .i64 40]) ∧ Below w.heap.size w w' := by
 have hmf : ∀ (fn : Fn) (first cap : Array Value) (w : World), (Instr.makeFunc fn first cap).run Tryz.prog w = .ok (.func fn first cap) w := fun _ _ _ _ => rfl
 go_enter Tryz.func67, Tryz.ntmps67
 go_wp2_with fail
 refine (valid_no x hx _).mono ?_
 rintro e w1 ⟨rfl, rfl⟩
 go_wp2_with fail
 refine bodyPost_ret (v := .tuple #[.agg #[.int .i64 0, .int .i64 0], .int .i64 40]) (by simp [results, Tryz.results67, go_sem]) rfl ⟨rfl, ?_⟩
 exact (Below.refl w.heap.size w).alloc (Nat.le_refl _) _
end Go.Proofs.YtdblnbnofjggnaaGreatDoor
namespace Go.Proofs.YtdblnbnofjggnaaGreatDoor
section
open Go.RowKit Go.Shelf
theorem ScPost.ok {x y r : Nat} {f : Nat → Nat → Nat} {w w' : World} {e : Ending} (hx : x < cQ) (hy : y < cQ) (hr : f x y = r) (h : ScPost (x : Int) (y : Int) f w e w') : e = .returned (.tuple #[.int .i64 r, .int .i64 0]) ∧ Below w.heap.size w w' := by
 obtain ⟨⟨a, b, rfl, hc⟩, hb⟩ := h
 rcases hc with ⟨_, _, rfl, rfl⟩ | ⟨h1, _, _⟩
 · exact ⟨by rw [← hr]; rfl, hb⟩
 · exact absurd ⟨⟨by omega, Int.ofNat_lt.2 hx⟩, ⟨by omega, Int.ofNat_lt.2 hy⟩⟩ h1
end
end Go.Proofs.YtdblnbnofjggnaaGreatDoor
namespace Go.Proofs.YtdblnbnofjggnaaGreatDoor
open Go.RowKit Go.Shelf
def ElE (a x : Int) : Prop := (ZEl a ∧ x = 0) ∨ (¬ ZEl a ∧ x = 30)
def ScE (a x : Int) : Prop := (ZSc a ∧ x = 0) ∨ (¬ ZSc a ∧ x = 1)
theorem el_nat {a : Int} (h : ZEl a) : ∃ n : Nat, a = (n : Int) ∧ isEl n := ⟨a.toNat, by have := h.1; omega, h.2⟩
theorem zel_nat {n : Nat} (h : isEl n) : ZEl (n : Int) := ⟨by have := h.1; omega, h⟩
theorem zsc_nat {n : Nat} (h : n < cQ) : ZSc (n : Int) := ⟨by omega, Int.ofNat_lt.2 h⟩
theorem check_val (a x : Int) (h : Hid (ElE a x)) (w : World) : Calls Tryz.prog 142 #[.int .i64 a] w fun e w' => e = .returned (.int .i64 x) ∧ Below w.heap.size w w' := by
 rcases h.out with ⟨h1, rfl⟩ | ⟨h1, rfl⟩
 · obtain ⟨n, rfl, hn⟩ := el_nat h1; exact check_ok n hn w
 · exact check_bad a h1 w
theorem scalar_val (a x : Int) (h : Hid (ScE a x)) (w : World) : Calls Tryz.prog 143 #[.int .i64 a] w fun e w' => e = .returned (.int .i64 x) ∧ Below w.heap.size w w' := by
 rcases h.out with ⟨h1, rfl⟩ | ⟨h1, rfl⟩
 · exact scalar_yes a h1 w
 · exact scalar_no a h1 w
theorem eq3 (a b c : Int) (w : World) : (Op.equalIn 10000 171 (.agg #[.int .i64 a, .int .i64 b, .int .i64 c]) (.agg #[.int .i64 0, .int .i64 0, .int .i64 0])).run Tryz.prog w = .ok (a == 0 && b == 0 && c == 0) w := by
 have hu := Tryz.underlying171
 have hE := Tryz.underlying44
 have ha : (isAgg 44).run Tryz.prog w = .ok false w := by kernel_rfl
 have hs : (sizeOf 44).run Tryz.prog w = .ok 1 w := by kernel_rfl
 have p0 : ∀ x y z : Int, (part 44 #[.int .i64 x, .int .i64 y, .int .i64 z] 0).run Tryz.prog w = .ok (.int .i64 x) w := fun x y z => by simp [part, ha]
 have p1 : ∀ x y z : Int, (part 44 #[.int .i64 x, .int .i64 y, .int .i64 z] 1).run Tryz.prog w = .ok (.int .i64 y) w := fun x y z => by simp [part, ha]
 have p2 : ∀ x y z : Int, (part 44 #[.int .i64 x, .int .i64 y, .int .i64 z] 2).run Tryz.prog w = .ok (.int .i64 z) w := fun x y z => by simp [part, ha]
 have q : ∀ x : Int, (Op.equalIn 9999 44 (.int .i64 x) (.int .i64 0)).run Tryz.prog w = .ok (x == 0) w := fun x => run_equalIn_int w 9998 _ .i64 .i64 _ _ hE
 rw [show (10000 : Nat) = 9999 + 1 from rfl, Op.equalIn]
 simp only [Sem.run_bind, run_underlying hu, Result.andThen_ok, hs, Std.Legacy.Range.forIn_eq_forIn_range']
 rw [show List.range' ({ stop := 3, step_pos := (by decide) } : Std.Legacy.Range).start ({ stop := 3, step_pos := (by decide) } : Std.Legacy.Range).size ({ stop := 3, step_pos := (by decide) } : Std.Legacy.Range).step = [0, 1, 2] from rfl]
 simp only [List.forIn_cons, List.forIn_nil, Sem.run_bind, Nat.mul_one, p0, q, Result.andThen_ok]
 by_cases h1 : a = 0 <;> by_cases h2 : b = 0 <;> by_cases h3 : c = 0 <;> simp [h1, h2, h3, p1, p2, q]
theorem gd3 (op : BinOp) (x y : Operand) (a b : Array Value) (w : World) : (eqGuard op 171 x y (.agg a) (.agg b)).run Tryz.prog w = .ok () w :=
 run_eqGuard_agg w op _ x y _ _ (by kernel_rfl)
theorem CB.three {w : World} {g : Nat} {t : TypeId} {a b c : Value} (h : CB w g t [a, b, c]) : w.cell? ⟨g, 0, none⟩ = some a ∧ w.cell? ⟨g, 1, none⟩ = some b ∧ w.cell? ⟨g, 2, none⟩ = some c ∧ w.frozen? ⟨g, 0, none⟩ = false ∧ w.frozen? ⟨g, 1, none⟩ = false ∧ w.frozen? ⟨g, 2, none⟩ = false :=
 ⟨h.cell 0, h.cell 1, h.cell 2, h.frozen 0, h.frozen 1, h.frozen 2⟩
def VfCut (w : World) (e1 e2 e3 R S : Int) (v : Value) (wx : World) : Prop :=
 ∃ B, v = .pointer (some ⟨B, 0, none⟩) ∧ CB wx B 171 [.int .i64 e1, .int .i64 e2, .int .i64 e3] ∧ CB wx w.heap.size 39 [.int .i64 R, .int .i64 S] ∧ Below w.heap.size w wx
theorem one3 (a b c : Int) : (#[Value.int .i64 a, .int .i64 b, .int .i64 c].all fun x => x.oneCell') = true := by simp [Value.oneCell']
theorem vf_end {w w0 W : World} {A : Nat} {R S : Int} (e1 e2 e3 : Int) (hbw : Below w.heap.size w w0) (hH : Below w0.heap.size w0 W) (hA : CB W A 171 [.int .i64 0, .int .i64 0, .int .i64 0])
 (hcS : CB w0 w.heap.size 39 [.int .i64 R, .int .i64 S]) (hA2 : w0.heap.size ≤ A) : VfCut w e1 e2 e3 R S (.pointer (some ⟨A, 0, none⟩)) (W.setRow A #[.int .i64 e1, .int .i64 e2, .int .i64 e3]) := by
 have hlt := hcS.lt
 have hS := hcS.ext hH
 refine ⟨A, rfl, setRow_heap _ _ _ _ _ _ hA, hS.keep (setRow_other W A _ _ (by omega)), ?_⟩
 have hb := below_ext hbw hH
 exact ⟨hb.os, hb.tape, hb.output, by rw [size_setRow]; exact hb.size, fun k hk => by rw [setRow_other W A k _ (by have := hbw.size; omega)]; exact hb.block k hk⟩
theorem vf_keep {w wx : World} {e1 e2 e3 R S : Int} {v : Value} (h : VfCut w e1 e2 e3 R S v wx) : wx.cell? ⟨w.heap.size, 0, none⟩ = some (.int .i64 R) ∧ wx.cell? ⟨w.heap.size, 1, none⟩ = some (.int .i64 S) := by
 obtain ⟨_, _, _, h, _⟩ := h
 exact ⟨h.cell 0, h.cell 1⟩
theorem take_dst {P : Program} {md : Region.Mode} {ops : Array Oper} {Q : Exit → Act → World → Prop} {S : World → Prop} (d : Option Tmp) {i : Nat} {oi : Oper} {v : Value} {fuel : Nat} {listed : Array Bool} {a : Act} {w : World} (hi : ops[i]? = some oi) (hd : oi.dst = d)
 (hs : Region.noSelect ops = true) (hf : Region.free md ops listed i = true) (hr : (Region.ready md ops listed).contains i = true)
 (hQ : ∀ c a w, Q (.panic c) (a.put d v) w → Q (.panic c) a w) (hy : YieldsIf P ops S oi v a) (hS : S w)
 (h : wpAnyH P md ops Q S fuel (listed.setIfInBounds i true) (a.put d v) w) : wpAnyH P md ops Q S (fuel + 1) listed a w := by
 subst hd
 exact wpAnyH_take hi hs hf hr hQ hy hS h
def VerCase (P R S e1 e2 e3 : Int) (l : List UInt8) (t : Bool) : Prop :=
 (¬ (e1 = 0 ∧ e2 = 0 ∧ e3 = 0) ∧ t = false) ∨
 (e1 = 0 ∧ e2 = 0 ∧ e3 = 0 ∧ ∃ p r s a b c d : Nat, P = (p : Int) ∧ R = (r : Int) ∧ S = (s : Int) ∧ isEl p ∧ isEl r ∧ s < cQ ∧ chalK r p l = c ∧ pw 4 s = a ∧ pw p c = b ∧ r * b % cP = d ∧ ((a : Int) == (d : Int)) = t)
set_option maxRecDepth 100000 in
set_option maxHeartbeats 4000000 in
theorem verify_any (P R S e1 e2 e3 : Int) (v : Value) (l : List UInt8) (t : Bool) (w : World) (hl : l.length ≤ 50000) (hb : BtsAt w.heap.size w l v) (hL : Laid w) (h1 : Hid (ElE P e1)) (h2 : Hid (ElE R e2)) (h3 : Hid (ScE S e3)) (h : Hid (VerCase P R S e1 e2 e3 l t)) :
 Calls Tryz.prog 73 #[.int .i64 P, v, .agg #[.int .i64 R, .int .i64 S]] w fun e w' => e = .returned (.bool t) ∧ Below w.heap.size w w' := by
 have HB := Lib.hid hb; have HL := Lib.hid hL; have Hl := Lib.hid hl
 obtain ⟨oa, cap, rfl⟩ := hb.shape
 clear hb hL hl
 have hcb0 : Hid (CB (w.alloc (.cells #[.int .i64 R, .int .i64 S] 39)) w.heap.size 39 [.int .i64 R, .int .i64 S]) := heap_alloc_new w _
 have hb0 := Lib.hid ((Below.refl w.heap.size w).alloc (Nat.le_refl _) (.cells #[.int .i64 R, .int .i64 S] 39))
 go_enter Tryz.func73, Tryz.ntmps73
 go_upto_region 1 with fail
 generalize w.alloc (.cells #[.int .i64 R, .int .i64 S] 39) = w0 at *
 go_cut [7] (fun v wx => VfCut w e1 e2 e3 R S v wx)
 case first =>
  clear h HB HL Hl
  have c0 : w0.cell? ⟨w.heap.size, 0, none⟩ = some (.int .i64 R) := hcb0.out.cell 0
  have c1 : w0.cell? ⟨w.heap.size, 1, none⟩ = some (.int .i64 S) := hcb0.out.cell 1
  have H0 := Lib.hid ((Below.refl w0.heap.size w0).drew)
  refine wp_region_held_drew (S := (fun w' => w'.cell? ⟨w.heap.size, 0, none⟩ = some (.int .i64 R) ∧ w'.cell? ⟨w.heap.size, 1, none⟩ = some (.int .i64 S))) (by kernel_rfl) ⟨cell_ext H0.out c0, cell_ext H0.out c1⟩ (fun hHeld => ?_)
  generalize w0.drew = W0 at *
  refine take_dst (some 14) (i := 0) (v := ?va0) rfl rfl (by kernel_rfl) (by kernel_rfl) (by kernel_rfl) (fun _ _ _ h => h) (Or.inl ⟨by rfl, fun wS hSw => ?hya0⟩) (by assumption) ?resta0
  case hya0 => (obtain ⟨s0, s1⟩ := hSw; go_simp; first | done | with_reducible rfl)
  try simp only [Act.put, List.setIfInBounds_toArray, List.set_cons_zero, List.set_cons_succ]
  refine take_dst (some 16) (i := 2) (v := ?va2) rfl rfl (by kernel_rfl) (by kernel_rfl) (by kernel_rfl) (fun _ _ _ h => h) (Or.inl ⟨by rfl, fun wS hSw => ?hya2⟩) (by assumption) ?resta2
  case hya2 => (obtain ⟨s0, s1⟩ := hSw; go_simp; first | done | with_reducible rfl)
  try simp only [Act.put, List.setIfInBounds_toArray, List.set_cons_zero, List.set_cons_succ]
  refine take_dst (some 17) (i := 3) (v := ?va3) rfl rfl (by kernel_rfl) (by kernel_rfl) (by kernel_rfl) (fun _ _ _ h => h) (Or.inl ⟨by rfl, fun wS hSw => ?hya3⟩) (by assumption) ?resta3
  case hya3 => (obtain ⟨s0, s1⟩ := hSw; go_simp; first | done | with_reducible rfl)
  try simp only [Act.put, List.setIfInBounds_toArray, List.set_cons_zero, List.set_cons_succ]
  refine take_dst (some 19) (i := 5) (v := ?va5) rfl rfl (by kernel_rfl) (by kernel_rfl) (by kernel_rfl) (fun _ _ _ h => h) (Or.inl ⟨by rfl, fun wS hSw => ?hya5⟩) (by assumption) ?resta5
  case hya5 => (obtain ⟨s0, s1⟩ := hSw; go_simp; first | done | with_reducible rfl)
  try simp only [Act.put, List.setIfInBounds_toArray, List.set_cons_zero, List.set_cons_succ]
  refine take_dst (some 20) (i := 6) (v := ?va6) rfl rfl (by kernel_rfl) (by kernel_rfl) (by kernel_rfl) (fun _ _ _ h => h) (Or.inl ⟨by rfl, fun wS hSw => ?hya6⟩) (by assumption) ?resta6
  case hya6 => (obtain ⟨s0, s1⟩ := hSw; go_simp; first | done | with_reducible rfl)
  try simp only [Act.put, List.setIfInBounds_toArray, List.set_cons_zero, List.set_cons_succ]
  refine wpAnyH_ready (rs := [1, 9]) (by kernel_rfl) (by simp) ?_
  refine AllReadyH.cons rfl (fun K hK => ?_) (AllReadyH.cons rfl (fun K hK => ?_) AllReadyH.nil)
  · skip
    go_simp
    refine (check_val P e1 h1 _).mono ?_
    rintro e W1 ⟨rfl, hb⟩
    have H1 := Lib.hid (below_ext H0.out hb)
    clear hb
    refine hK.out _ _ ⟨cell_ext H1.out c0, cell_ext H1.out c1⟩ (fun hHeld1 => ?_)
    clear hK K
    try simp only [Act.put, List.setIfInBounds_toArray, List.set_cons_zero, List.set_cons_succ]
    refine wpAnyH_ready (rs := [4, 9]) (by kernel_rfl) (by simp) ?_
    refine AllReadyH.cons rfl (fun K hK => ?_) (AllReadyH.cons rfl (fun K hK => ?_) AllReadyH.nil)
    · skip
      go_simp
      refine (check_val R e2 h2 _).mono ?_
      rintro e W2 ⟨rfl, hb⟩
      have H2 := Lib.hid (below_ext H1.out hb)
      clear hb
      refine hK.out _ _ ⟨cell_ext H2.out c0, cell_ext H2.out c1⟩ (fun hHeld2 => ?_)
      clear hK K
      try simp only [Act.put, List.setIfInBounds_toArray, List.set_cons_zero, List.set_cons_succ]
      refine wpAnyH_ready (rs := [7, 9]) (by kernel_rfl) (by simp) ?_
      refine AllReadyH.cons rfl (fun K hK => ?_) (AllReadyH.cons rfl (fun K hK => ?_) AllReadyH.nil)
      · skip
        go_simp
        refine (scalar_val S e3 h3 _).mono ?_
        rintro e W3 ⟨rfl, hb⟩
        have H3 := Lib.hid (below_ext H2.out hb)
        clear hb
        refine hK.out _ _ ⟨cell_ext H3.out c0, cell_ext H3.out c1⟩ (fun hHeld3 => ?_)
        clear hK K
        try simp only [Act.put, List.setIfInBounds_toArray, List.set_cons_zero, List.set_cons_succ]
        refine take_dst (some 22) (i := 8) (v := ?vt4) rfl rfl (by kernel_rfl) (by kernel_rfl) (by kernel_rfl) (fun _ _ _ h => h) (Or.inl ⟨by rfl, fun wS hSw => ?hyt4⟩) (by assumption) ?restt4
        case hyt4 => (obtain ⟨s0, s1⟩ := hSw; go_simp; first | done | with_reducible rfl)
        try simp only [Act.put, List.setIfInBounds_toArray, List.set_cons_zero, List.set_cons_succ]
        refine wpAnyH_ready (rs := [9]) (by kernel_rfl) (by simp) ?_
        refine AllReadyH.cons rfl (fun K hK => ?_) AllReadyH.nil
        go_simp
        have H5 := Lib.hid (H3.out.alloc H3.out.size (.cells #[.int .i64 0, .int .i64 0, .int .i64 0] 171))
        have HA5 : Hid (CB (W3.alloc (.cells #[.int .i64 0, .int .i64 0, .int .i64 0] 171)) W3.heap.size 171 [.int .i64 0, .int .i64 0, .int .i64 0]) := CB.new W3 _ _
        have HL : Hid (w0.heap.size ≤ W3.heap.size) := H3.out.size
        refine hK.out _ _ ⟨cell_ext H5.out c0, cell_ext H5.out c1⟩ (fun hHeld5 => ?_)
        clear hK K
        generalize W3.alloc (.cells #[.int .i64 0, .int .i64 0, .int .i64 0] 171) = W5 at *
        try simp only [Act.put, List.setIfInBounds_toArray, List.set_cons_zero, List.set_cons_succ]
        refine wpAnyH_ready (rs := [10]) (by kernel_rfl) (by simp) ?_
        refine AllReadyH.cons rfl (fun K hK => ?_) AllReadyH.nil
        rw [if_pos (by simp [Region.wanted])]
        refine wp_store_row 171 (.tmp 7) (.tmp 22) rfl W3.heap.size #[.int .i64 e1, .int .i64 e2, .int .i64 e3] rfl rfl 171 #[.int .i64 0, .int .i64 0, .int .i64 0] HA5.out (by kernel_rfl) rfl (one3 _ _ _) ?_
        have hend := Lib.hid (vf_end e1 e2 e3 hb0.out H5.out HA5.out hcb0.out HL.out)
        refine hK.out _ _ (vf_keep hend.out) (fun hHeldE => ?_)
        clear hK K
        refine wpAnyH_done (by kernel_rfl) ?_ _
        go_wp2_with fail
        go_meet
        exact hend.out
      · skip
        go_simp
        have H6 := Lib.hid (H2.out.alloc H2.out.size (.cells #[.int .i64 0, .int .i64 0, .int .i64 0] 171))
        have HA6 : Hid (CB (W2.alloc (.cells #[.int .i64 0, .int .i64 0, .int .i64 0] 171)) W2.heap.size 171 [.int .i64 0, .int .i64 0, .int .i64 0]) := CB.new W2 _ _
        have HL : Hid (w0.heap.size ≤ W2.heap.size) := H2.out.size
        refine hK.out _ _ ⟨cell_ext H6.out c0, cell_ext H6.out c1⟩ (fun hHeld6 => ?_)
        clear hK K
        generalize W2.alloc (.cells #[.int .i64 0, .int .i64 0, .int .i64 0] 171) = W6 at *
        try simp only [Act.put, List.setIfInBounds_toArray, List.set_cons_zero, List.set_cons_succ]
        refine wpAnyH_ready (rs := [7]) (by kernel_rfl) (by simp) ?_
        refine AllReadyH.cons rfl (fun K hK => ?_) AllReadyH.nil
        go_simp
        refine (scalar_val S e3 h3 _).mono ?_
        rintro e W7 ⟨rfl, hb⟩
        have H7 := Lib.hid (below_ext H6.out hb)
        have HA7 := Lib.hid (CB.ext HA6.out hb)
        clear hb
        refine hK.out _ _ ⟨cell_ext H7.out c0, cell_ext H7.out c1⟩ (fun hHeld7 => ?_)
        clear hK K
        try simp only [Act.put, List.setIfInBounds_toArray, List.set_cons_zero, List.set_cons_succ]
        refine take_dst (some 22) (i := 8) (v := ?vt8) rfl rfl (by kernel_rfl) (by kernel_rfl) (by kernel_rfl) (fun _ _ _ h => h) (Or.inl ⟨by rfl, fun wS hSw => ?hyt8⟩) (by assumption) ?restt8
        case hyt8 => (obtain ⟨s0, s1⟩ := hSw; go_simp; first | done | with_reducible rfl)
        try simp only [Act.put, List.setIfInBounds_toArray, List.set_cons_zero, List.set_cons_succ]
        refine wpAnyH_ready (rs := [10]) (by kernel_rfl) (by simp) ?_
        refine AllReadyH.cons rfl (fun K hK => ?_) AllReadyH.nil
        rw [if_pos (by simp [Region.wanted])]
        refine wp_store_row 171 (.tmp 7) (.tmp 22) rfl W2.heap.size #[.int .i64 e1, .int .i64 e2, .int .i64 e3] rfl rfl 171 #[.int .i64 0, .int .i64 0, .int .i64 0] HA7.out (by kernel_rfl) rfl (one3 _ _ _) ?_
        have hend := Lib.hid (vf_end e1 e2 e3 hb0.out H7.out HA7.out hcb0.out HL.out)
        refine hK.out _ _ (vf_keep hend.out) (fun hHeldE => ?_)
        clear hK K
        refine wpAnyH_done (by kernel_rfl) ?_ _
        go_wp2_with fail
        go_meet
        exact hend.out
    · skip
      go_simp
      have H9 := Lib.hid (H1.out.alloc H1.out.size (.cells #[.int .i64 0, .int .i64 0, .int .i64 0] 171))
      have HA9 : Hid (CB (W1.alloc (.cells #[.int .i64 0, .int .i64 0, .int .i64 0] 171)) W1.heap.size 171 [.int .i64 0, .int .i64 0, .int .i64 0]) := CB.new W1 _ _
      have HL : Hid (w0.heap.size ≤ W1.heap.size) := H1.out.size
      refine hK.out _ _ ⟨cell_ext H9.out c0, cell_ext H9.out c1⟩ (fun hHeld9 => ?_)
      clear hK K
      generalize W1.alloc (.cells #[.int .i64 0, .int .i64 0, .int .i64 0] 171) = W9 at *
      try simp only [Act.put, List.setIfInBounds_toArray, List.set_cons_zero, List.set_cons_succ]
      refine wpAnyH_ready (rs := [4]) (by kernel_rfl) (by simp) ?_
      refine AllReadyH.cons rfl (fun K hK => ?_) AllReadyH.nil
      go_simp
      refine (check_val R e2 h2 _).mono ?_
      rintro e W10 ⟨rfl, hb⟩
      have H10 := Lib.hid (below_ext H9.out hb)
      have HA10 := Lib.hid (CB.ext HA9.out hb)
      clear hb
      refine hK.out _ _ ⟨cell_ext H10.out c0, cell_ext H10.out c1⟩ (fun hHeld10 => ?_)
      clear hK K
      try simp only [Act.put, List.setIfInBounds_toArray, List.set_cons_zero, List.set_cons_succ]
      refine wpAnyH_ready (rs := [7]) (by kernel_rfl) (by simp) ?_
      refine AllReadyH.cons rfl (fun K hK => ?_) AllReadyH.nil
      go_simp
      refine (scalar_val S e3 h3 _).mono ?_
      rintro e W11 ⟨rfl, hb⟩
      have H11 := Lib.hid (below_ext H10.out hb)
      have HA11 := Lib.hid (CB.ext HA10.out hb)
      clear hb
      refine hK.out _ _ ⟨cell_ext H11.out c0, cell_ext H11.out c1⟩ (fun hHeld11 => ?_)
      clear hK K
      try simp only [Act.put, List.setIfInBounds_toArray, List.set_cons_zero, List.set_cons_succ]
      refine take_dst (some 22) (i := 8) (v := ?vt12) rfl rfl (by kernel_rfl) (by kernel_rfl) (by kernel_rfl) (fun _ _ _ h => h) (Or.inl ⟨by rfl, fun wS hSw => ?hyt12⟩) (by assumption) ?restt12
      case hyt12 => (obtain ⟨s0, s1⟩ := hSw; go_simp; first | done | with_reducible rfl)
      try simp only [Act.put, List.setIfInBounds_toArray, List.set_cons_zero, List.set_cons_succ]
      refine wpAnyH_ready (rs := [10]) (by kernel_rfl) (by simp) ?_
      refine AllReadyH.cons rfl (fun K hK => ?_) AllReadyH.nil
      rw [if_pos (by simp [Region.wanted])]
      refine wp_store_row 171 (.tmp 7) (.tmp 22) rfl W1.heap.size #[.int .i64 e1, .int .i64 e2, .int .i64 e3] rfl rfl 171 #[.int .i64 0, .int .i64 0, .int .i64 0] HA11.out (by kernel_rfl) rfl (one3 _ _ _) ?_
      have hend := Lib.hid (vf_end e1 e2 e3 hb0.out H11.out HA11.out hcb0.out HL.out)
      refine hK.out _ _ (vf_keep hend.out) (fun hHeldE => ?_)
      clear hK K
      refine wpAnyH_done (by kernel_rfl) ?_ _
      go_wp2_with fail
      go_meet
      exact hend.out
  · skip
    go_simp
    have H13 := Lib.hid (H0.out.alloc H0.out.size (.cells #[.int .i64 0, .int .i64 0, .int .i64 0] 171))
    have HA13 : Hid (CB (W0.alloc (.cells #[.int .i64 0, .int .i64 0, .int .i64 0] 171)) W0.heap.size 171 [.int .i64 0, .int .i64 0, .int .i64 0]) := CB.new W0 _ _
    have HL : Hid (w0.heap.size ≤ W0.heap.size) := H0.out.size
    refine hK.out _ _ ⟨cell_ext H13.out c0, cell_ext H13.out c1⟩ (fun hHeld13 => ?_)
    clear hK K
    generalize W0.alloc (.cells #[.int .i64 0, .int .i64 0, .int .i64 0] 171) = W13 at *
    try simp only [Act.put, List.setIfInBounds_toArray, List.set_cons_zero, List.set_cons_succ]
    refine wpAnyH_ready (rs := [1]) (by kernel_rfl) (by simp) ?_
    refine AllReadyH.cons rfl (fun K hK => ?_) AllReadyH.nil
    go_simp
    refine (check_val P e1 h1 _).mono ?_
    rintro e W14 ⟨rfl, hb⟩
    have H14 := Lib.hid (below_ext H13.out hb)
    have HA14 := Lib.hid (CB.ext HA13.out hb)
    clear hb
    refine hK.out _ _ ⟨cell_ext H14.out c0, cell_ext H14.out c1⟩ (fun hHeld14 => ?_)
    clear hK K
    try simp only [Act.put, List.setIfInBounds_toArray, List.set_cons_zero, List.set_cons_succ]
    refine wpAnyH_ready (rs := [4]) (by kernel_rfl) (by simp) ?_
    refine AllReadyH.cons rfl (fun K hK => ?_) AllReadyH.nil
    go_simp
    refine (check_val R e2 h2 _).mono ?_
    rintro e W15 ⟨rfl, hb⟩
    have H15 := Lib.hid (below_ext H14.out hb)
    have HA15 := Lib.hid (CB.ext HA14.out hb)
    clear hb
    refine hK.out _ _ ⟨cell_ext H15.out c0, cell_ext H15.out c1⟩ (fun hHeld15 => ?_)
    clear hK K
    try simp only [Act.put, List.setIfInBounds_toArray, List.set_cons_zero, List.set_cons_succ]
    refine wpAnyH_ready (rs := [7]) (by kernel_rfl) (by simp) ?_
    refine AllReadyH.cons rfl (fun K hK => ?_) AllReadyH.nil
    go_simp
    refine (scalar_val S e3 h3 _).mono ?_
    rintro e W16 ⟨rfl, hb⟩
    have H16 := Lib.hid (below_ext H15.out hb)
    have HA16 := Lib.hid (CB.ext HA15.out hb)
    clear hb
    refine hK.out _ _ ⟨cell_ext H16.out c0, cell_ext H16.out c1⟩ (fun hHeld16 => ?_)
    clear hK K
    try simp only [Act.put, List.setIfInBounds_toArray, List.set_cons_zero, List.set_cons_succ]
    refine take_dst (some 22) (i := 8) (v := ?vt17) rfl rfl (by kernel_rfl) (by kernel_rfl) (by kernel_rfl) (fun _ _ _ h => h) (Or.inl ⟨by rfl, fun wS hSw => ?hyt17⟩) (by assumption) ?restt17
    case hyt17 => (obtain ⟨s0, s1⟩ := hSw; go_simp; first | done | with_reducible rfl)
    try simp only [Act.put, List.setIfInBounds_toArray, List.set_cons_zero, List.set_cons_succ]
    refine wpAnyH_ready (rs := [10]) (by kernel_rfl) (by simp) ?_
    refine AllReadyH.cons rfl (fun K hK => ?_) AllReadyH.nil
    rw [if_pos (by simp [Region.wanted])]
    refine wp_store_row 171 (.tmp 7) (.tmp 22) rfl W0.heap.size #[.int .i64 e1, .int .i64 e2, .int .i64 e3] rfl rfl 171 #[.int .i64 0, .int .i64 0, .int .i64 0] HA16.out (by kernel_rfl) rfl (one3 _ _ _) ?_
    have hend := Lib.hid (vf_end e1 e2 e3 hb0.out H16.out HA16.out hcb0.out HL.out)
    refine hK.out _ _ (vf_keep hend.out) (fun hHeldE => ?_)
    clear hK K
    refine wpAnyH_done (by kernel_rfl) ?_ _
    go_wp2_with fail
    go_meet
    exact hend.out
 case rest =>
  obtain ⟨B, rfl, hcB, hcS, hbw⟩ := hcut
  obtain ⟨a0, a1, a2, _, _, _⟩ := hcB.three
  have c0 : wc.cell? ⟨w.heap.size, 0, none⟩ = some (.int .i64 R) := hcS.cell 0
  have c1 : wc.cell? ⟨w.heap.size, 1, none⟩ = some (.int .i64 S) := hcS.cell 1
  have hn3 := eq3 e1 e2 e3 wc
  have hg3 := fun x y => gd3 .neq x y #[.int .i64 e1, .int .i64 e2, .int .i64 e3] #[.int .i64 0, .int .i64 0, .int .i64 0] wc
  have HCS := Lib.hid hcS; have HBW := Lib.hid hbw
  clear hcS hbw hcB hcb0 hb0
  rcases h.out with ⟨hne, rfl⟩ | ⟨rfl, rfl, rfl, p, r, s, a, b, c, d, rfl, rfl, rfl, hp, hr, hs, hc, ha, hB, hd, ht3⟩
  · have ht : (e1 == 0 && e2 == 0 && e3 == 0) = false := by simp; omega
    rw [ht] at hn3
    clear hne ht h
    go_wp2_with fail
    go_ret
    exact ⟨rfl, HBW.out⟩
  · have ht : ((0 : Int) == 0 && (0 : Int) == 0 && (0 : Int) == 0) = true := by decide
    rw [ht] at hn3
    have Hp := Lib.hid hp; have Hr := Lib.hid hr; have Hs := Lib.hid hs; have Hc := Lib.hid hc; have Ha := Lib.hid ha; have HBb := Lib.hid hB; have Hd := Lib.hid hd
    have hcl : Hid (c < cQ) := by show _ < _; rw [← hc]; exact (scalF_lt _ _).2
    have hbe : Hid (isEl b) := by show isEl b; rw [← hB]; exact pw_el hp c
    clear ht h hp hr hs hc ha hB hd
    go_wp2_with fail
    refine (base_ok s a Hs Ha _).mono ?_
    rintro e w1 ⟨rfl, hb⟩
    have hb1 := Lib.hid (below_ext HBW.out hb)
    have d0 : w1.cell? ⟨w.heap.size, 0, none⟩ = some (.int .i64 r) := cell_ext hb c0
    have d1 : w1.cell? ⟨w.heap.size, 1, none⟩ = some (.int .i64 s) := cell_ext hb c1
    have hcs1 := Lib.hid (HCS.out.ext hb)
    clear hb
    go_wp2_with fail
    have hbx := hb1.out.alloc hb1.out.size (.cells #[.int .i64 r, .int .i64 p] 3)
    refine (hash_any sSign _ l _ 2 2 [(r : Int), (p : Int)] _ (by decide) Hl.out (HB.out.ext hbx) (HL.out.ext hbx) rfl (by decide) (box2 _ _ _ _)).mono ?_
    rw [show scalF sSign.data.toList ([(r : Int), (p : Int)].flatMap b8 ++ l) = c from Hc.out]
    rintro e w2 ⟨rfl, hb⟩
    have hb2 := Lib.hid (below_ext hbx hb)
    have hcs2 := Lib.hid (CB.ext (hcs1.out.alloc (.cells #[.int .i64 r, .int .i64 p] 3)) hb)
    clear hb hbx hcs1 d0 d1
    go_wp2_with fail
    refine (exp_ok p c b Hp hcl HBb _).mono ?_
    rintro e w3 ⟨rfl, hb⟩
    have hb3 := Lib.hid (below_ext hb2.out hb)
    have d0 : w3.cell? ⟨w.heap.size, 0, none⟩ = some (.int .i64 r) := (hcs2.out.ext hb).cell 0
    clear hb hcs2
    go_wp2_with fail
    refine (mul_ok r b d Hr hbe Hd _).mono ?_
    rintro e w4 ⟨rfl, hb⟩
    have hb4 := Lib.hid (below_ext hb3.out hb)
    clear hb
    go_wp2_with fail
    go_ret
    exact ⟨rfl, hb4.out⟩
end Go.Proofs.YtdblnbnofjggnaaGreatDoor
namespace Go.Proofs.YtdblnbnofjggnaaGreatDoor
open Go.RowKit Go.Shelf
def PubE (x r e : Int) : Prop := (∃ n p : Nat, x = (n : Int) ∧ ZPr (n : Int) ∧ pw 4 n = p ∧ r = (p : Int) ∧ e = 0) ∨ (¬ ZPr x ∧ r = 0 ∧ e = 40)
theorem pubE_ex (x : Int) : ∃ r e, PubE x r e := by
 by_cases h : ZPr x
 · obtain ⟨n, rfl, _⟩ := pr_nat h
   exact ⟨_, _, .inl ⟨n, _, rfl, h, rfl, rfl, rfl⟩⟩
 · exact ⟨_, _, .inr ⟨h, rfl, rfl⟩⟩
theorem public_val (x r e : Int) (h : Hid (PubE x r e)) (w : World) : Calls Tryz.prog 25 #[.int .i64 x] w fun q w' => q = .returned (.tuple #[.int .i64 r, .int .i64 e]) ∧ Below w.heap.size w w' := by
 rcases h.out with ⟨n, p, rfl, h1, h2, rfl, rfl⟩ | ⟨h1, rfl, rfl⟩
 · exact public_ok n p h1 h2 w
 · refine (public_bad x h1 w).mono ?_
   rintro q w' ⟨rfl, rfl⟩
   exact ⟨rfl, Below.refl _ _⟩
def SigE (x : Int) (l : List UInt8) (R S e : Int) : Prop :=
 (∃ n k r c p m s : Nat, x = (n : Int) ∧ ZPr (n : Int) ∧ nonceK n l = k ∧ pw 4 k = r ∧ pw 4 n = p ∧ chalK r p l = c ∧ c * n % cQ = m ∧ (k + m) % cQ = s ∧ R = (r : Int) ∧ S = (s : Int) ∧ e = 0) ∨ (¬ ZPr x ∧ R = 0 ∧ S = 0 ∧ e = 40)
theorem sigE_ex (x : Int) (l : List UInt8) : ∃ R S e, SigE x l R S e := by
 by_cases h : ZPr x
 · obtain ⟨n, rfl, _⟩ := pr_nat h
   exact ⟨_, _, _, .inl ⟨n, _, _, _, _, _, _, rfl, h, rfl, rfl, rfl, rfl, rfl, rfl, rfl, rfl, rfl⟩⟩
 · exact ⟨_, _, _, .inr ⟨h, rfl, rfl, rfl⟩⟩
theorem sign_val (x R S e : Int) (v : Value) (l : List UInt8) (w : World) (h : Hid (SigE x l R S e)) (hl : l.length ≤ 50000) (hb : BtsAt w.heap.size w l v) (hL : Laid w) :
 Calls Tryz.prog 67 #[.int .i64 x, v] w fun q w' => q = .returned (.tuple #[.agg #[.int .i64 R, .int .i64 S], .int .i64 e]) ∧ Below w.heap.size w w' := by
 rcases h.out with ⟨n, k, r, c, p, m, s, rfl, h1, h2, h3, h4, h5, h6, h7, rfl, rfl, rfl⟩ | ⟨h1, rfl, rfl, rfl⟩
 · exact sign_ok n v l w k r c p m s h1 hl hb hL h2 h3 h4 h5 h6 h7
 · obtain ⟨oa, cap, rfl⟩ := hb.shape
   exact sign_bad x oa _ cap w h1
theorem ElE.z {a x : Int} (h : ElE a x) (hx : x = 0) : ZEl a := by
 rcases h with ⟨h, _⟩ | ⟨_, h⟩
 · exact h
 · omega
theorem ScE.z {a x : Int} (h : ScE a x) (hx : x = 0) : ZSc a := by
 rcases h with ⟨h, _⟩ | ⟨_, h⟩
 · exact h
 · omega
end Go.Proofs.YtdblnbnofjggnaaGreatDoor
