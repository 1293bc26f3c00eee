/- Parts of the proofs of chapter 49's laws: Fre Frs Fsc Shs Fsp Spu. -/
import Derived.Test.YtdblnbnofjggnaaGreatDoorK19
import Derived.Deep.DeepCutAuto
import Derived.Deep.RegionHeld3
import Derived.Test.YtdblnbnofjggnaaGreatDoorK23
import Derived.StillTailTactics
import Derived.Test.YtdblnbnofjggnaaGreatDoorK45
import Derived.Deep.QuietTactic
import Derived.BigQuiet
namespace Go.Proofs.YtdblnbnofjggnaaGreatDoor
open Go.RowKit
def cM : Nat := 2305843009213688668
theorem bitLen_M : Lib.bitLen cM + 3 = 64 := by decide +kernel
def foldM (n : Nat) (b : UInt8) : Nat := (256 * n + b.toNat) % cM
theorem or_lo (n : Nat) (b : UInt8) : bits BinOp.or .u64 (IntKind.u64.wrap ((n : Int) * 256)) (IntKind.u64.wrap (b.toNat : Int)) = ((n * 256 % 18446744073709551616 + b.toNat : Nat) : Int) := by
 have hb := b.toNat_lt
 have e1 : IntKind.u64.wrap ((n : Int) * 256) = ((n * 256 % 18446744073709551616 : Nat) : Int) := by
  have := wrap_nat (n * 256)
  rw [Int.natCast_mul] at this; exact this
 have e2 : IntKind.u64.wrap (b.toNat : Int) = ((b.toNat : Nat) : Int) := Go.Proofs.Mul64.wrapN _ (by omega)
 rw [e1, e2]
 have hA : n * 256 % 18446744073709551616 = (n % 72057594037927936) * 2 ^ 8 := by omega
 have ho := or_add (n * 256 % 18446744073709551616) b.toNat 8 (n % 72057594037927936) hA (by omega)
 have hbo := bits_or_u64_nat (n * 256 % 18446744073709551616) b.toNat (Nat.mod_lt _ (by decide)) (by omega)
 rw [hbo, ho]
theorem fold_num (n : Nat) (b : UInt8) (hn : n < cM) : n / 72057594037927936 < cM ∧ n * 256 % 18446744073709551616 + b.toNat < 18446744073709551616 ∧ (n / 72057594037927936 * 18446744073709551616 + (n * 256 % 18446744073709551616 + b.toNat)) % cM = foldM n b := by
 have hb := b.toNat_lt
 unfold cM at *
 refine ⟨by omega, by omega, ?_⟩
 unfold foldM cM
 congr 1; omega
set_option maxRecDepth 100000 in
set_option maxHeartbeats 1000000 in
theorem fold_any (b : UInt8) (N M n : Nat) (w : World) (hn : n < cM) (hN : w.cell? ⟨N, 0, none⟩ = some (.int .u64 n)) (hM : w.cell? ⟨M, 0, none⟩ = some (.int .u64 (cM : Int))) (hf : w.frozen? ⟨N, 0, none⟩ = false) :
 Calls Tryz.prog 208 #[.int .u8 b.toNat, .pointer (some ⟨N, 0, none⟩), .pointer (some ⟨M, 0, none⟩)] w fun e w' => e = .returned (.tuple #[]) ∧ w'.cell? ⟨N, 0, none⟩ = some (.int .u64 (foldM n b : Nat)) ∧ w'.frozen? ⟨N, 0, none⟩ = false ∧ w.grownBy w' (some N) := by
 obtain ⟨h1, h2, h3⟩ := fold_num n b hn
 have e0 : (n : Int) / 72057594037927936 = ((n / 72057594037927936 : Nat) : Int) := by omega
 have e1 := or_lo n b
 obtain ⟨hi, hhi⟩ : ∃ hi, n / 72057594037927936 = hi := ⟨_, rfl⟩
 obtain ⟨lo, hlo⟩ : ∃ lo, n * 256 % 18446744073709551616 + b.toNat = lo := ⟨_, rfl⟩
 obtain ⟨m, hm⟩ : ∃ m, cM = m := ⟨_, rfl⟩
 obtain ⟨r, hr⟩ : ∃ r, foldM n b = r := ⟨_, rfl⟩
 rw [hhi] at h1 h3 e0; rw [hlo] at h2 h3 e1; rw [hr] at h3 ⊢
 have H1 := Lib.hid h1; have H2 := Lib.hid h2; have H3 := Lib.hid h3
 have hcont := Lib.hid (div64_any hi lo cM 3 bitLen_M (by decide) (by decide) (by decide) (by decide) h1 h2)
 rw [hm] at hM hcont H3
 clear h1 h2 h3 hhi hlo hr hm H1 H2 hn
 go_enter Tryz.func208, Tryz.ntmps208
 go_wp2_with fail
 refine (hcont.out _).mono ?_
 rw [H3.out]
 generalize (hi * 18446744073709551616 + lo) / m = qq
 rintro e w1 ⟨rfl, hb1⟩
 have hNl := World.block_lt_of_cell? w _ hN
 have c1 := (hb1.cell (p := ⟨N, 0, none⟩) hNl).trans hN
 have f1 := (hb1.frozen (p := ⟨N, 0, none⟩) hNl).trans hf
 have HB1 := Lib.hid hb1
 clear hb1
 go_wp2
 go_end0
 refine ⟨rfl, World.cell?_setCell_same _ _ _ c1, by rw [World.frozen?_setCell]; exact f1, ?_⟩
 exact grown_setR ⟨HB1.out.os, HB1.out.tape, HB1.out.output, HB1.out.size, fun k hk _ => HB1.out.block k hk⟩
end Go.Proofs.YtdblnbnofjggnaaGreatDoor
namespace Go.Proofs.YtdblnbnofjggnaaGreatDoor
open Go.RowKit
theorem idx_d (l : List UInt8) (hl : l.length = 32) (k : Nat) (c : UInt8) (hc : l[k]? = some c) (w : World) : (Instr.index 165 (dv l) (.int .i64 (k : Int))).run Tryz.prog w = .ok (.int .u8 (c.toNat : Int)) w := by
 obtain ⟨i, hi, hz, hs, hby⟩ := info_parts (P := Tryz.prog) (e := 5) (z := .int .u8 0) (size := 1) (bytes := 1) (by kernel_rfl)
 have hk : k < 32 := by have := (List.getElem?_eq_some_iff.1 hc).1; omega
 have hu := Tryz.underlying165
 have hcc : (bcells l)[k]? = some (.int .u8 (c.toNat : Int)) := by simp [bcells, hc]
 have hk2 : ((k : Int) < 32) := by omega
 unfold dv
 simp [Instr.index, asIntOf, run_underlying hu, sizeOf, typeInfo, hi, hs, hk, part, hcc]
def restM (l : List UInt8) : Nat := l.foldl foldM 0
theorem foldM_lt (n : Nat) (b : UInt8) : foldM n b < cM := Nat.mod_lt _ (by decide)
theorem restM_lt (l : List UInt8) : restM l < cM := by
 unfold restM
 rcases List.eq_nil_or_concat l with rfl | ⟨p, c, rfl⟩
 · decide
 · rw [List.concat_eq_append, List.foldl_append]; exact foldM_lt _ _
theorem restM_step (l : List UInt8) (k : Nat) (c : UInt8) (hc : l[k]? = some c) : restM (l.take (k + 1)) = foldM (restM (l.take k)) c := by
 unfold restM
 obtain ⟨h1, h2⟩ := List.getElem?_eq_some_iff.1 hc
 rw [List.take_succ_eq_append_getElem h1, h2, List.foldl_append]; rfl
def RestRel (l : List UInt8) (N : Nat) (w : World) (i : Value) (wr : World) : Prop :=
 ∃ k : Nat, k ≤ 32 ∧ i = .int .i64 k ∧ wr.cell? ⟨N, 0, none⟩ = some (.int .u64 (restM (l.take k) : Nat)) ∧ wr.frozen? ⟨N, 0, none⟩ = false ∧ w.grownBy wr (some N)
set_option maxRecDepth 100000 in
set_option maxHeartbeats 2000000 in
theorem grest_any (l : List UInt8) (hl : l.length = 32) (mi : Int) (hmi : mi = (cM : Int)) (w : World) :
 Calls Tryz.prog 198 #[dv l, .int .u64 mi] w fun e w' => e = .returned (.int .u64 (restM l : Nat)) ∧ Below w.heap.size w w' := by
 have hmf : ∀ (fn : Fn) (first cap : Array Value) (w : World), (Instr.makeFunc fn first cap).run Tryz.prog w = .ok (.func fn first cap) w := fun _ _ _ _ => rfl
 have hl' := Lib.hid hl
 obtain ⟨m, hm⟩ : ∃ m, cM = m := ⟨_, rfl⟩
 rw [hm] at hmi
 subst hmi
 have Hm := Lib.hid hm
 clear hl hm
 have hA : Hid (CB (((w.alloc (.cells (bcells l).toArray 165)).alloc (.cells #[.int .u64 m] 183)).alloc (.cells #[.int .u64 0] 183)) w.heap.size 165 (bcells l)) := (Below.heap_alloc _ _ _ (by simp; omega)).trans ((Below.heap_alloc _ _ _ (by simp)).trans (heap_alloc_new w _))
 have hG := Lib.hid (grown_alloc (G := none) (grown_alloc (grown_alloc (grown_refl w _) (.cells (bcells l).toArray 165)) (.cells #[.int .u64 m] 183)) (.cells #[.int .u64 0] 183))
 have cM' : (((w.alloc (.cells (bcells l).toArray 165)).alloc (.cells #[.int .u64 m] 183)).alloc (.cells #[.int .u64 0] 183)).cell? ⟨w.heap.size + 1, 0, none⟩ = some (.int .u64 m) := by
  have h := heap_alloc_new (w.alloc (.cells (bcells l).toArray 165)) (.cells #[.int .u64 m] 183)
  rw [World.size_alloc] at h
  have hcb : CB (((w.alloc (.cells (bcells l).toArray 165)).alloc (.cells #[.int .u64 m] 183)).alloc (.cells #[.int .u64 0] 183)) (w.heap.size + 1) 183 [.int .u64 m] := (Below.heap_alloc _ _ _ (by simp)).trans h
  exact hcb.cell 0
 have cN : (((w.alloc (.cells (bcells l).toArray 165)).alloc (.cells #[.int .u64 m] 183)).alloc (.cells #[.int .u64 0] 183)).cell? ⟨w.heap.size + 1 + 1, 0, none⟩ = some (.int .u64 0) ∧ (((w.alloc (.cells (bcells l).toArray 165)).alloc (.cells #[.int .u64 m] 183)).alloc (.cells #[.int .u64 0] 183)).frozen? ⟨w.heap.size + 1 + 1, 0, none⟩ = false := by
  have h := heap_alloc_new ((w.alloc (.cells (bcells l).toArray 165)).alloc (.cells #[.int .u64 m] 183)) (.cells #[.int .u64 0] 183)
  rw [World.size_alloc, World.size_alloc] at h
  have hcb : CB (((w.alloc (.cells (bcells l).toArray 165)).alloc (.cells #[.int .u64 m] 183)).alloc (.cells #[.int .u64 0] 183)) (w.heap.size + 1 + 1) 183 [.int .u64 0] := h
  exact ⟨hcb.cell 0, hcb.frozen 0⟩
 have HcM := Lib.hid cM'; have HcN := Lib.hid cN
 clear cM' cN
 change Calls Tryz.prog 198 #[.agg (bcells l).toArray, .int .u64 m] w _
 go_enter Tryz.func198, Tryz.ntmps198
 go_wp2_with (with_reducible refine wpList_load_d (hgd := rfl) 165 (.tmp 2) rfl w.heap.size l hl'.out rfl 165 _ hA.out Tryz.underlying165 rfl dig_sz ?_)
 generalize (((w.alloc (.cells (bcells l).toArray 165)).alloc (.cells #[.int .u64 m] 183)).alloc (.cells #[.int .u64 0] 183)) = w0 at *
 obtain ⟨d, hd⟩ : ∃ d, dv l = d := ⟨_, rfl⟩
 rw [hd]
 have hidx := Lib.hid (fun k c hc w => idx_d l hl'.out k c hc w)
 rw [hd] at hidx
 clear hd
 go_loopw [10] (fun i wr => RestRel l (w.heap.size + 1 + 1) w0 i wr) (fun i _ => 32 - (intOf i).toNat)
 case atStart => exact ⟨0, by omega, rfl, HcN.out.1, HcN.out.2, grown_refl _ _⟩
 case round =>
  obtain ⟨k, hk, rfl, hc, hf, hg⟩ := hrel
  have HG := Lib.hid hg
  by_cases hlt : k < 32
  · have tk : decide ((k : Int) < 32) = true := by simp; omega
    obtain ⟨c, hck⟩ : ∃ c, l[k]? = some c := ⟨_, List.getElem?_eq_getElem (by rw [hl'.out]; exact hlt)⟩
    have hix := hidx.out k c hck
    have hst := Lib.hid (restM_step l k c hck)
    obtain ⟨n, hn⟩ : ∃ n, restM (l.take k) = n := ⟨_, rfl⟩
    have hnl : n < cM := by rw [← hn]; exact restM_lt _
    rw [hn] at hc hst
    have hMr : wr.cell? ⟨w.heap.size + 1, 0, none⟩ = some (.int .u64 (cM : Int)) := by rw [Hm.out]; exact hg.cell (a := ⟨w.heap.size + 1, 0, none⟩) HcM.out (by simp)
    have HMr := Lib.hid hMr; have Hnl := Lib.hid hnl
    clear hg hck hn hMr hnl
    go_wp2_with fail
    refine (fold_any c (w.heap.size + 1 + 1) (w.heap.size + 1) n wr Hnl.out hc HMr.out hf).mono ?_
    rintro e w1 ⟨rfl, hc1, hf1, hg1⟩
    have HC1 := Lib.hid hc1; have HF1 := Lib.hid hf1; have HG1 := Lib.hid hg1
    clear hc1 hf1 hg1
    go_wp2_with fail
    go_roundw
    case rel => exact ⟨k + 1, by omega, by go_num, by rw [hst.out]; exact HC1.out, HF1.out, grown_trans HG.out HG1.out (.inl rfl)⟩
    case measure => simp [intOf]; omega
  · have hk32 : k = 32 := by omega
    have tk : decide ((k : Int) < 32) = false := by simp; omega
    rw [hk32, List.take_of_length_le (by rw [hl'.out]; exact Nat.le_refl _)] at hc
    obtain ⟨n, hn⟩ : ∃ n, restM l = n := ⟨_, rfl⟩
    rw [hn] at hc
    have Hn := Lib.hid hn
    have hgw := Lib.hid (grown_trans hG.out hg (.inr fun g hg => by injection hg; omega))
    clear hg hn hk32
    go_wp2
    refine bodyPost_ret (v := .int .u64 n) (by simp [results, Tryz.results198, go_sem, hc]) rfl ?_
    exact ⟨by rw [Hn.out], (grown_none hgw.out).setCell (by simp; omega) _⟩
end Go.Proofs.YtdblnbnofjggnaaGreatDoor
namespace Go.Proofs.YtdblnbnofjggnaaGreatDoor
open Go.RowKit
def scalF (t l : List UInt8) : Nat := 1 + restM (tagged t l)
set_option maxRecDepth 100000 in
set_option maxHeartbeats 1000000 in
theorem scalar_any (s : ByteArray) (v : Value) (l : List UInt8) (w : World) (hs : s.size ≤ 100000) (hl : l.length ≤ 100000) (hb : BtsAt w.heap.size w l v) (hL : Laid w) :
 Calls Tryz.prog 176 #[.string s, v] w fun e w' => e = .returned (.int .i64 (scalF s.data.toList l : Nat)) ∧ Below w.heap.size w w' := by
 have HB := Lib.hid hb; have HL := Lib.hid hL
 obtain ⟨oa, cap, rfl⟩ := hb.shape
 clear hb hL
 obtain ⟨d, hd⟩ : ∃ d, tagged s.data.toList l = d := ⟨_, rfl⟩
 have hdl := Lib.hid (tagged_len s.data.toList l)
 rw [hd] at hdl
 have Hd := Lib.hid hd
 obtain ⟨n, hn⟩ : ∃ n, restM d = n := ⟨_, rfl⟩
 have hnl : n < 2305843009213688668 := by rw [← hn]; exact restM_lt d
 have e1 : wrap64 (n : Int) = (n : Int) := by unfold wrap64; omega
 have e3 : wrap64 (1 + (n : Int)) = ((1 + n : Nat) : Int) := by unfold wrap64; omega
 have Hn := Lib.hid hn; have Hnl := Lib.hid hnl
 have hfin : Hid (scalF s.data.toList l = 1 + n) := by show scalF s.data.toList l = 1 + n; unfold scalF; rw [hd, hn]
 clear hd hn hnl
 go_enter Tryz.func176, Tryz.ntmps176
 go_wp2_with fail
 refine (tagged_any s _ l _ hs hl HB.out HL.out).mono ?_
 rw [Hd.out]
 rintro e w1 ⟨rfl, hb1⟩
 go_wp2_with fail
 refine (grest_any d hdl.out _ rfl _).mono ?_
 rw [Hn.out]
 rintro e w2 ⟨rfl, hb2⟩
 have HB2 := Lib.hid (below_ext hb1 hb2)
 clear hb1 hb2
 go_wp2
 go_ret
 refine ⟨?_, HB2.out⟩
 show Ending.returned (.int .i64 (wrap64 (1 + (n : Int)))) = _
 rw [e3, hfin.out]
end Go.Proofs.YtdblnbnofjggnaaGreatDoor
namespace Go.Proofs.YtdblnbnofjggnaaGreatDoor
section
open Go.RowKit
def u64 (n : Int) : Nat := (IntKind.u64.wrap n).toNat
theorem u64_wrap (n : Int) : IntKind.u64.wrap n = (u64 n : Int) := by
 have h : 0 ≤ IntKind.u64.wrap n := by simp only [IntKind.wrap_u64]; omega
 unfold u64; omega
def b8 (n : Int) : List UInt8 := be 8 (u64 n)
theorem b8_len (n : Int) : (b8 n).length = 8 := be_len _ _
theorem b8_at (u j : Nat) (h : j < 8) (c : UInt8) (hc : (be 8 u)[j]? = some c) : (u : Int) / 2 ^ (8 * (7 - j)) % 256 = (c.toNat : Int) := by
 have h1 := be_get 8 u (7 - j) (by omega)
 rw [show 8 - 1 - (7 - j) = j by omega] at h1
 simp only [bcells, List.getElem?_map, hc, Option.map_some, Option.some.injEq, Value.int.injEq, true_and] at h1
 exact h1.symm
end
section
open Go.RowKit
def HRel (w : World) (ns : List Int) (v i : Value) (wr : World) : Prop :=
 ∃ k : Nat, k ≤ ns.length ∧ i = .int .i64 k ∧ OwnB 5 wr w.heap.size v ((ns.take k).flatMap b8) ∧ Below w.heap.size w wr
def P3Rel (w : World) (p B : List UInt8) (v i : Value) (wr : World) : Prop :=
 ∃ j : Nat, j ≤ 8 ∧ i = .int .i64 (56 - 8 * (j : Int)) ∧ OwnB 5 wr w.heap.size v (p ++ B.take j) ∧ Below w.heap.size w wr
theorem flat_len (ns : List Int) : (ns.flatMap b8).length = 8 * ns.length := by
 induction ns with
 | nil => rfl
 | cons a r ih => rw [List.flatMap_cons, List.length_append, ih, b8_len, List.length_cons]; omega
set_option maxRecDepth 100000 in
set_option maxHeartbeats 2000000 in
theorem hash_any (s : ByteArray) (v : Value) (l : List UInt8) (nb n cap : Nat) (ns : List Int) (w : World) (hs : s.size ≤ 100000) (hl : l.length ≤ 50000) (hb : BtsAt w.heap.size w l v) (hL : Laid w) (hnl : ns.length = n) (hn2 : n ≤ 1000)
 (hc : ∀ j x, ns[j]? = some x → w.cell? ⟨nb, j, none⟩ = some (.int .i64 x)) :
 Calls Tryz.prog 129 #[.string s, v, .slice (some ⟨nb, 0, none⟩) n cap] w fun e w' => e = .returned (.int .i64 (scalF s.data.toList (ns.flatMap b8 ++ l) : Nat)) ∧ Below w.heap.size w w' := by
 have HB := Lib.hid hb; have HL := Lib.hid hL; have HC := Lib.hid hc; have Hs := Lib.hid hs; have Hl := Lib.hid hl; have Hnl := Lib.hid hnl; have Hn2 := Lib.hid hn2
 have bn : (n : Int) ≤ 1000 := by omega
 obtain ⟨oa, capm, rfl⟩ := hb.shape
 clear hb hL hc hs hl hnl hn2
 go_enter Tryz.func129, Tryz.ntmps129
 go_wp2
 go_loopw [7, 13] (fun v i wr => HRel w ns v i wr) (fun _ i _ => n - (intOf i).toNat)
 case atStart => exact ⟨0, Nat.zero_le _, rfl, OwnB.nil _ _ _, Below.refl _ _⟩
 case round =>
  obtain ⟨k, hk, rfl, ho, hb⟩ := hrel
  have HO := Lib.hid ho; have HBr := Lib.hid hb
  obtain ⟨oa3, cp3, rfl⟩ := OwnB.form ho
  have hkn : k ≤ n := by have := Hnl.out; omega
  obtain ⟨p, hp⟩ : ∃ p, (ns.take k).flatMap b8 = p := ⟨_, rfl⟩
  have hpl : p.length = 8 * k := by rw [← hp, flat_len, List.length_take]; omega
  rw [hp] at HO ⊢
  have Hp := Lib.hid hp; have Hpl := Lib.hid hpl
  rw [hpl] at HO ⊢
  clear ho hb hp hpl hk
  by_cases hlt : k < n
  · have tk : decide ((k : Int) < (n : Int)) = true := by simp; omega
    have tk' : decide (k < n) = true := by simp; omega
    obtain ⟨x, hx⟩ : ∃ x, ns[k]? = some x := ⟨_, List.getElem?_eq_getElem (by rw [Hnl.out]; exact hlt)⟩
    have cc : wr.cell? ⟨nb, k, none⟩ = some (.int .i64 x) := cell_ext HBr.out (HC.out k x hx)
    have Hx := Lib.hid hx
    obtain ⟨u, hu⟩ : ∃ u, u64 x = u := ⟨_, rfl⟩
    have e0 : IntKind.u64.wrap x = (u : Int) := by rw [u64_wrap, hu]
    have Hu := Lib.hid hu
    clear hx hu
    go_wp2
    clear cc
    obtain ⟨wo, rfl⟩ : ∃ wo : World, wo = wr := ⟨_, rfl⟩
    go_loopw [7, 10] (fun v i wr => P3Rel w p (be 8 u) v i wr) (fun _ i _ => (intOf i + 8).toNat)
    case atStart => exact ⟨0, Nat.zero_le _, rfl, by rw [List.take_zero, List.append_nil]; have h := HO.out; exact h, HBr.out⟩
    case round =>
     obtain ⟨j, hj, rfl, ho, hb⟩ := hrel
     obtain ⟨oa4, cp4, rfl⟩ := OwnB.form ho
     have hbl : (be 8 u).length = 8 := be_len _ _
     have HO4 := Lib.hid ho; have HB4 := Lib.hid hb
     have hlt4 := Lib.hid (fun g hg => (World.ownsRow.lt ho g hg).1)
     obtain ⟨q, hq⟩ : ∃ q, p ++ (be 8 u).take j = q := ⟨_, rfl⟩
     have hql : q.length = 8 * k + j := by rw [← hq, List.length_append, Hpl.out, List.length_take, hbl]; omega
     rw [hq] at HO4 hlt4 ⊢
     rw [hql] at HO4 hlt4 ⊢
     have Hq := Lib.hid hq; have Hql := Lib.hid hql
     clear ho hb hq hql
     by_cases h8 : j < 8
     · have tj : decide ((0 : Int) ≤ 56 - 8 * (j : Int)) = true := by simp; omega
       have tj2 : (0 : Int) ≤ 56 - 8 * (j : Int) := by omega
       have tj3 : (56 : Int) - 8 * (j : Int) ≤ 56 := by omega
       have e5 : ((56 : Int) - 8 * (j : Int)).toNat = 8 * (7 - j) := by omega
       have e6 : wrap64 (56 - 8 * (j : Int) - 8) = 56 - 8 * ((j + 1 : Nat) : Int) := by unfold wrap64; omega
       obtain ⟨c, hc⟩ : ∃ c, (be 8 u)[j]? = some c := ⟨_, List.getElem?_eq_getElem (by omega)⟩
       have hxi := Lib.hid (b8_at u j h8 c hc)
       have htk := Lib.hid (take_at _ j c hc)
       have hw1 := Lib.hid (HO4.out.alloc (.cells #[.int .u8 ((u : Int) / 2 ^ (8 * (7 - j)) % 256)] 5)); have hw2 := Lib.hid (HB4.out.alloc HB4.out.size (.cells #[.int .u8 ((u : Int) / 2 ^ (8 * (7 - j)) % 256)] 5))
       clear hc hbl
       go_wp2_with (at_builtin; refine wpList_append_1 (e := 5) Tryz.underlying50 (by kernel_rfl) rfl _ _ rfl w.heap.size (.slice oa4 (8 * k + j) cp4) q rfl hw1.out wr.heap.size ((u : Int) / 2 ^ (8 * (7 - j)) % 256) c rfl (by simp) hxi.out (by have := Hql.out; omega) hw2.out.size ?_; intro v5 w5 ho5 hg5 hn5)
       have hb5 : Below w.heap.size w w5 := hw2.out.grown hg5 hw2.out.size hlt4.out
       go_roundw
       case rel => exact ⟨j + 1, by omega, by rw [show (56 : Int) - 8 * (j : Int) - 8 = 56 - 8 * ((j + 1 : Nat) : Int) by omega], by rw [htk.out, ← List.append_assoc, Hq.out]; exact ho5, hb5⟩
       case measure => simp [intOf]; omega
     · have h8' : j = 8 := by omega
       have tj : decide ((0 : Int) ≤ 56 - 8 * (j : Int)) = false := by simp; omega
       have hfin : Hid (q = (ns.take (k + 1)).flatMap b8) := by
        show q = _
        rw [← Hq.out, h8', List.take_of_length_le (by rw [hbl]; exact Nat.le_refl _), List.take_add_one, Hx.out, List.flatMap_append, Hp.out, ← Hu.out]
        simp [b8]
       have hk8 : Hid (8 * k + j = 8 * (k + 1)) := by show _ = _; omega
       clear hbl h8'
       go_wp2
       go_roundw
       case rel => exact ⟨k + 1, by have := Hnl.out; omega, by go_num, by rw [← hfin.out]; have h := HO4.out; exact h, HB4.out⟩
       case measure => simp [intOf]; omega
  · have hkn' : k = n := by omega
    have tk : decide ((k : Int) < (n : Int)) = false := by simp; omega
    have tk' : decide (k < n) = false := by simp; omega
    have hpf : Hid (p = ns.flatMap b8) := by show p = _; rw [← Hp.out, List.take_of_length_le (by rw [Hnl.out]; omega)]
    have S2 := Lib.hid (SrcB.ofBts (P := Tryz.prog) Tryz.underlying50 (HB.out.ext HBr.out))
    have hlt := Lib.hid (fun g hg => (World.ownsRow.lt HO.out g hg).1)
    have h8k : Hid (8 * k ≤ 8000) := by show _ ≤ _; omega
    clear hkn'
    go_wp2_with (at_builtin; refine wpList_append_B (e := 5) Tryz.underlying50 (by kernel_rfl) rfl _ _ rfl w.heap.size (.slice oa3 (8 * k) cp3) p rfl HO.out _ l rfl S2.out (by have := Hpl.out; have := Hl.out; have := h8k.out; omega) HBr.out.size ?_; intro v5 w5 ho5 hg5 hn5)
    have hb5 : Below w.heap.size w w5 := HBr.out.grown hg5 HBr.out.size hlt.out
    have HO5 := Lib.hid (own_bts ho5); have HB5 := Lib.hid hb5
    clear ho5 hg5 hn5 hb5
    go_wp2_with fail
    refine (scalar_any s _ (p ++ l) _ Hs.out (by rw [List.length_append, Hpl.out]; have := Hl.out; have := h8k.out; omega) HO5.out (HL.out.ext HB5.out)).mono ?_
    rw [hpf.out]
    rintro e w6 ⟨rfl, hb6⟩
    have HB6 := Lib.hid (below_ext HB5.out hb6)
    clear hb6
    go_wp2
    go_ret
    exact ⟨rfl, HB6.out⟩
end
end Go.Proofs.YtdblnbnofjggnaaGreatDoor
namespace Go.Proofs.YtdblnbnofjggnaaGreatDoor
open Go.RowKit Go.Shelf
def ZSc (x : Int) : Prop := 0 ≤ x ∧ x < (cQ : Int)
theorem zsc_not {x : Int} (h : ¬ ZSc x) : x < 0 ∨ (cQ : Int) ≤ x := by unfold ZSc at h; omega
theorem tneg {x : Int} (h : x < 0) : decide (x < 0) = true := decide_eq_true h
theorem tbig {x : Int} (h : (cQ : Int) ≤ x) : decide (x < 0) = false ∧ decide ((2305843009213688669 : Int) ≤ x) = true :=
 ⟨decide_eq_false (Int.not_lt.2 (Int.le_trans (by decide : (0 : Int) ≤ (cQ : Int)) h)), decide_eq_true h⟩
set_option maxRecDepth 100000 in
theorem scalars_bad1 (x : Int) (b cap : Nat) (h : Hid (¬ ZSc x)) (w : World) (hc : w.cell? ⟨b, 0, none⟩ = some (.int .i64 x)) :
 Calls Tryz.prog 177 #[.slice (some ⟨b, 0, none⟩) 2 cap] w fun e w' => e = .returned (.bool false) ∧ w = w' := by
 rcases zsc_not h.out with hx | hx
 · have t1 := tneg hx
   clear hx
   go_enter Tryz.func177, Tryz.ntmps177
   go_wp2
   refine wp_loop_rounds 3 ?_
   rw [rounds_succ]; go_wp2
   go_ret
   exact ⟨rfl, rfl⟩
 · obtain ⟨t1, t2⟩ := tbig hx
   clear hx
   go_enter Tryz.func177, Tryz.ntmps177
   go_wp2
   refine wp_loop_rounds 3 ?_
   rw [rounds_succ]; go_wp2
   go_ret
   exact ⟨rfl, rfl⟩
set_option maxRecDepth 100000 in
theorem scalars_bad2 (x y : Int) (b cap : Nat) (hx : Hid (ZSc x)) (h : Hid (¬ ZSc y)) (w : World) (hc : w.cell? ⟨b, 0, none⟩ = some (.int .i64 x)) (hc2 : w.cell? ⟨b, 1, none⟩ = some (.int .i64 y)) :
 Calls Tryz.prog 177 #[.slice (some ⟨b, 0, none⟩) 2 cap] w fun e w' => e = .returned (.bool false) ∧ w = w' := by
 obtain ⟨s1, s2⟩ := sc_tests hx.out
 rcases zsc_not h.out with hy | hy
 · have t1 := tneg hy
   clear hy
   go_enter Tryz.func177, Tryz.ntmps177
   go_wp2
   refine wp_loop_rounds 3 ?_
   rw [rounds_succ]; go_wp2
   rw [rounds_succ]; go_wp2
   go_ret
   exact ⟨rfl, rfl⟩
 · obtain ⟨t1, t2⟩ := tbig hy
   clear hy
   go_enter Tryz.func177, Tryz.ntmps177
   go_wp2
   refine wp_loop_rounds 3 ?_
   rw [rounds_succ]; go_wp2
   rw [rounds_succ]; go_wp2
   go_ret
   exact ⟨rfl, rfl⟩
def ScPost (x y : Int) (f : Nat → Nat → Nat) (w : World) (e : Ending) (w' : World) : Prop :=
 (∃ r k : Int, e = .returned (.tuple #[.int .i64 r, .int .i64 k]) ∧ ((ZSc x ∧ ZSc y ∧ r = (f x.toNat y.toNat : Nat) ∧ k = 0) ∨ (¬ (ZSc x ∧ ZSc y) ∧ r = 0 ∧ k = 1))) ∧ Below w.heap.size w w'
theorem ScPost.bad {x y : Int} {f : Nat → Nat → Nat} {w w' : World} (h : ¬ (ZSc x ∧ ZSc y)) (hb : Below w.heap.size w w') : ScPost x y f w (.returned (.tuple #[.int .i64 0, .int .i64 1])) w' := ⟨⟨0, 1, rfl, .inr ⟨h, rfl, rfl⟩⟩, hb⟩
theorem gsum_any (x y : Int) (w : World) : Calls Tryz.prog 132 #[.int .i64 x, .int .i64 y] w (ScPost x y (fun a b => (a + b) % cQ) w) := by
 by_cases hx : ZSc x
 case neg =>
  have h := Lib.hid hx
  have hxy := Lib.hid (show ¬ (ZSc x ∧ ZSc y) from fun h => hx h.1)
  clear hx
  go_enter Tryz.func132, Tryz.ntmps132
  go_wp2_with fail
  refine (scalars_bad1 x _ _ h _ (by simp)).mono ?_
  rintro e w2 ⟨rfl, rfl⟩
  go_wp2_with fail
  go_ret2
  exact ScPost.bad hxy.out ((Below.refl _ _).alloc (Nat.le_refl _) _)
 case pos =>
  by_cases hy : ZSc y
  case neg =>
   have h := Lib.hid hy; have h1 := Lib.hid hx
   have hxy := Lib.hid (show ¬ (ZSc x ∧ ZSc y) from fun h => hy h.2)
   clear hx hy
   go_enter Tryz.func132, Tryz.ntmps132
   go_wp2_with fail
   refine (scalars_bad2 x y _ _ h1 h _ (by simp) (by simp)).mono ?_
   rintro e w2 ⟨rfl, rfl⟩
   go_wp2_with fail
   go_ret2
   exact ScPost.bad hxy.out ((Below.refl _ _).alloc (Nat.le_refl _) _)
  case pos =>
   obtain ⟨a, rfl⟩ : ∃ a : Nat, x = (a : Int) := ⟨x.toNat, by have := hx.1; omega⟩
   obtain ⟨b, rfl⟩ : ∃ b : Nat, y = (b : Int) := ⟨y.toNat, by have := hy.1; omega⟩
   refine (sum_any a b _ (Lib.hid (Int.ofNat_lt.1 hx.2)) (Lib.hid (Int.ofNat_lt.1 hy.2)) (Lib.hid rfl) w).mono ?_
   rintro e w' ⟨rfl, hb⟩
   exact ⟨⟨_, _, rfl, .inl ⟨hx, hy, rfl, rfl⟩⟩, hb⟩
end Go.Proofs.YtdblnbnofjggnaaGreatDoor
namespace Go.Proofs.YtdblnbnofjggnaaGreatDoor
open Go.RowKit Go.Shelf
def ZPr (x : Int) : Prop := 1 ≤ x ∧ x < (cQ : Int)
theorem zpr_not {x : Int} (h : ¬ ZPr x) : x < 1 ∨ (cQ : Int) ≤ x := by unfold ZPr at h; omega
theorem pr_nat {x : Int} (h : ZPr x) : ∃ n : Nat, x = (n : Int) ∧ 1 ≤ n ∧ n < cQ := ⟨x.toNat, by have := h.1; omega, by have := h.1; omega, by have := h.1; have := h.2; omega⟩
theorem valid_yes (x : Int) (h : Hid (ZPr x)) (w : World) : Calls Tryz.prog 71 #[.int .i64 x] w fun e w' => e = .returned (.bool true) ∧ w = w' := by
 have t1 : decide (1 ≤ x) = true := decide_eq_true h.out.1
 have t2 : decide (x < (2305843009213688669 : Int)) = true := decide_eq_true h.out.2
 go_enter Tryz.func71, Tryz.ntmps71
 go_wp2
 go_ret
 exact ⟨rfl, rfl⟩
theorem valid_no (x : Int) (h : Hid (¬ ZPr x)) (w : World) : Calls Tryz.prog 71 #[.int .i64 x] w fun e w' => e = .returned (.bool false) ∧ w = w' := by
 rcases zpr_not h.out with hx | hx
 · have t1 : decide (1 ≤ x) = false := decide_eq_false (by omega)
   clear hx
   go_enter Tryz.func71, Tryz.ntmps71
   go_wp2
   go_ret
   exact ⟨rfl, rfl⟩
 · have t1 : decide (1 ≤ x) = true := decide_eq_true (Int.le_trans (by decide : (1 : Int) ≤ (cQ : Int)) hx)
   have t2 : decide (x < (2305843009213688669 : Int)) = false := decide_eq_false (Int.not_lt.2 hx)
   clear hx
   go_enter Tryz.func71, Tryz.ntmps71
   go_wp2
   go_ret
   exact ⟨rfl, rfl⟩
theorem keypub_any (n r : Nat) (hn : Hid (n < cQ)) (hr : Hid (pw 4 n = r)) (w : World) : Calls Tryz.prog 72 #[.int .i64 n] w fun e w' => e = .returned (.int .i64 r) ∧ Below w.heap.size w w' := by
 go_enter Tryz.func72, Tryz.ntmps72
 go_wp2_with fail
 refine (base_ok n r hn hr _).mono ?_
 rintro e w1 ⟨rfl, hb⟩
 go_wp2_with fail
 go_ret
 exact ⟨rfl, hb⟩
theorem public_ok (n r : Nat) (hn : Hid (ZPr (n : Int))) (hr : Hid (pw 4 n = r)) (w : World) : Calls Tryz.prog 25 #[.int .i64 n] w fun e w' => e = .returned (.tuple #[.int .i64 r, .int .i64 0]) ∧ Below w.heap.size w w' := by
 have hnl : Hid (n < cQ) := Int.ofNat_lt.1 hn.out.2
 go_enter Tryz.func25, Tryz.ntmps25
 go_wp2_with fail
 refine (valid_yes n hn _).mono ?_
 rintro e w1 ⟨rfl, rfl⟩
 go_wp2_with fail
 refine (keypub_any n r hnl hr _).mono ?_
 rintro e w1 ⟨rfl, hb⟩
 go_wp2_with fail
 go_ret2
 exact ⟨rfl, hb⟩
theorem public_bad (x : Int) (hx : Hid (¬ ZPr x)) (w : World) : Calls Tryz.prog 25 #[.int .i64 x] w fun e w' => e = .returned (.tuple #[.int .i64 0, .int .i64 40]) ∧ w = w' := by
 go_enter Tryz.func25, Tryz.ntmps25
 go_wp2_with fail
 refine (valid_no x hx _).mono ?_
 rintro e w1 ⟨rfl, rfl⟩
 go_wp2_with fail
 go_ret2
 exact ⟨rfl, rfl⟩
theorem scalar_yes (x : Int) (hx : Hid (ZSc x)) (w : World) : Calls Tryz.prog 143 #[.int .i64 x] w fun e w' => e = .returned (.int .i64 0) ∧ Below w.heap.size w w' := by
 obtain ⟨n, rfl⟩ : ∃ n : Nat, x = (n : Int) := ⟨x.toNat, by have := hx.out.1; omega⟩
 have hn : Hid (n < cQ) := Int.ofNat_lt.1 hx.out.2
 have hn0 : Hid ((n + 0) % cQ = n) := Nat.mod_eq_of_lt hn.out
 go_enter Tryz.func143, Tryz.ntmps143
 go_wp2_with fail
 refine (sum_any n 0 n hn (Lib.hid (by decide)) hn0 _).mono ?_
 rintro e w1 ⟨rfl, hb⟩
 go_wp2_with fail
 go_ret
 exact ⟨rfl, hb⟩
theorem scalar_no (x : Int) (hx : Hid (¬ ZSc x)) (w : World) : Calls Tryz.prog 143 #[.int .i64 x] w fun e w' => e = .returned (.int .i64 1) ∧ Below w.heap.size w w' := by
 go_enter Tryz.func143, Tryz.ntmps143
 go_wp2_with fail
 refine (gsum_any x 0 _).mono ?_
 rintro e w1 ⟨⟨r, k, rfl, hc⟩, hb⟩
 obtain ⟨rfl, rfl⟩ : r = 0 ∧ k = 1 := by
  rcases hc with ⟨h1, _⟩ | ⟨_, h1, h2⟩
  · exact absurd h1 hx.out
  · exact ⟨h1, h2⟩
 clear hc
 go_wp2_with fail
 go_ret
 exact ⟨rfl, hb⟩
end Go.Proofs.YtdblnbnofjggnaaGreatDoor
