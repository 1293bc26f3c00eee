/- Parts of the proofs of chapter 49's laws: Jdh Jso Jsp Jl0. -/
import Derived.Test.YtdblnbnofjggnaaGreatDoorK49
import Derived.Test.YtdblnbnofjggnaaGreatDoorK42
import Derived.Test.YtdblnbnofjggnaaGreatDoorK30
import Derived.Test.YtdblnbnofjggnaaGreatDoorK33
import Derived.Test.YtdblnbnofjggnaaGreatDoorK32
import Derived.Test.YtdblnbnofjggnaaGreatDoorK18
import Derived.Deep.QuietTactic
import Derived.BigQuiet
import Derived.Test.YtdblnbnofjggnaaGreatDoorK13
import Derived.Test.YtdblnbnofjggnaaGreatDoorK36
namespace Go.Proofs.YtdblnbnofjggnaaGreatDoor
open Go.RowKit
theorem decode49_big (l : List UInt8) (hl : l.length ≤ 1000000) (hz : ∀ x, decF l = some x → sz x ≤ 60000) (v : Value) (w : World) (hb : BtsAt w.heap.size w l v) : Calls Tryz.prog 21 #[v] w (DecA (decO decI l) w) := by
 cases hd : decF l with
 | none =>
  have h : decO decI l = (zP, 10) := by unfold decO; rw [hd]
  rw [h]
  exact decode49_none l hl v w hb hd
 | some x => exact decode49_some l hl v w x (hz x hd) hb hd
theorem decode49_any (l : List UInt8) (hl : l.length ≤ 4000) (v : Value) (w : World) (hb : BtsAt w.heap.size w l v) : Calls Tryz.prog 21 #[v] w (DecA (decO decI l) w) :=
 decode49_big l (by omega) (fun x h => by have := (decF_sound h (by unfold maxLen; omega)).2.2.2; omega) v w hb
theorem decode49_enc (x : Inp) (hI : InpI x) (hL : InpL x) (hz : sz (lV (fullL x)) ≤ 60000) (hk : okI x = true) (v : Value) (w : World) (hb : BtsAt w.heap.size w (encI x) v) : Calls Tryz.prog 21 #[v] w fun e w' => ∃ sl, e = .returned (.tuple #[.agg (x.cells sl).toArray, .int .i64 0]) ∧ InpR w' x sl ∧ Below w.heap.size w w' := by
 have h := decode49_big (encI x) (by have := enc_sz (lV (fullL x)); unfold encI; omega) (fun y h => by
  unfold encI at h
  rw [decF_enc (full_ck x) (ok_full hI hL)] at h
  injection h with h
  rw [← h]; exact hz) v w hb
 rw [decO_enc hI hL hk] at h
 exact h
end Go.Proofs.YtdblnbnofjggnaaGreatDoor
namespace Go.Proofs.YtdblnbnofjggnaaGreatDoor
open Go.RowKit
def sigI (x : Inp) (r s : Int) : Inp := { x with sr := r, ss := s }
theorem useI_sig (x : Inp) (r s : Int) : useI (sigI x r s) = sigI (useI x) r s := by
 obtain ⟨a1, a2, a3, k, a5, a6, a7, a8, a9, b1, b2, b3, b4, b5⟩ := x
 unfold useI sigI baseI
 dsimp only
 repeat' split
 all_goals rfl
theorem useI_sr (x : Inp) : (useI x).sr = x.sr ∧ (useI x).ss = x.ss := by
 obtain ⟨a1, a2, a3, k, a5, a6, a7, a8, a9, b1, b2, b3, b4, b5⟩ := x
 unfold useI baseI
 dsimp only
 repeat' split
 all_goals exact ⟨rfl, rfl⟩
theorem okI_sig (x : Inp) (r s : Int) : okI (sigI x r s) = okI x := by
 have h : decide (useI (sigI x r s) = sigI x r s) = decide (useI x = x) := by
  rw [useI_sig]
  refine decide_eq_decide.2 ⟨fun h => ?_, fun h => by rw [h]⟩
  have h2 := congrArg (fun y => sigI y x.sr x.ss) h
  have h3 : sigI (sigI (useI x) r s) x.sr x.ss = useI x := by
   have := useI_sr x
   show sigI (useI x) x.sr x.ss = useI x
   rw [← this.1, ← this.2]; rfl
  rw [← h3]; exact h2
 show (stampB (sigI x r s) && inB (sigI x r s).kind 1 10 && decide (useI (sigI x r s) = sigI x r s) && valI (sigI x r s)) = _
 rw [h]; rfl
theorem verS_ok {x k c p R S m : Nat} {l : List UInt8} (hR : pw 4 k = R) (hp : pw 4 x = p) (hc : chalK R p l = c) (hm : c * x % cQ = m) (hS : (k + m) % cQ = S) :
 VerCase (p : Int) (R : Int) (S : Int) 0 0 0 l true := by
 refine .inr ⟨rfl, rfl, rfl, p, R, S, pw 4 S, pw p c, c, R * pw p c % cP, rfl, rfl, rfl, hp ▸ pw_el el_four x, hR ▸ pw_el el_four k, by rw [← hS]; exact Nat.mod_lt _ (by decide), hc, rfl, rfl, rfl, ?_⟩
 have h := sig_eq k c x
 have hs : sigS k c x = S := by unfold sigS; rw [hm, hS]
 rw [hs, hp, hR] at h
 rw [h]; simp
theorem elE_nat {n : Nat} (h : isEl n) : ElE (n : Int) 0 := .inl ⟨zel_nat h, rfl⟩
theorem scE_nat {n : Nat} (h : n < cQ) : ScE (n : Int) 0 := .inl ⟨zsc_nat h, rfl⟩
theorem el_z_bad : ElE 0 30 := .inr ⟨fun h => absurd h.1 (by decide), rfl⟩
theorem sc_z : ScE 0 0 := .inl ⟨⟨by decide, by decide⟩, rfl⟩
theorem sign_good {k : Int} {l : List UInt8} {R S e : Int} (hk : ZPr k) (h : SigE k l R S e) : e = 0 ∧ (∃ r : Nat, R = (r : Int) ∧ isEl r) ∧ (∃ s : Nat, S = (s : Int) ∧ s < cQ) ∧ ∀ P, PubE k P 0 → ElE P 0 ∧ ElE R 0 ∧ ScE S 0 ∧ VerCase P R S 0 0 0 l true := by
 rcases h with ⟨n, kk, r, c, p, m, s, rfl, h1, h2, h3, h4, h5, h6, h7, rfl, rfl, rfl⟩ | ⟨h1, _⟩
 · have hr : isEl r := h3 ▸ pw_el el_four kk
   have hs : s < cQ := by rw [← h7]; exact Nat.mod_lt _ (by decide)
   refine ⟨rfl, ⟨r, rfl, hr⟩, ⟨s, rfl, hs⟩, fun P hP => ?_⟩
   rcases hP with ⟨n', p', e1, _, h8, rfl, _⟩ | ⟨h8, _⟩
   · have e1 : n = n' := by exact_mod_cast e1
     subst e1
     rw [h4] at h8
     subst h8
     exact ⟨elE_nat (h4 ▸ pw_el el_four n), elE_nat hr, scE_nat hs, verS_ok h3 h4 h5 h6 h7⟩
   · exact absurd h1 h8
 · exact absurd hk h1
theorem sign_bad49 {k : Int} {l : List UInt8} {R S e : Int} (hk : ¬ ZPr k) (h : SigE k l R S e) : R = 0 ∧ S = 0 ∧ e = 40 := by
 rcases h with ⟨n, kk, r, c, p, m, s, rfl, h1, _⟩ | ⟨_, h2, h3, h4⟩
 · exact absurd h1 hk
 · exact ⟨h2, h3, h4⟩
theorem pub_good {k P e : Int} (hk : ZPr k) (h : PubE k P e) : e = 0 := by
 rcases h with ⟨_, _, _, _, _, _, h⟩ | ⟨h, _⟩
 · exact h
 · exact absurd hk h
theorem pub_bad49 {k P e : Int} (hk : ¬ ZPr k) (h : PubE k P e) : P = 0 ∧ e = 40 := by
 rcases h with ⟨n, p, rfl, h1, _⟩ | ⟨_, h2, h3⟩
 · exact absurd h1 hk
 · exact ⟨h2, h3⟩
theorem nil_rd (x : Inp) (h1 : x.flt.ways = []) (h2 : x.tree = []) (h3 : x.chg.modes = []) (h4 : x.stn.vols = []) (w : World) : InpR w x nilS := by
 refine ⟨?_, ?_, ?_, ?_⟩
 · rw [h1]; exact LsAt.nil _ _ _ _
 · rw [h2]; exact TreeAt.nil _ _ _
 · rw [h3]; exact LsAt.nil _ _ _ _
 · rw [h4]; exact LsAt.nil _ _ _ _
theorem inpR_one {x : Inp} {s : Slc} {w : World} (hr : InpR w x s) : ∀ u ∈ x.cells s, u.oneCell' = true := by
 obtain ⟨a, ca, ha, -⟩ := hr.ways.shape
 obtain ⟨b, cb, hb, -⟩ := hr.tree.shape
 obtain ⟨c, cc, hc, -⟩ := hr.modes.shape
 obtain ⟨d, cd, hd, -⟩ := hr.vols.shape
 have := inp_one x s a b c d _ _ _ _ ca cb cc cd ha hb hc hd
 exact fun u hu => Array.all_eq_true_iff_forall_mem.1 this u (by simpa using hu)
def n0 : Inp := ⟨3, 1, 2, 5, ByteArray.empty, fltZ, [], ⟨0, 0, []⟩, rpZ, ⟨0, 0, false⟩, 31, ⟨[], 0, 0⟩, 0, 0⟩
def nf : Inp := ⟨3, 1, 2, 5, ByteArray.empty, fltZ, [], ⟨0, 0, []⟩, rpZ, ⟨0, 0, false⟩, 32, ⟨[], 0, 0⟩, 0, 0⟩
def nt : Inp := ⟨3, 1, 2, 10, ByteArray.empty, fltZ, [], ⟨0, 0, []⟩, rpZ, ⟨0, 0, false⟩, 1, ⟨[], 0, 0⟩, 0, 0⟩
theorem ok_n0 : okI n0 = true := by decide +kernel
theorem ok_nf : okI nf = false := by decide +kernel
theorem ok_nt : okI nt = false := by decide +kernel
theorem ok_zP : okI zP = false := by decide +kernel
theorem n0_I0 : InpI n0 := by
 have h : ∀ z : Int, -100 ≤ z → z ≤ 100 → I64 z := fun z h1 h2 => by unfold I64; omega
 have hs : (ByteArray.empty).size ≤ maxLen := by unfold maxLen; decide
 refine ⟨h _ (by decide) (by decide), h _ (by decide) (by decide), h _ (by decide) (by decide), h _ (by decide) (by decide), hs, ⟨h _ (by decide) (by decide), h _ (by decide) (by decide), h _ (by decide) (by decide), h _ (by decide) (by decide), h _ (by decide) (by decide), fun x hx => absurd hx List.not_mem_nil, hs⟩, fun x hx => absurd hx List.not_mem_nil, h _ (by decide) (by decide), h _ (by decide) (by decide), fun x hx => absurd hx List.not_mem_nil, h _ (by decide) (by decide), h _ (by decide) (by decide), h _ (by decide) (by decide), h _ (by decide) (by decide), hs, h _ (by decide) (by decide), h _ (by decide) (by decide), h _ (by decide) (by decide), h _ (by decide) (by decide), fun x hx => absurd hx List.not_mem_nil, h _ (by decide) (by decide), h _ (by decide) (by decide), h _ (by decide) (by decide), h _ (by decide) (by decide)⟩
theorem small_I (x : Inp) (h : x.mi = 3 ∨ x.mi = 0) (h2 : x.ce = 1 ∨ x.ce = 0) (h3 : x.no = 2 ∨ x.no = 0) (h4 : 0 ≤ x.kind ∧ x.kind ≤ 10) (h5 : 0 ≤ x.n ∧ x.n ≤ 100) (h6 : x = { n0 with mi := x.mi, ce := x.ce, no := x.no, kind := x.kind, n := x.n }) : InpI x := by
 rw [h6]
 have hh := n0_I0
 have i3 : I64 3 := by unfold I64; omega
 have i0 : I64 0 := by unfold I64; omega
 have i1 : I64 1 := by unfold I64; omega
 have i2 : I64 2 := by unfold I64; omega
 refine ⟨?_, ?_, ?_, by unfold I64; dsimp only; omega, hh.text, hh.flt, hh.tree, hh.cfrm, hh.cfg, hh.modes, hh.rst, hh.rno, hh.rmi, hh.rar, hh.rcl, hh.rvo, hh.sst, hh.sfr, by unfold I64; dsimp only; omega, hh.vols, hh.sh, hh.fa, hh.sr, hh.ss⟩
 · rcases h with h | h <;> (dsimp only; rw [h]; assumption)
 · rcases h2 with h | h <;> (dsimp only; rw [h]; assumption)
 · rcases h3 with h | h <;> (dsimp only; rw [h]; assumption)
theorem nf_I : InpI nf := small_I nf (.inl rfl) (.inl rfl) (.inl rfl) (by decide) (by decide) rfl
theorem nt_I : InpI nt := small_I nt (.inl rfl) (.inl rfl) (.inl rfl) (by decide) (by decide) rfl
theorem zP_I : InpI zP := small_I zP (.inr rfl) (.inr rfl) (.inr rfl) (by decide) (by decide) rfl
theorem InpI.sig {x : Inp} (h : InpI x) {R S : Int} (hR : I64 R) (hS : I64 S) : InpI (sigI x R S) := ⟨h.mi, h.ce, h.no, h.kind, h.text, h.flt, h.tree, h.cfrm, h.cfg, h.modes, h.rst, h.rno, h.rmi, h.rar, h.rcl, h.rvo, h.sst, h.sfr, h.n, h.vols, h.sh, h.fa, hR, hS⟩
theorem n0_I (R S : Int) (hR : I64 R) (hS : I64 S) : InpI (sigI n0 R S) := n0_I0.sig hR hS
theorem n0_few0 : FewI n0 := ⟨by decide, by decide, by decide, by decide, by decide, by decide, by decide, fun n hn => absurd hn List.not_mem_nil⟩
theorem FewI.sig {x : Inp} (h : FewI x) (R S : Int) : FewI (sigI x R S) := ⟨h.h0, h.h1, h.h2, h.h3, h.h4, h.h5, h.h6, h.cu⟩
theorem n0_few (R S : Int) : FewI (sigI n0 R S) := n0_few0.sig R S
theorem n0_L (R S : Int) : InpL (sigI n0 R S) := InpL.of (n0_few R S).sz
theorem dec_30 : decO decI [3, 0] = (zP, 490) := by
 have h : enc (lV []) = [3, 0] := by decide +kernel
 have hd : decF [3, 0] = some (lV []) := by rw [← h]; exact decF_enc (by decide +kernel) (ok_lV trivial (by unfold maxLen; simp))
 exact decO_none hd rfl
theorem dec_nil : decO decI [] = (zP, 10) := by
 have : decF [] = none := rfl
 unfold decO; rw [this]
theorem cmp_n0 : cmpS 1 0 9 3 1 2 = -1 := by decide
theorem pr_5 : ZPr 5 := ⟨by decide, by decide⟩
theorem pr_0 : ¬ ZPr 0 := fun h => absurd h.1 (by decide)
end Go.Proofs.YtdblnbnofjggnaaGreatDoor
namespace Go.Proofs.YtdblnbnofjggnaaGreatDoor
open Go.RowKit
section
variable {x : Inp} {s : Slc} {W : World}
theorem chk_ok (hx : InpR W x s) (hi : InpI x) (hk : okI x = true) : Calls Tryz.prog 13 #[.agg (x.cells s).toArray] W fun e W' => e = .returned (.int .i64 0) ∧ Below W.heap.size W W' :=
 (check_any49 x s W hx hi.text hi.flt.call hi.rcl).mono fun e W' h => by unfold ChkP at h; rw [hk] at h; exact h
theorem chk_no (hx : InpR W x s) (hi : InpI x) (hk : okI x = false) : Calls Tryz.prog 13 #[.agg (x.cells s).toArray] W fun e W' => e = .returned (.int .i64 490) ∧ Below W.heap.size W W' :=
 (check_any49 x s W hx hi.text hi.flt.call hi.rcl).mono fun e W' h => by unfold ChkP at h; rw [hk] at h; exact h
theorem enc_yes (hx : InpR W x s) (hi : InpI x) (hz : sz (lV (fullL x)) ≤ 60000) (hk : okI x = true) : Calls Tryz.prog 14 #[.agg (x.cells s).toArray] W fun e W' => ∃ ou cu, e = .returned (.tuple #[.slice ou (encI x).length cu, .int .i64 0]) ∧ BtsAt W'.heap.size W' (encI x) (.slice ou (encI x).length cu) ∧ Below W.heap.size W W' :=
 (encode49_any x s W hx hi (InpL.of hz) hz).mono fun e W' h => by
  obtain ⟨u, h1, h2, h3⟩ := h
  rw [hk] at h1 h2
  simp only [if_true] at h1 h2
  obtain ⟨ou, cu, rfl⟩ := h2.shape
  exact ⟨ou, cu, h1, h2, h3⟩
theorem enc_no (hx : InpR W x s) (hi : InpI x) (hz : sz (lV (fullL x)) ≤ 60000) (hk : okI x = false) : Calls Tryz.prog 14 #[.agg (x.cells s).toArray] W fun e W' => ∃ ou cu, e = .returned (.tuple #[.slice ou 0 cu, .int .i64 490]) ∧ BtsAt W'.heap.size W' [] (.slice ou 0 cu) ∧ Below W.heap.size W W' :=
 (encode49_any x s W hx hi (InpL.of hz) hz).mono fun e W' h => by
  obtain ⟨u, h1, h2, h3⟩ := h
  rw [hk] at h1 h2
  simp only [Bool.false_eq_true, if_false] at h1 h2
  obtain ⟨ou, cu, rfl⟩ := h2.shape
  exact ⟨ou, cu, h1, h2, h3⟩
theorem sgn_yes {k R S : Int} (hx : InpR W x s) (hi : InpI x) (hz : sz (lV (fullL x)) ≤ 60000) (hL : Laid W) (hk : okI x = true) (hs : SigE k (msgI x) R S 0) : Calls Tryz.prog 23 #[.agg (x.cells s).toArray, .int .i64 k] W fun e W' => ∃ sl, e = .returned (.tuple #[.agg ((sigI x R S).cells sl).toArray, .int .i64 0]) ∧ InpR W' (sigI x R S) sl ∧ Below W.heap.size W W' :=
 (sign49_any k R S 0 x s W hx hi (InpL.of hz) hz hL (Lib.hid hs)).mono fun e W' h => by
  obtain ⟨sl, h1, h2, h3⟩ := h
  unfold sgnI sgnE at h1
  unfold sgnI at h2
  rw [hk] at h1 h2
  exact ⟨sl, h1, h2, h3⟩
theorem sgn_no {k R S e : Int} (hx : InpR W x s) (hi : InpI x) (hz : sz (lV (fullL x)) ≤ 60000) (hL : Laid W) (hk : okI x = true) (hs : SigE k (msgI x) R S e) (he : e ≠ 0) : Calls Tryz.prog 23 #[.agg (x.cells s).toArray, .int .i64 k] W fun q W' => ∃ sl, q = .returned (.tuple #[.agg (zP.cells sl).toArray, .int .i64 e]) ∧ InpR W' zP sl ∧ Below W.heap.size W W' :=
 (sign49_any k R S e x s W hx hi (InpL.of hz) hz hL (Lib.hid hs)).mono fun q W' h => by
  obtain ⟨sl, h1, h2, h3⟩ := h
  unfold sgnI sgnE at h1
  unfold sgnI at h2
  rw [hk] at h1 h2
  simp only [if_true, if_neg he] at h1 h2
  exact ⟨sl, h1, h2, h3⟩
theorem ver_yes {p e1 e2 e3 : Int} {t : Bool} (hx : InpR W x s) (hi : InpI x) (hz : sz (lV (fullL x)) ≤ 60000) (hL : Laid W) (hk : okI x = true) (h1 : ElE p e1) (h2 : ElE x.sr e2) (h3 : ScE x.ss e3) (hv : VerCase p x.sr x.ss e1 e2 e3 (msgI x) t) : Calls Tryz.prog 26 #[.int .i64 p, .agg (x.cells s).toArray] W fun e W' => e = .returned (.int .i64 (if t then 0 else 491)) ∧ Below W.heap.size W W' :=
 (verify49_any p e1 e2 e3 t x s W hx hi (InpL.of hz) hz hL (Lib.hid h1) (Lib.hid h2) (Lib.hid h3) (Lib.hid hv)).mono fun e W' h => by unfold VerP verI at h; rw [hk] at h; exact h
theorem ver_tt {p e1 e2 e3 : Int} (hx : InpR W x s) (hi : InpI x) (hz : sz (lV (fullL x)) ≤ 60000) (hL : Laid W) (hk : okI x = true) (h1 : ElE p e1) (h2 : ElE x.sr e2) (h3 : ScE x.ss e3) (hv : VerCase p x.sr x.ss e1 e2 e3 (msgI x) true) : Calls Tryz.prog 26 #[.int .i64 p, .agg (x.cells s).toArray] W fun e W' => e = .returned (.int .i64 0) ∧ Below W.heap.size W W' := ver_yes hx hi hz hL hk h1 h2 h3 hv
theorem ver_ff {p e1 e2 e3 : Int} (hx : InpR W x s) (hi : InpI x) (hz : sz (lV (fullL x)) ≤ 60000) (hL : Laid W) (hk : okI x = true) (h1 : ElE p e1) (h2 : ElE x.sr e2) (h3 : ScE x.ss e3) (hv : VerCase p x.sr x.ss e1 e2 e3 (msgI x) false) : Calls Tryz.prog 26 #[.int .i64 p, .agg (x.cells s).toArray] W fun e W' => e = .returned (.int .i64 491) ∧ Below W.heap.size W W' := ver_yes hx hi hz hL hk h1 h2 h3 hv
theorem sam_eq {y : Inp} {t : Slc} (hx : InpR W x s) (hy : InpR W y t) (b : Bool) (hb : decide (x = y) = b) : Calls Tryz.prog 15 #[.agg (x.cells s).toArray, .agg (y.cells t).toArray] W fun e W' => e = .returned (.bool b) ∧ Below W.heap.size W W' :=
 (same_any x y s t W hx hy).mono fun e W' h => by rw [hb] at h; exact h
theorem rsam_eq {y : Inp} {t : Slc} (hx : InpR W x s) (hy : InpR W y t) (b : Bool) (hb : decide (x = y) = b) : Calls Tryz.prog 18 #[.agg (x.cells s).toArray, .agg (y.cells t).toArray] W fun e W' => e = .returned (.bool b) ∧ Below W.heap.size W W' :=
 (rsame_any x y s t W hx hy).mono fun e W' h => by rw [hb] at h; exact h
end
theorem lit30 (w : World) : BtsAt (w.alloc (.cells #[.int .u8 3, .int .u8 0] 5)).heap.size (w.alloc (.cells #[.int .u8 3, .int .u8 0] 5)) [3, 0] (.slice (some ⟨w.heap.size, 0, none⟩) 2 2) :=
 BtsAt.mk' rfl (Nat.le_refl _) (by decide) (by simp) fun j c hj => by
  rw [Nat.zero_add, (CB.new w 5 [.int .u8 3, .int .u8 0]).cell j]
  match j, hj with
  | 0, hj => simp at hj; subst hj; rfl
  | 1, hj => simp at hj; subst hj; rfl
theorem btsN (w : World) : BtsAt w.heap.size w [] (.slice none 0 0) := .inl ⟨rfl, none, 0, rfl, Nat.zero_le _⟩
theorem dec_no {l : List UInt8} {n : Int} (hl : l.length ≤ 4000) (hd : decO decI l = (zP, n)) (v : Value) (W : World) (hb : BtsAt W.heap.size W l v) : Calls Tryz.prog 21 #[v] W fun e W' => ∃ sl, e = .returned (.tuple #[.agg (zP.cells sl).toArray, .int .i64 n]) ∧ InpR W' zP sl ∧ Below W.heap.size W W' :=
 (decode49_any l hl v W hb).mono fun e W' h => by rw [hd] at h; exact h
set_option maxRecDepth 100000 in
set_option maxHeartbeats 16000000 in
theorem sane49_any (w : World) (hL : Laid w) : Calls Tryz.prog 11 #[] w fun e w' => e = .returned (.bool true) ∧ Below w.heap.size w w' := by
 have HL := Lib.hid hL
 clear hL
 obtain ⟨R', S', e5, hs5⟩ := sigE_ex 5 (msgI n0)
 obtain ⟨rfl, ⟨r, rfl, hr⟩, ⟨s, rfl, hs⟩, hv⟩ := sign_good pr_5 hs5
 obtain ⟨P, eP, hp⟩ := pubE_ex 5
 obtain rfl := pub_good pr_5 hp
 have hv := hv P hp
 obtain ⟨R0, S0, e0, hs0⟩ := sigE_ex 0 (msgI n0)
 obtain ⟨rfl, rfl, rfl⟩ := sign_bad49 pr_0 hs0
 have Hp := Lib.hid hp; have Hs5 := Lib.hid hs5; have Hs0 := Lib.hid hs0; have HV := Lib.hid hv
 have hrl : 0 < r ∧ r < cP := ⟨hr.1, hr.2.1⟩
 have HXI : Hid (InpI (sigI n0 (r : Int) (s : Int))) := Lib.hid (n0_I _ _ (by unfold I64; have := hrl.2; unfold cP at this; omega) (by unfold I64; unfold cQ at hs; omega))
 have HXz : Hid (sz (lV (fullL (sigI n0 (r : Int) (s : Int)))) ≤ 60000) := Lib.hid (n0_few _ _).sz
 have HXL : Hid (InpL (sigI n0 (r : Int) (s : Int))) := Lib.hid (n0_L _ _)
 have HXk : Hid (okI (sigI n0 (r : Int) (s : Int)) = true) := Lib.hid (by rw [okI_sig]; exact ok_n0)
 have HXs : Hid (SigE 5 (msgI (sigI n0 (r : Int) (s : Int))) (r : Int) (s : Int) 0) := Lib.hid hs5
 have HXn : Hid (decide (sigI n0 (r : Int) (s : Int) = n0) = false) := Lib.hid (decide_eq_false (fun h => by have h1 := congrArg Inp.sr h; have h1 : (r : Int) = 0 := h1; have := hrl.1; omega))
 have HB := Lib.hid (Below.refl w.heap.size w)
 clear hp hs5 hs0 hv hr hs hrl
 go_enter Tryz.func11, Tryz.ntmps11
 have T0 := Lib.hid (Nat.le_refl 0)
 have HZ : Hid (CB (w.alloc ZI) w.heap.size 41 ZIc) := Lib.hid (cb_one w ZI _ _ rfl)
 go_upto_region 2 with (first
  | (have _g := T0.out; refine wpList_built (by rfl) 41 #[(0, .tmp 21), (1, .const (.int .i64 5)), (8, .const (.int .i64 31))] rfl (n0.cells nilS) [(0, .agg #[.int .i64 3, .int .i64 1, .int .i64 2]), (1, .int .i64 5), (8, .int .i64 31)] rfl (by kernel_rfl) ?_; clear T0; have T1 := Lib.hid (Nat.le_refl 1))
  | (have _g := T1.out; have _h := HZ.out; refine wpList_store_cs rfl 41 (.tmp 1) (.tmp 22) rfl w.heap.size (n0.cells nilS) rfl rfl 41 ZIc HZ.out rfl (by kernel_rfl) (inpR_one (nil_rd n0 rfl rfl rfl rfl w)) (fun w1 HC HG HS_ => ?_); have hbs : Below w.heap.size w w1 := (b_al (w := w) ZI).grown HG.out (b_al (w := w) ZI).size (fun q e => by injection e with e; omega); replace HB := Lib.hid (below_ext HB.out hbs); have B1 := HC; clear hbs HC HG HS_ HZ _h; clear T1; have T2 := Lib.hid (Nat.le_refl 2)))
 have HZ : Hid (CB (w1.alloc ZI) w1.heap.size 41 ZIc) := Lib.hid (cb_one w1 ZI _ _ rfl)
 have Hw1 := Lib.hid B1.out.lt
 go_upto_region 3 with (first
  | (have _g := T2.out; refine wpList_load_cs (by rfl) 41 (.tmp 1) rfl w.heap.size (n0.cells nilS) rfl 41 _ B1.out Tryz.underlying41 rfl (by kernel_rfl) ?_; clear T2; have T3 := Lib.hid (Nat.le_refl 3))
  | (have _g := T3.out; have _h := HZ.out; refine wpList_store_cs rfl 41 (.tmp 2) (.tmp 23) rfl w1.heap.size (n0.cells nilS) rfl rfl 41 ZIc HZ.out rfl (by kernel_rfl) (inpR_one (nil_rd n0 rfl rfl rfl rfl w)) (fun w2 HC HG HS_ => ?_); have hbs : Below w1.heap.size w1 w2 := (b_al (w := w1) ZI).grown HG.out (b_al (w := w1) ZI).size (fun q e => by injection e with e; omega); replace B1 := Lib.hid (B1.out.ext hbs); replace HB := Lib.hid (below_ext HB.out hbs); have B2 := HC; clear hbs HC HG HS_ HZ _h; clear T3; have T4 := Lib.hid (Nat.le_refl 4)))
 have x26 : w2.cell? ⟨w1.heap.size, 26, none⟩ = some (.int .i64 31) := B2.out.cell 26; have f26 : w2.frozen? ⟨w1.heap.size, 26, none⟩ = false := B2.out.frozen 26
 have hne1 : Hid (w.heap.size ≠ w1.heap.size) := Lib.hid (by have := Hw1.out; omega)
 go_upto_region 4 with fail
 change Code.wp _ _ _ _ (w2.setCell ⟨w1.heap.size, 26, none⟩ (.int .i64 32))
 have hB2 : CB (w2.setCell ⟨w1.heap.size, 26, none⟩ (.int .i64 32)) w1.heap.size 41 (nf.cells nilS) := B2.out.set 26 (.int .i64 32)
 have hB1 := B1.out.far (p := ⟨w1.heap.size, 26, none⟩) hne1.out (.int .i64 32)
 have hB := HB.out.setCell (p := ⟨w1.heap.size, 26, none⟩) (by show w.heap.size ≤ w1.heap.size; have := Hw1.out; omega) (.int .i64 32)
 clear B2 B1 HB x26 f26
 have B2 := Lib.hid hB2; have B1 := Lib.hid hB1; have HB := Lib.hid hB
 clear hB2 hB1 hB
 have y0 : (w2.setCell ⟨w1.heap.size, 26, none⟩ (.int .i64 32)).cell? ⟨w.heap.size, 0, none⟩ = some (.int .i64 3) := B1.out.cell 0; have y1 : (w2.setCell ⟨w1.heap.size, 26, none⟩ (.int .i64 32)).cell? ⟨w.heap.size, 1, none⟩ = some (.int .i64 1) := B1.out.cell 1; have y2 : (w2.setCell ⟨w1.heap.size, 26, none⟩ (.int .i64 32)).cell? ⟨w.heap.size, 2, none⟩ = some (.int .i64 2) := B1.out.cell 2
 generalize w2.setCell ⟨w1.heap.size, 26, none⟩ (.int .i64 32) = w3 at *
 have HZ : Hid (CB (w3.alloc ZI) w3.heap.size 41 ZIc) := Lib.hid (cb_one w3 ZI _ _ rfl)
 go_upto_region 5 with (first
  | (have _g := T4.out; refine wpList_built (by rfl) 41 #[(0, .tmp 26), (1, .const (.int .i64 10)), (8, .const (.int .i64 1))] rfl (nt.cells nilS) [(0, .agg #[.int .i64 3, .int .i64 1, .int .i64 2]), (1, .int .i64 10), (8, .int .i64 1)] rfl (by kernel_rfl) ?_; clear T4; have T5 := Lib.hid (Nat.le_refl 5))
  | (have _g := T5.out; have _h := HZ.out; refine wpList_store_cs rfl 41 (.tmp 3) (.tmp 27) rfl w3.heap.size (nt.cells nilS) rfl rfl 41 ZIc HZ.out rfl (by kernel_rfl) (inpR_one (nil_rd nt rfl rfl rfl rfl w)) (fun w4 HC HG HS_ => ?_); have hbs : Below w3.heap.size w3 w4 := (b_al (w := w3) ZI).grown HG.out (b_al (w := w3) ZI).size (fun q e => by injection e with e; omega); replace B1 := Lib.hid (B1.out.ext hbs); replace B2 := Lib.hid (B2.out.ext hbs); replace HB := Lib.hid (below_ext HB.out hbs); have B3 := HC; clear hbs HC HG HS_ HZ _h; clear T5; have T6 := Lib.hid (Nat.le_refl 6)))
 clear y0 y1 y2
 go_upto_region 7 with (first
  | (have _g := T6.out; go_at_call 25; refine (public_val 5 P 0 Hp _).mono ?_; go_loud (rintro e w5 ⟨rfl, hb⟩; replace B1 := Lib.hid (B1.out.ext hb); replace B2 := Lib.hid (B2.out.ext hb); replace B3 := Lib.hid (B3.out.ext hb); replace HB := Lib.hid (below_ext HB.out hb); clear hb; clear T6; have T7 := Lib.hid (Nat.le_refl 7)))
  | (have _g := T7.out; refine wpList_load_cs (by rfl) 41 (.tmp 1) rfl w.heap.size (n0.cells nilS) rfl 41 _ B1.out Tryz.underlying41 rfl (by kernel_rfl) ?_; clear T7; have T8 := Lib.hid (Nat.le_refl 8))
  | (have _g := T8.out; go_at_call 23; refine (sgn_yes (nil_rd n0 rfl rfl rfl rfl _) n0_I0 n0_few0.sz (HL.out.ext HB.out) ok_n0 Hs5.out).mono ?_; go_loud (rintro e w6 ⟨sl6, rfl, hI6, hb⟩; replace B1 := Lib.hid (B1.out.ext hb); replace B2 := Lib.hid (B2.out.ext hb); replace B3 := Lib.hid (B3.out.ext hb); replace HB := Lib.hid (below_ext HB.out hb); have R6 := Lib.hid hI6; clear hI6; have HZ : Hid (CB (w6.alloc ZI) w6.heap.size 41 ZIc) := Lib.hid (cb_one w6 ZI _ _ rfl); clear hb; clear T8; have T9 := Lib.hid (Nat.le_refl 9)))
  | (have _g := T9.out; have _h := HZ.out; refine wpList_store_cs rfl 41 (.tmp 6) (.tmp 35) rfl w6.heap.size ((sigI n0 (r : Int) (s : Int)).cells sl6) rfl rfl 41 ZIc HZ.out rfl (by kernel_rfl) (inpR_one R6.out) (fun w7 HC HG HS_ => ?_); have hbs : Below w6.heap.size w6 w7 := (b_al (w := w6) ZI).grown HG.out (b_al (w := w6) ZI).size (fun q e => by injection e with e; omega); replace B1 := Lib.hid (B1.out.ext hbs); replace B2 := Lib.hid (B2.out.ext hbs); replace B3 := Lib.hid (B3.out.ext hbs); replace R6 := Lib.hid (R6.out.ext hbs); replace HB := Lib.hid (below_ext HB.out hbs); have B6 := HC; clear hbs HC HG HS_ HZ _h; clear T9; have T10 := Lib.hid (Nat.le_refl 10)))
 go_upto_region 9 with (first
  | (have _g := T10.out; refine wpList_load_cs (by rfl) 41 (.tmp 6) rfl w6.heap.size ((sigI n0 (r : Int) (s : Int)).cells sl6) rfl 41 _ B6.out Tryz.underlying41 rfl (by kernel_rfl) ?_; clear T10; have T11 := Lib.hid (Nat.le_refl 11))
  | (have _g := T11.out; go_at_call 14; refine (enc_yes R6.out HXI.out HXz.out HXk.out).mono ?_; go_loud (rintro e w8 ⟨ou, cu, rfl, hu, hb⟩; replace B1 := Lib.hid (B1.out.ext hb); replace B2 := Lib.hid (B2.out.ext hb); replace B3 := Lib.hid (B3.out.ext hb); replace R6 := Lib.hid (R6.out.ext hb); replace B6 := Lib.hid (B6.out.ext hb); replace HB := Lib.hid (below_ext HB.out hb); have U8 := Lib.hid hu; clear hu; clear hb; clear T11; have T12 := Lib.hid (Nat.le_refl 12)))
  | (have _g := T12.out; go_at_call 21; refine (decode49_enc _ HXI.out HXL.out HXz.out HXk.out _ _ U8.out).mono ?_; go_loud (rintro e w9 ⟨sl9, rfl, hI, hb⟩; replace B1 := Lib.hid (B1.out.ext hb); replace B2 := Lib.hid (B2.out.ext hb); replace B3 := Lib.hid (B3.out.ext hb); replace R6 := Lib.hid (R6.out.ext hb); replace B6 := Lib.hid (B6.out.ext hb); replace U8 := Lib.hid (U8.out.ext hb); replace HB := Lib.hid (below_ext HB.out hb); have R9 := Lib.hid hI; clear hI U8; have HZ : Hid (CB (w9.alloc ZI) w9.heap.size 41 ZIc) := Lib.hid (cb_one w9 ZI _ _ rfl); clear hb; clear T12; have T13 := Lib.hid (Nat.le_refl 13)))
  | (have _g := T13.out; have _h := HZ.out; refine wpList_store_cs rfl 41 (.tmp 10) (.tmp 45) rfl w9.heap.size ((sigI n0 (r : Int) (s : Int)).cells sl9) rfl rfl 41 ZIc HZ.out rfl (by kernel_rfl) (inpR_one R9.out) (fun wa HC HG HS_ => ?_); have hbs : Below w9.heap.size w9 wa := (b_al (w := w9) ZI).grown HG.out (b_al (w := w9) ZI).size (fun q e => by injection e with e; omega); replace B1 := Lib.hid (B1.out.ext hbs); replace B2 := Lib.hid (B2.out.ext hbs); replace B3 := Lib.hid (B3.out.ext hbs); replace R6 := Lib.hid (R6.out.ext hbs); replace B6 := Lib.hid (B6.out.ext hbs); replace R9 := Lib.hid (R9.out.ext hbs); replace HB := Lib.hid (below_ext HB.out hbs); have B10 := HC; clear hbs HC HG HS_ HZ _h; clear T13; have T14 := Lib.hid (Nat.le_refl 14)))
 go_upto_region 10 with (first
  | (have _g := T14.out; go_at_call 21; refine (dec_no (by decide) dec_30 _ _ (lit30 wa)).mono ?_; go_loud (rintro e wb ⟨slb, rfl, hI, hb⟩; replace hb := below_ext (b_al (w := wa) (.cells #[.int .u8 3, .int .u8 0] 5)) hb; replace B1 := Lib.hid (B1.out.ext hb); replace B2 := Lib.hid (B2.out.ext hb); replace B3 := Lib.hid (B3.out.ext hb); replace R6 := Lib.hid (R6.out.ext hb); replace B6 := Lib.hid (B6.out.ext hb); replace R9 := Lib.hid (R9.out.ext hb); replace B10 := Lib.hid (B10.out.ext hb); replace HB := Lib.hid (below_ext HB.out hb); have Rb := Lib.hid hI; clear hI hb; have HZ : Hid (CB (wb.alloc ZI) wb.heap.size 41 ZIc) := Lib.hid (cb_one wb ZI _ _ rfl); clear T14; have T15 := Lib.hid (Nat.le_refl 15)))
  | (have _g := T15.out; have _h := HZ.out; refine wpList_store_cs rfl 41 (.tmp 12) (.tmp 50) rfl wb.heap.size (zP.cells slb) rfl rfl 41 ZIc HZ.out rfl (by kernel_rfl) (inpR_one Rb.out) (fun wc HC HG HS_ => ?_); have hbs : Below wb.heap.size wb wc := (b_al (w := wb) ZI).grown HG.out (b_al (w := wb) ZI).size (fun q e => by injection e with e; omega); replace B1 := Lib.hid (B1.out.ext hbs); replace B2 := Lib.hid (B2.out.ext hbs); replace B3 := Lib.hid (B3.out.ext hbs); replace R6 := Lib.hid (R6.out.ext hbs); replace B6 := Lib.hid (B6.out.ext hbs); replace R9 := Lib.hid (R9.out.ext hbs); replace B10 := Lib.hid (B10.out.ext hbs); replace Rb := Lib.hid (Rb.out.ext hbs); replace HB := Lib.hid (below_ext HB.out hbs); have B12 := HC; clear hbs HC HG HS_ HZ _h; clear T15; have T16 := Lib.hid (Nat.le_refl 16)))
 go_upto_region 11 with (first
  | (have _g := T16.out; go_at_call 21; refine (dec_no (by decide) dec_nil _ _ (btsN _)).mono ?_; go_loud (rintro e wd ⟨sld, rfl, hI, hb⟩; replace B1 := Lib.hid (B1.out.ext hb); replace B2 := Lib.hid (B2.out.ext hb); replace B3 := Lib.hid (B3.out.ext hb); replace R6 := Lib.hid (R6.out.ext hb); replace B6 := Lib.hid (B6.out.ext hb); replace R9 := Lib.hid (R9.out.ext hb); replace B10 := Lib.hid (B10.out.ext hb); replace Rb := Lib.hid (Rb.out.ext hb); replace B12 := Lib.hid (B12.out.ext hb); replace HB := Lib.hid (below_ext HB.out hb); have Rd := Lib.hid hI; clear hI; have HZ : Hid (CB (wd.alloc ZI) wd.heap.size 41 ZIc) := Lib.hid (cb_one wd ZI _ _ rfl); clear hb; clear T16; have T17 := Lib.hid (Nat.le_refl 17)))
  | (have _g := T17.out; have _h := HZ.out; refine wpList_store_cs rfl 41 (.tmp 14) (.tmp 54) rfl wd.heap.size (zP.cells sld) rfl rfl 41 ZIc HZ.out rfl (by kernel_rfl) (inpR_one Rd.out) (fun we HC HG HS_ => ?_); have hbs : Below wd.heap.size wd we := (b_al (w := wd) ZI).grown HG.out (b_al (w := wd) ZI).size (fun q e => by injection e with e; omega); replace B1 := Lib.hid (B1.out.ext hbs); replace B2 := Lib.hid (B2.out.ext hbs); replace B3 := Lib.hid (B3.out.ext hbs); replace R6 := Lib.hid (R6.out.ext hbs); replace B6 := Lib.hid (B6.out.ext hbs); replace R9 := Lib.hid (R9.out.ext hbs); replace B10 := Lib.hid (B10.out.ext hbs); replace Rb := Lib.hid (Rb.out.ext hbs); replace B12 := Lib.hid (B12.out.ext hbs); replace Rd := Lib.hid (Rd.out.ext hbs); replace HB := Lib.hid (below_ext HB.out hbs); have B14 := HC; clear hbs HC HG HS_ HZ _h; clear T17; have T18 := Lib.hid (Nat.le_refl 18)))
 go_upto_region 12 with (first
  | (have _g := T18.out; refine wpList_load_cs (by rfl) 41 (.tmp 1) rfl w.heap.size (n0.cells nilS) rfl 41 _ B1.out Tryz.underlying41 rfl (by kernel_rfl) ?_; clear T18; have T19 := Lib.hid (Nat.le_refl 19))
  | (have _g := T19.out; go_at_call 23; refine (sgn_no (nil_rd n0 rfl rfl rfl rfl _) n0_I0 n0_few0.sz (HL.out.ext HB.out) ok_n0 Hs0.out (by decide)).mono ?_; go_loud (rintro e wf ⟨slf, rfl, hI, hb⟩; replace B1 := Lib.hid (B1.out.ext hb); replace B2 := Lib.hid (B2.out.ext hb); replace B3 := Lib.hid (B3.out.ext hb); replace R6 := Lib.hid (R6.out.ext hb); replace B6 := Lib.hid (B6.out.ext hb); replace R9 := Lib.hid (R9.out.ext hb); replace B10 := Lib.hid (B10.out.ext hb); replace Rb := Lib.hid (Rb.out.ext hb); replace B12 := Lib.hid (B12.out.ext hb); replace Rd := Lib.hid (Rd.out.ext hb); replace B14 := Lib.hid (B14.out.ext hb); replace HB := Lib.hid (below_ext HB.out hb); have Rf := Lib.hid hI; clear hI; have HZ : Hid (CB (wf.alloc ZI) wf.heap.size 41 ZIc) := Lib.hid (cb_one wf ZI _ _ rfl); clear hb; clear T19; have T20 := Lib.hid (Nat.le_refl 20)))
  | (have _g := T20.out; have _h := HZ.out; refine wpList_store_cs rfl 41 (.tmp 16) (.tmp 59) rfl wf.heap.size (zP.cells slf) rfl rfl 41 ZIc HZ.out rfl (by kernel_rfl) (inpR_one Rf.out) (fun wg HC HG HS_ => ?_); have hbs : Below wf.heap.size wf wg := (b_al (w := wf) ZI).grown HG.out (b_al (w := wf) ZI).size (fun q e => by injection e with e; omega); replace B1 := Lib.hid (B1.out.ext hbs); replace B2 := Lib.hid (B2.out.ext hbs); replace B3 := Lib.hid (B3.out.ext hbs); replace R6 := Lib.hid (R6.out.ext hbs); replace B6 := Lib.hid (B6.out.ext hbs); replace R9 := Lib.hid (R9.out.ext hbs); replace B10 := Lib.hid (B10.out.ext hbs); replace Rb := Lib.hid (Rb.out.ext hbs); replace B12 := Lib.hid (B12.out.ext hbs); replace Rd := Lib.hid (Rd.out.ext hbs); replace B14 := Lib.hid (B14.out.ext hbs); replace Rf := Lib.hid (Rf.out.ext hbs); replace HB := Lib.hid (below_ext HB.out hbs); have B16 := HC; clear hbs HC HG HS_ HZ _h; clear T20; have T21 := Lib.hid (Nat.le_refl 21)))
 go_upto_region 13 with (first
  | (have _g := T21.out; refine wpList_load_cs (by rfl) 41 (.tmp 6) rfl w6.heap.size ((sigI n0 (r : Int) (s : Int)).cells sl6) rfl 41 _ B6.out Tryz.underlying41 rfl (by kernel_rfl) ?_; clear T21; have T22 := Lib.hid (Nat.le_refl 22))
  | (have _g := T22.out; go_at_call 23; refine (sgn_yes R6.out HXI.out HXz.out (HL.out.ext HB.out) HXk.out HXs.out).mono ?_; go_loud (rintro e wh ⟨slh, rfl, hI, hb⟩; replace B1 := Lib.hid (B1.out.ext hb); replace B2 := Lib.hid (B2.out.ext hb); replace B3 := Lib.hid (B3.out.ext hb); replace R6 := Lib.hid (R6.out.ext hb); replace B6 := Lib.hid (B6.out.ext hb); replace R9 := Lib.hid (R9.out.ext hb); replace B10 := Lib.hid (B10.out.ext hb); replace Rb := Lib.hid (Rb.out.ext hb); replace B12 := Lib.hid (B12.out.ext hb); replace Rd := Lib.hid (Rd.out.ext hb); replace B14 := Lib.hid (B14.out.ext hb); replace Rf := Lib.hid (Rf.out.ext hb); replace B16 := Lib.hid (B16.out.ext hb); replace HB := Lib.hid (below_ext HB.out hb); have Rh := Lib.hid hI; clear hI; have HZ : Hid (CB (wh.alloc ZI) wh.heap.size 41 ZIc) := Lib.hid (cb_one wh ZI _ _ rfl); clear hb; clear T22; have T23 := Lib.hid (Nat.le_refl 23)))
  | (have _g := T23.out; have _h := HZ.out; refine wpList_store_cs rfl 41 (.tmp 18) (.tmp 64) rfl wh.heap.size ((sigI (sigI n0 (r : Int) (s : Int)) (r : Int) (s : Int)).cells slh) rfl rfl 41 ZIc HZ.out rfl (by kernel_rfl) (inpR_one Rh.out) (fun wi HC HG HS_ => ?_); have hbs : Below wh.heap.size wh wi := (b_al (w := wh) ZI).grown HG.out (b_al (w := wh) ZI).size (fun q e => by injection e with e; omega); replace B1 := Lib.hid (B1.out.ext hbs); replace B2 := Lib.hid (B2.out.ext hbs); replace B3 := Lib.hid (B3.out.ext hbs); replace R6 := Lib.hid (R6.out.ext hbs); replace B6 := Lib.hid (B6.out.ext hbs); replace R9 := Lib.hid (R9.out.ext hbs); replace B10 := Lib.hid (B10.out.ext hbs); replace Rb := Lib.hid (Rb.out.ext hbs); replace B12 := Lib.hid (B12.out.ext hbs); replace Rd := Lib.hid (Rd.out.ext hbs); replace B14 := Lib.hid (B14.out.ext hbs); replace Rf := Lib.hid (Rf.out.ext hbs); replace B16 := Lib.hid (B16.out.ext hbs); replace Rh := Lib.hid (Rh.out.ext hbs); replace HB := Lib.hid (below_ext HB.out hbs); have B18 := HC; clear hbs HC HG HS_ HZ _h; clear T23; have T24 := Lib.hid (Nat.le_refl 24)))
 go_upto_region 14 with (first
  | (have _g := T24.out; refine wpList_load_cs (by rfl) 41 (.tmp 6) rfl w6.heap.size ((sigI n0 (r : Int) (s : Int)).cells sl6) rfl 41 _ B6.out Tryz.underlying41 rfl (by kernel_rfl) ?_; clear T24; have T25 := Lib.hid (Nat.le_refl 25))
  | (have _g := T25.out; refine wpList_load_cs (by rfl) 41 (.tmp 10) rfl w9.heap.size ((sigI n0 (r : Int) (s : Int)).cells sl9) rfl 41 _ B10.out Tryz.underlying41 rfl (by kernel_rfl) ?_; clear T25; have T26 := Lib.hid (Nat.le_refl 26))
  | (have _g := T26.out; go_at_call 18; refine (rsam_eq R6.out R9.out true (decide_eq_true rfl)).mono ?_; go_loud (rintro e wj ⟨rfl, hb⟩; replace B1 := Lib.hid (B1.out.ext hb); replace B2 := Lib.hid (B2.out.ext hb); replace B3 := Lib.hid (B3.out.ext hb); replace R6 := Lib.hid (R6.out.ext hb); replace B6 := Lib.hid (B6.out.ext hb); replace R9 := Lib.hid (R9.out.ext hb); replace B10 := Lib.hid (B10.out.ext hb); replace Rb := Lib.hid (Rb.out.ext hb); replace B12 := Lib.hid (B12.out.ext hb); replace Rd := Lib.hid (Rd.out.ext hb); replace B14 := Lib.hid (B14.out.ext hb); replace Rf := Lib.hid (Rf.out.ext hb); replace B16 := Lib.hid (B16.out.ext hb); replace Rh := Lib.hid (Rh.out.ext hb); replace B18 := Lib.hid (B18.out.ext hb); replace HB := Lib.hid (below_ext HB.out hb); clear hb; clear T26; have T27 := Lib.hid (Nat.le_refl 27)))
  | (have _g := T27.out; refine wpList_load_cs (by rfl) 41 (.tmp 6) rfl w6.heap.size ((sigI n0 (r : Int) (s : Int)).cells sl6) rfl 41 _ B6.out Tryz.underlying41 rfl (by kernel_rfl) ?_; clear T27; have T28 := Lib.hid (Nat.le_refl 28))
  | (have _g := T28.out; refine wpList_load_cs (by rfl) 41 (.tmp 18) rfl wh.heap.size ((sigI (sigI n0 (r : Int) (s : Int)) (r : Int) (s : Int)).cells slh) rfl 41 _ B18.out Tryz.underlying41 rfl (by kernel_rfl) ?_; clear T28; have T29 := Lib.hid (Nat.le_refl 29))
  | (have _g := T29.out; go_at_call 18; refine (rsam_eq R6.out Rh.out true (decide_eq_true rfl)).mono ?_; go_loud (rintro e wk ⟨rfl, hb⟩; replace B1 := Lib.hid (B1.out.ext hb); replace B2 := Lib.hid (B2.out.ext hb); replace B3 := Lib.hid (B3.out.ext hb); replace R6 := Lib.hid (R6.out.ext hb); replace B6 := Lib.hid (B6.out.ext hb); replace R9 := Lib.hid (R9.out.ext hb); replace B10 := Lib.hid (B10.out.ext hb); replace Rb := Lib.hid (Rb.out.ext hb); replace B12 := Lib.hid (B12.out.ext hb); replace Rd := Lib.hid (Rd.out.ext hb); replace B14 := Lib.hid (B14.out.ext hb); replace Rf := Lib.hid (Rf.out.ext hb); replace B16 := Lib.hid (B16.out.ext hb); replace Rh := Lib.hid (Rh.out.ext hb); replace B18 := Lib.hid (B18.out.ext hb); replace HB := Lib.hid (below_ext HB.out hb); clear hb; clear T29; have T30 := Lib.hid (Nat.le_refl 30))))
 go_wp2_with (first
  | (have _g := T30.out; refine wpList_load_cs (by rfl) 41 (.tmp 1) rfl w.heap.size (n0.cells nilS) rfl 41 _ B1.out Tryz.underlying41 rfl (by kernel_rfl) ?_; clear T30; have T31 := Lib.hid (Nat.le_refl 31))
  | (have _g := T31.out; go_at_call 13; refine (chk_ok (nil_rd n0 rfl rfl rfl rfl _) n0_I0 ok_n0).mono ?_; go_loud (rintro e wl ⟨rfl, hb⟩; replace B1 := Lib.hid (B1.out.ext hb); replace B2 := Lib.hid (B2.out.ext hb); replace B3 := Lib.hid (B3.out.ext hb); replace R6 := Lib.hid (R6.out.ext hb); replace B6 := Lib.hid (B6.out.ext hb); replace R9 := Lib.hid (R9.out.ext hb); replace B10 := Lib.hid (B10.out.ext hb); replace Rb := Lib.hid (Rb.out.ext hb); replace B12 := Lib.hid (B12.out.ext hb); replace Rd := Lib.hid (Rd.out.ext hb); replace B14 := Lib.hid (B14.out.ext hb); replace Rf := Lib.hid (Rf.out.ext hb); replace B16 := Lib.hid (B16.out.ext hb); replace Rh := Lib.hid (Rh.out.ext hb); replace B18 := Lib.hid (B18.out.ext hb); replace HB := Lib.hid (below_ext HB.out hb); clear hb; clear T31; have T32 := Lib.hid (Nat.le_refl 32)))
  | (have _g := T32.out; refine wpList_load_cs (by rfl) 41 (.tmp 2) rfl w1.heap.size (nf.cells nilS) rfl 41 _ B2.out Tryz.underlying41 rfl (by kernel_rfl) ?_; clear T32; have T33 := Lib.hid (Nat.le_refl 33))
  | (have _g := T33.out; go_at_call 13; refine (chk_no (nil_rd nf rfl rfl rfl rfl _) nf_I ok_nf).mono ?_; go_loud (rintro e wm ⟨rfl, hb⟩; replace B1 := Lib.hid (B1.out.ext hb); replace B2 := Lib.hid (B2.out.ext hb); replace B3 := Lib.hid (B3.out.ext hb); replace R6 := Lib.hid (R6.out.ext hb); replace B6 := Lib.hid (B6.out.ext hb); replace R9 := Lib.hid (R9.out.ext hb); replace B10 := Lib.hid (B10.out.ext hb); replace Rb := Lib.hid (Rb.out.ext hb); replace B12 := Lib.hid (B12.out.ext hb); replace Rd := Lib.hid (Rd.out.ext hb); replace B14 := Lib.hid (B14.out.ext hb); replace Rf := Lib.hid (Rf.out.ext hb); replace B16 := Lib.hid (B16.out.ext hb); replace Rh := Lib.hid (Rh.out.ext hb); replace B18 := Lib.hid (B18.out.ext hb); replace HB := Lib.hid (below_ext HB.out hb); clear hb; clear T33; have T34 := Lib.hid (Nat.le_refl 34)))
  | (have _g := T34.out; refine wpList_load_cs (by rfl) 41 (.tmp 3) rfl w3.heap.size (nt.cells nilS) rfl 41 _ B3.out Tryz.underlying41 rfl (by kernel_rfl) ?_; clear T34; have T35 := Lib.hid (Nat.le_refl 35))
  | (have _g := T35.out; go_at_call 13; refine (chk_no (nil_rd nt rfl rfl rfl rfl _) nt_I ok_nt).mono ?_; go_loud (rintro e wn ⟨rfl, hb⟩; replace B1 := Lib.hid (B1.out.ext hb); replace B2 := Lib.hid (B2.out.ext hb); replace B3 := Lib.hid (B3.out.ext hb); replace R6 := Lib.hid (R6.out.ext hb); replace B6 := Lib.hid (B6.out.ext hb); replace R9 := Lib.hid (R9.out.ext hb); replace B10 := Lib.hid (B10.out.ext hb); replace Rb := Lib.hid (Rb.out.ext hb); replace B12 := Lib.hid (B12.out.ext hb); replace Rd := Lib.hid (Rd.out.ext hb); replace B14 := Lib.hid (B14.out.ext hb); replace Rf := Lib.hid (Rf.out.ext hb); replace B16 := Lib.hid (B16.out.ext hb); replace Rh := Lib.hid (Rh.out.ext hb); replace B18 := Lib.hid (B18.out.ext hb); replace HB := Lib.hid (below_ext HB.out hb); clear hb; clear T35; have T36 := Lib.hid (Nat.le_refl 36)))
  | (have _g := T36.out; refine wpList_built (by rfl) 41 #[] rfl (zP.cells nilS) [] rfl (by kernel_rfl) ?_; clear T36; have T37 := Lib.hid (Nat.le_refl 37))
  | (have _g := T37.out; go_at_call 13; refine (chk_no (nil_rd zP rfl rfl rfl rfl _) zP_I ok_zP).mono ?_; go_loud (rintro e wo ⟨rfl, hb⟩; replace B1 := Lib.hid (B1.out.ext hb); replace B2 := Lib.hid (B2.out.ext hb); replace B3 := Lib.hid (B3.out.ext hb); replace R6 := Lib.hid (R6.out.ext hb); replace B6 := Lib.hid (B6.out.ext hb); replace R9 := Lib.hid (R9.out.ext hb); replace B10 := Lib.hid (B10.out.ext hb); replace Rb := Lib.hid (Rb.out.ext hb); replace B12 := Lib.hid (B12.out.ext hb); replace Rd := Lib.hid (Rd.out.ext hb); replace B14 := Lib.hid (B14.out.ext hb); replace Rf := Lib.hid (Rf.out.ext hb); replace B16 := Lib.hid (B16.out.ext hb); replace Rh := Lib.hid (Rh.out.ext hb); replace B18 := Lib.hid (B18.out.ext hb); replace HB := Lib.hid (below_ext HB.out hb); clear hb; clear T37; have T38 := Lib.hid (Nat.le_refl 38)))
  | (have _g := T38.out; refine wpList_load_cs (by rfl) 41 (.tmp 6) rfl w6.heap.size ((sigI n0 (r : Int) (s : Int)).cells sl6) rfl 41 _ B6.out Tryz.underlying41 rfl (by kernel_rfl) ?_; clear T38; have T39 := Lib.hid (Nat.le_refl 39))
  | (have _g := T39.out; go_at_call 26; refine (ver_tt R6.out HXI.out HXz.out (HL.out.ext HB.out) HXk.out HV.out.1 HV.out.2.1 HV.out.2.2.1 HV.out.2.2.2).mono ?_; go_loud (rintro e wp ⟨rfl, hb⟩; replace B1 := Lib.hid (B1.out.ext hb); replace B2 := Lib.hid (B2.out.ext hb); replace B3 := Lib.hid (B3.out.ext hb); replace R6 := Lib.hid (R6.out.ext hb); replace B6 := Lib.hid (B6.out.ext hb); replace R9 := Lib.hid (R9.out.ext hb); replace B10 := Lib.hid (B10.out.ext hb); replace Rb := Lib.hid (Rb.out.ext hb); replace B12 := Lib.hid (B12.out.ext hb); replace Rd := Lib.hid (Rd.out.ext hb); replace B14 := Lib.hid (B14.out.ext hb); replace Rf := Lib.hid (Rf.out.ext hb); replace B16 := Lib.hid (B16.out.ext hb); replace Rh := Lib.hid (Rh.out.ext hb); replace B18 := Lib.hid (B18.out.ext hb); replace HB := Lib.hid (below_ext HB.out hb); clear hb; clear T39; have T40 := Lib.hid (Nat.le_refl 40)))
  | (have _g := T40.out; refine wpList_load_cs (by rfl) 41 (.tmp 1) rfl w.heap.size (n0.cells nilS) rfl 41 _ B1.out Tryz.underlying41 rfl (by kernel_rfl) ?_; clear T40; have T41 := Lib.hid (Nat.le_refl 41))
  | (have _g := T41.out; go_at_call 26; refine (ver_ff (nil_rd n0 rfl rfl rfl rfl _) n0_I0 n0_few0.sz (HL.out.ext HB.out) ok_n0 HV.out.1 el_z_bad sc_z (.inl ⟨by decide, rfl⟩)).mono ?_; go_loud (rintro e wq ⟨rfl, hb⟩; replace B1 := Lib.hid (B1.out.ext hb); replace B2 := Lib.hid (B2.out.ext hb); replace B3 := Lib.hid (B3.out.ext hb); replace R6 := Lib.hid (R6.out.ext hb); replace B6 := Lib.hid (B6.out.ext hb); replace R9 := Lib.hid (R9.out.ext hb); replace B10 := Lib.hid (B10.out.ext hb); replace Rb := Lib.hid (Rb.out.ext hb); replace B12 := Lib.hid (B12.out.ext hb); replace Rd := Lib.hid (Rd.out.ext hb); replace B14 := Lib.hid (B14.out.ext hb); replace Rf := Lib.hid (Rf.out.ext hb); replace B16 := Lib.hid (B16.out.ext hb); replace Rh := Lib.hid (Rh.out.ext hb); replace B18 := Lib.hid (B18.out.ext hb); replace HB := Lib.hid (below_ext HB.out hb); clear hb; clear T41; have T42 := Lib.hid (Nat.le_refl 42)))
  | (have _g := T42.out; refine wpList_load_cs (by rfl) 41 (.tmp 6) rfl w6.heap.size ((sigI n0 (r : Int) (s : Int)).cells sl6) rfl 41 _ B6.out Tryz.underlying41 rfl (by kernel_rfl) ?_; clear T42; have T43 := Lib.hid (Nat.le_refl 43))
  | (have _g := T43.out; refine wpList_load_cs (by rfl) 41 (.tmp 10) rfl w9.heap.size ((sigI n0 (r : Int) (s : Int)).cells sl9) rfl 41 _ B10.out Tryz.underlying41 rfl (by kernel_rfl) ?_; clear T43; have T44 := Lib.hid (Nat.le_refl 44))
  | (have _g := T44.out; go_at_call 15; refine (sam_eq R6.out R9.out true (decide_eq_true rfl)).mono ?_; go_loud (rintro e wr ⟨rfl, hb⟩; replace B1 := Lib.hid (B1.out.ext hb); replace B2 := Lib.hid (B2.out.ext hb); replace B3 := Lib.hid (B3.out.ext hb); replace R6 := Lib.hid (R6.out.ext hb); replace B6 := Lib.hid (B6.out.ext hb); replace R9 := Lib.hid (R9.out.ext hb); replace B10 := Lib.hid (B10.out.ext hb); replace Rb := Lib.hid (Rb.out.ext hb); replace B12 := Lib.hid (B12.out.ext hb); replace Rd := Lib.hid (Rd.out.ext hb); replace B14 := Lib.hid (B14.out.ext hb); replace Rf := Lib.hid (Rf.out.ext hb); replace B16 := Lib.hid (B16.out.ext hb); replace Rh := Lib.hid (Rh.out.ext hb); replace B18 := Lib.hid (B18.out.ext hb); replace HB := Lib.hid (below_ext HB.out hb); clear hb; clear T44; have T45 := Lib.hid (Nat.le_refl 45)))
  | (have _g := T45.out; refine wpList_load_cs (by rfl) 41 (.tmp 6) rfl w6.heap.size ((sigI n0 (r : Int) (s : Int)).cells sl6) rfl 41 _ B6.out Tryz.underlying41 rfl (by kernel_rfl) ?_; clear T45; have T46 := Lib.hid (Nat.le_refl 46))
  | (have _g := T46.out; refine wpList_load_cs (by rfl) 41 (.tmp 1) rfl w.heap.size (n0.cells nilS) rfl 41 _ B1.out Tryz.underlying41 rfl (by kernel_rfl) ?_; clear T46; have T47 := Lib.hid (Nat.le_refl 47))
  | (have _g := T47.out; go_at_call 15; refine (sam_eq R6.out (nil_rd n0 rfl rfl rfl rfl _) false HXn.out).mono ?_; go_loud (rintro e ws ⟨rfl, hb⟩; replace B1 := Lib.hid (B1.out.ext hb); replace B2 := Lib.hid (B2.out.ext hb); replace B3 := Lib.hid (B3.out.ext hb); replace R6 := Lib.hid (R6.out.ext hb); replace B6 := Lib.hid (B6.out.ext hb); replace R9 := Lib.hid (R9.out.ext hb); replace B10 := Lib.hid (B10.out.ext hb); replace Rb := Lib.hid (Rb.out.ext hb); replace B12 := Lib.hid (B12.out.ext hb); replace Rd := Lib.hid (Rd.out.ext hb); replace B14 := Lib.hid (B14.out.ext hb); replace Rf := Lib.hid (Rf.out.ext hb); replace B16 := Lib.hid (B16.out.ext hb); replace Rh := Lib.hid (Rh.out.ext hb); replace B18 := Lib.hid (B18.out.ext hb); replace HB := Lib.hid (below_ext HB.out hb); have y0 : ws.cell? ⟨w.heap.size, 0, none⟩ = some (.int .i64 3) := B1.out.cell 0; have y1 : ws.cell? ⟨w.heap.size, 1, none⟩ = some (.int .i64 1) := B1.out.cell 1; have y2 : ws.cell? ⟨w.heap.size, 2, none⟩ = some (.int .i64 2) := B1.out.cell 2; clear hb; clear T47; have T48 := Lib.hid (Nat.le_refl 48)))
  | (have _g := T48.out; go_at_call 16; refine (compareS_any 1 0 9 3 1 2 _).mono ?_; rw [cmp_n0]; go_loud (rintro e wt ⟨rfl, hb⟩; replace B1 := Lib.hid (B1.out.ext hb); replace B2 := Lib.hid (B2.out.ext hb); replace B3 := Lib.hid (B3.out.ext hb); replace R6 := Lib.hid (R6.out.ext hb); replace B6 := Lib.hid (B6.out.ext hb); replace R9 := Lib.hid (R9.out.ext hb); replace B10 := Lib.hid (B10.out.ext hb); replace Rb := Lib.hid (Rb.out.ext hb); replace B12 := Lib.hid (B12.out.ext hb); replace Rd := Lib.hid (Rd.out.ext hb); replace B14 := Lib.hid (B14.out.ext hb); replace Rf := Lib.hid (Rf.out.ext hb); replace B16 := Lib.hid (B16.out.ext hb); replace Rh := Lib.hid (Rh.out.ext hb); replace B18 := Lib.hid (B18.out.ext hb); replace HB := Lib.hid (below_ext HB.out hb); clear hb; clear T48; have T49 := Lib.hid (Nat.le_refl 49))))
 go_ret
 exact ⟨rfl, HB.out⟩
end Go.Proofs.YtdblnbnofjggnaaGreatDoor
namespace Go.Proofs.YtdblnbnofjggnaaGreatDoor
open Go.RowKit
def TrueP (w : World) (e : Ending) (w' : World) : Prop := e = .returned (.bool true) ∧ Below w.heap.size w w'
section
variable {x : Inp} {s : Slc} {W : World}
theorem few49 (hx : InpR W x s) (hi : InpI x) {b : Bool} (hb : fewB x = b) : Calls Tryz.prog 12 #[.agg (x.cells s).toArray] W fun e W' => e = .returned (.bool b) ∧ Below W.heap.size W W' :=
 (few_any x s W hx hi.text hi.flt.call hi.rcl).mono fun e W' h => by rw [hb] at h; exact h
theorem enc49 (hx : InpR W x s) (hi : InpI x) (hf : FewI x) {n : Int} {L : List UInt8} (hn : (if okI x then (0 : Int) else 490) = n) (hL : (if okI x then encI x else []) = L) : Calls Tryz.prog 14 #[.agg (x.cells s).toArray] W fun e W' => ∃ ou cu, e = .returned (.tuple #[.slice ou L.length cu, .int .i64 n]) ∧ BtsAt W'.heap.size W' L (.slice ou L.length cu) ∧ Below W.heap.size W W' :=
 (encode49_any x s W hx hi (InpL.of hf.sz) hf.sz).mono fun e W' h => by
  obtain ⟨u, h1, h2, h3⟩ := h
  rw [hn] at h1; rw [hL] at h2
  obtain ⟨ou, cu, rfl⟩ := h2.shape
  exact ⟨ou, cu, h1, h2, h3⟩
theorem dec49 {l : List UInt8} {y : Inp} {n : Int} (hl : l.length ≤ 4000) (hd : decO decI l = (y, n)) (v : Value) (W : World) (hb : BtsAt W.heap.size W l v) : Calls Tryz.prog 21 #[v] W fun e W' => ∃ sl, e = .returned (.tuple #[.agg (y.cells sl).toArray, .int .i64 n]) ∧ InpR W' y sl ∧ Below W.heap.size W W' :=
 (decode49_any l hl v W hb).mono fun e W' h => by rw [hd] at h; exact h
end
end Go.Proofs.YtdblnbnofjggnaaGreatDoor
