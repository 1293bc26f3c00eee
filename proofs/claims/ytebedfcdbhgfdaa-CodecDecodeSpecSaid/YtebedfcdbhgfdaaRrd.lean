/- the reference's Reader: Value, texts that fit. -/
import Derived.Test.YtebedfcdbhgfdaaRrc
import Derived.Laws.Slices
namespace Go.Proofs.Ytebedfcdbhgfdaa
open Go.RowKit

/-- the numbers of a text that is read: l bytes, n of them from q on -/
structure TxtNums (L q n m z : Nat) : Prop where
  e1 : wrap64 ((L : Int) - (q : Int)) = (m : Int)
  e2 : IntKind.u64.wrap (m : Int) = (m : Int)
  e3 : wrap64 (n : Int) = (n : Int)
  e4 : wrap64 ((q : Int) + (n : Int)) = (z : Int)
  e5 : wrap64 ((z : Int) - (n : Int)) = (q : Int)
  t1 : decide (m < n) = false
  zl : z ≤ L
  qz : q ≤ z
theorem txtNums {L q n m z : Nat} (h1 : L - q = m) (h2 : q ≤ L) (h3 : L ≤ 1000000) (h4 : n ≤ m) (h5 : q + n = z) : TxtNums L q n m z :=
  ⟨by unfold wrap64; omega, by rw [IntKind.wrap_u64]; omega, by unfold wrap64; omega, by unfold wrap64; omega, by unfold wrap64; omega, decide_eq_false (by omega), by omega, by omega⟩

theorem txt_slice {B b off cap q n z : Nat} {w : World} {l : List UInt8} (hc1 : l.length ≤ cap) (hc2 : cap ≤ maxLen) (hbB : b < B) (hcell : ∀ j c, l[j]? = some c → w.cell? ⟨b, off + j, none⟩ = some (.int .u8 (c.toNat : Int)))
    (hqz : q + n = z) (hzl : z ≤ l.length) : BtsAt B w ((l.drop q).take n) (sliced (some ⟨b, off, none⟩) q z cap 1) := by
  have hlen : ((l.drop q).take n).length = n := by simp; omega
  unfold sliced
  by_cases h : cap = q
  · have h0 : n = 0 := by omega
    rw [if_pos h]
    subst h0
    exact .inl ⟨by simp, _, cap - q, by rw [show z - q = 0 from by omega], by omega⟩
  · rw [if_neg h]
    have ha : (⟨b, off, none⟩ : Addr).add (q * 1) = ⟨b, off + q, none⟩ := by unfold Addr.add; split <;> simp_all
    rw [Option.map_some, ha]
    refine BtsAt.mk' (by rw [hlen]; omega) (by rw [hlen]; omega) (by omega) hbB fun j c hj => ?_
    rw [List.getElem?_take] at hj
    split at hj
    · rw [List.getElem?_drop] at hj; rw [Nat.add_assoc]; exact hcell (q + j) c hj
    · cases hj
theorem run_txt_slice (a : Option Addr) (L cap q z : Nat) (h1 : q ≤ z) (h2 : z ≤ cap) (w : World) :
    (Instr.slice 27 (.slice a L cap) (some (.int .i64 (q : Int))) (some (.int .i64 (z : Int))) none).run Try.prog w = .ok (sliced a q z cap 1) w := by
  rw [run_slice_lh (P := Try.prog) (w := w) 27 a L cap (by kernel_rfl) .i64 .i64 q z (by omega) (by omega) (by omega)]
  have hs : (sizeOf (Try.prog.elem 27)).run Try.prog w = .ok 1 w := by kernel_rfl
  rw [hs]; rfl

set_option maxRecDepth 100000 in
set_option maxHeartbeats 4000000 in
theorem rvalue_2s (d : Nat) (B R p : Nat) (l : List UInt8) (di : Int) (hl : l.length ≤ 1000000) (w : World) (h : RefAt B w R l p false) (hRw : R < w.heap.size) (hp : l[p]? = some 2) (n : Nat) (r' : List UInt8) (hN : rdNum 0 0 (l.drop (p + 1)) = some (n, r')) (hnr : n ≤ r'.length) :
    Calls Try.prog 34 #[.pointer (some ⟨R, 0, none⟩), .int .i64 di] w (RValPost B R l (rdV d (l.drop p)) w) := by
  have H := Lib.hid h; clear h
  have Hp := Lib.hid hp; clear hp
  have hv := Lib.hid (rdV_2 d (l.drop (p + 1)))
  have hn64 := Lib.hid (rdNum_lt _ 0 0 n r' (by decide) (by simp) hN)
  have hlr := rdNum_len _ 0 0 _ _ hN
  have hlp : (l.drop (p + 1)).length ≤ 1000000 := by simp; omega
  have HN := Lib.hid hN; clear hN
  have hn : Hid (rdV d (l.drop p) = some (.mk 2 0 ⟨(r'.take n).toArray⟩ [], r'.drop n)) := by show _ = _; rw [drop_at Hp.out, hv.out]; unfold rdLen; rw [HN.out]; simp only; rw [if_pos hnr]
  have Hnr := Lib.hid hnr
  have Hlr := Lib.hid hlr; have Hlp := Lib.hid hlp
  clear hnr hlr hlp
  go_enter Try.func34, Try.ntmps34
  go_wp2_with fail
  refine (rhead B R p 2 l hl w H.out hRw Hp.out).mono ?_
  rintro e w1 ⟨rfl, hh⟩
  go_wp2_with fail
  refine (rnumber_any B R (p + 1) l hl _ hh.rd).mono ?_
  rw [HN.out]
  rintro e w2 ⟨rfl, q, hq, hr2, hg2⟩
  obtain ⟨⟨x0, x1, x2, x3, xf⟩, hgw⟩ := hh.num hRw hg2
  have f2 := hr2.fr 2; have r2 := hr2.c2; have r1 := hr2.c1; have f1 := hr2.fr 1
  obtain ⟨v, r0, hb⟩ := hr2.c0
  rcases hb with ⟨rfl, _⟩ | ⟨_, b, off, cap, rfl, hc1, hc2, hbB, hcell⟩
  · have := H.out.hp; simp at Hp; exact absurd Hp.out (by simp)
  have HC2 := Lib.hid (And.intro hc1 hc2)
  clear hc1 hc2
  have hRT : R ≠ w.heap.size := by omega
  have hbR : R ≠ b := by have := hr2.le; omega
  have hql := hr2.hp
  have hm : l.length - q = r'.length := by rw [← hq]; simp
  obtain ⟨m, hmm⟩ : ∃ m, r'.length = m := ⟨_, rfl⟩
  have hnm : n ≤ m := by rw [← hmm]; exact Hnr.out
  obtain ⟨z, hz⟩ : ∃ z, q + n = z := ⟨_, rfl⟩
  obtain ⟨e1, e2, e3, e4, e5, t1, hzl, hqz⟩ := txtNums (hm.trans hmm) hql hl hnm hz
  have HH := Lib.hid hh; have HR2 := Lib.hid hr2; have HC := Lib.hid hcell
  have Hq := Lib.hid hq
  have Hz := Lib.hid hz; have Hm := Lib.hid hm; have Hmm := Lib.hid hmm
  have HZ := Lib.hid (And.intro hzl hqz)
  have e6' := Lib.hid ((IntWalk.i64_left (n : Int)).trans e3)
  have e7' := Lib.hid ((IntWalk.i64_left ((z : Int) - (n : Int))).trans e5)
  clear hh hr2 hg2 hcell hq hm hmm hz hnm hql hzl hqz
  go_wp2
  go_quiet (fail)
  go_wp2
  obtain ⟨w3, hw3⟩ : ∃ w3, (w2.drewN nq).setCell ⟨R, 1, none⟩ (.int .i64 (z : Int)) = w3 := ⟨_, rfl⟩
  have hg3 : w2.grownBy w3 (some R) := by rw [← hw3]; exact grown_setR (grown_drewN _ _ _)
  have HR3 : Hid (RefAt B w3 R l z false) := by rw [← hw3]; exact (HR2.out.drewN _).set1 _ rfl HZ.out.1
  have y0 : w3.cell? ⟨R, 0, none⟩ = some (.slice (some ⟨b, off, none⟩) l.length cap) := by rw [← hw3, World.cell?_setCell_other _ _ _ _ (by simp)]; exact r0
  have y1 := HR3.out.c1
  have hb3 := (BoxAt.mk x0 x1 x2 x3 xf).grown hg3 hRT
  have hgw3 := grown_trans hgw hg3 (.inl rfl)
  have hgc : ∀ k, k ≠ R → ∀ o, w3.cell? ⟨k, o, none⟩ = w2.cell? ⟨k, o, none⟩ := fun k hk o => by rw [← hw3, World.cell?_setCell_other _ _ _ _ (by simp <;> omega)]; rfl
  rw [hw3]
  clear x0 x1 x2 x3 xf r0 r1 r2 f1 f2 hgw hw3 hg3
  obtain ⟨x0, x1, x2, x3, xf⟩ := hb3
  obtain ⟨hzl, hqz⟩ := HZ.out
  have hbt := txt_slice (q := q) (n := n) (z := z) HC2.out.1 HC2.out.2 hbB (fun j c hj => ((hgc b (by omega) _).trans (HC.out j c hj))) Hz.out hzl
  rw [Hq.out] at hbt
  obtain ⟨sv, hsv⟩ : ∃ sv, sliced (some ⟨b, off, none⟩) q z cap 1 = sv := ⟨_, rfl⟩
  have s1 := run_txt_slice (some ⟨b, off, none⟩) l.length cap q z hqz (by have := HC2.out.1; omega)
  rw [hsv] at hbt s1
  have s2 : (convert 27 9 sv).run Try.prog w3.drew = .ok (.string ⟨(r'.take n).toArray⟩) w3.drew := run_conv_bts (P := Try.prog) Try.underlying27 Try.underlying5 Try.underlying9 (hbt.keep (w' := w3.drew) (Nat.le_refl B) fun _ _ => rfl)
  have e6 : IntKind.i64.wrap (n : Int) = (n : Int) := e6'.out
  have e7 : IntKind.i64.wrap ((z : Int) - (n : Int)) = (q : Int) := e7'.out
  clear hbt hsv
  go_still_tail 18, (by kernel_rfl)
  have z0 : w3.drew.cell? ⟨w.heap.size, 0, none⟩ = some (.int .i64 0) := x0
  have z1 : w3.drew.cell? ⟨w.heap.size, 1, none⟩ = some (.int .i64 0) := x1
  have z2 : w3.drew.cell? ⟨w.heap.size, 2, none⟩ = some (.string ⟨#[]⟩) := x2
  have z3 : w3.drew.cell? ⟨w.heap.size, 3, none⟩ = some (.slice none 0 0) := x3
  have zf : ∀ o, w3.drew.frozen? ⟨w.heap.size, o, none⟩ = false := xf
  have HR4 : Hid (RefAt B w3.drew R l z false) := HR3.out.keep fun _ _ => rfl
  have hgw4 : w.grownBy w3.drew (some R) := grown_drew' hgw3
  clear x0 x1 x2 x3 xf s1 s2 e6 e7 y0 y1 hgw3 HR3 hgc
  change wpList _ _ _ _ _ w3.drew
  generalize w3.drew = w4 at *
  have hdz : l.drop z = r'.drop n := by rw [← Hq.out, List.drop_drop, Hz.out]
  have Hdz := Lib.hid hdz; clear hdz
  generalize hS : (⟨(r'.take n).toArray⟩ : ByteArray) = S at *
  have hSl : S.size ≤ maxLen := by
    rw [← hS]; show (r'.take n).toArray.size ≤ maxLen
    have h1 := Hlr.out; have h2 := Hlp.out
    simp only [List.size_toArray, List.length_take]; unfold maxLen; omega
  have HSl := Lib.hid hSl
  clear hSl hS
  go_wp2
  refine bodyPost_ret (v := .agg #[.int .i64 2, .int .i64 0, .string S, .slice none 0 0]) (by simp [results, Try.results34, go_sem, z0, z1, z2, z3]) rfl ?_
  exact ⟨.mk 2 0 S [], _, z, false, rfl, rdVD_nil _ _ _ _ _ (by unfold I64; omega) I64_0 HSl.out, (by repeat (first | exact HR4.out | refine RefAt.setT ?_ hRw)), (by repeat (first | exact hgw4 | refine grown_set_new ?_ (Nat.le_refl _))), (by rw [hn.out]; exact ⟨rfl, rfl, Hdz.out⟩)⟩
theorem rvalue_2 (d : Nat) (B R p : Nat) (l : List UInt8) (di : Int) (hl : l.length ≤ 1000000) (w : World) (h : RefAt B w R l p false) (hRw : R < w.heap.size) (hp : l[p]? = some 2) :
    Calls Try.prog 34 #[.pointer (some ⟨R, 0, none⟩), .int .i64 di] w (RValPost B R l (rdV d (l.drop p)) w) := by
  cases hN : rdNum 0 0 (l.drop (p + 1)) with
  | none => exact rvalue_2n d B R p l di hl w h hRw hp hN
  | some pr =>
    obtain ⟨n, r'⟩ := pr
    by_cases hnr : n ≤ r'.length
    · exact rvalue_2s d B R p l di hl w h hRw hp n r' hN hnr
    · exact rvalue_2l d B R p l di hl w h hRw hp n r' hN hnr
end Go.Proofs.Ytebedfcdbhgfdaa
