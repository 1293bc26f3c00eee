/- Parts of the proofs of chapter 49's laws: Wr3. -/
import Derived.Test.YtdblnbnofjggnaaGreatDoorK17
import Derived.StillTailTactics
namespace Go.Proofs.YtdblnbnofjggnaaGreatDoor
open Go.RowKit
structure WrAt (B : Nat) (w : World) (tb G : Nat) : Prop where
 tlt : tb < B
 glt : G < B
 var : w.cell? ⟨tb, 0, none⟩ = some (.pointer (some ⟨G, 0, none⟩))
 w1 : w.cell? ⟨G, 1, none⟩ = some (.func (.func 157) #[] #[])
 w2 : w.cell? ⟨G, 2, none⟩ = some (.func (.func 160) #[] #[])
 w3 : w.cell? ⟨G, 3, none⟩ = some (.func (.func 161) #[] #[.pointer (some ⟨tb, 0, none⟩)])
theorem WrAt.keep {B B' : Nat} {w w' : World} {tb G : Nat} (h : WrAt B w tb G) (hB : B ≤ B') (hs : ∀ k, k < B → w'.heap[k]? = w.heap[k]?) : WrAt B' w' tb G := by
 have e1 : ∀ o, w'.cell? ⟨tb, o, none⟩ = w.cell? ⟨tb, o, none⟩ := fun o => World.cell?_of_block (w := w) (hs tb h.tlt)
 have e2 : ∀ o, w'.cell? ⟨G, o, none⟩ = w.cell? ⟨G, o, none⟩ := fun o => World.cell?_of_block (w := w) (hs G h.glt)
 exact ⟨Nat.lt_of_lt_of_le h.tlt hB, Nat.lt_of_lt_of_le h.glt hB, (e1 0).trans h.var, (e2 1).trans h.w1, (e2 2).trans h.w2, (e2 3).trans h.w3⟩
def WrRel (base : Nat) (b0 : Value) (pre : List UInt8) (l : List V) (w : World) (b i : Value) (wr : World) : Prop :=
 ∃ k : Nat, k ≤ l.length ∧ i = .int .i64 k ∧ OwnB 5 wr base b (pre ++ encs (l.take k)) ∧ w.grownBy wr b0.ownBlock ∧ Next w b0 b
theorem fm_kind {x : V} (h : fm x = true) : x.kind = 1 ∨ x.kind = 2 ∨ x.kind = 3 := by
 obtain ⟨k, n, s, l⟩ := x
 simp only [fm] at h
 simp only [V.kind]
 by_cases h1 : k = 1
 · exact .inl h1
 · by_cases h2 : k = 2
   · exact .inr (.inl h2)
   · by_cases h3 : k = 3
     · exact .inr (.inr h3)
     · simp [h1, h2, h3] at h
theorem SlV.elemB {B : Nat} {w wr : World} {l : List V} {oa : Option Addr} {cap : Nat} (h : SlV B w l (.slice oa l.length cap)) (hs : ∀ k, k < B → wr.heap[k]? = w.heap[k]?) {k : Nat} {x : V} (hx : l[k]? = some x) :
 ∃ c o xo xc, oa = some ⟨c, o, none⟩ ∧ c < B ∧ wr.cell? ⟨c, o + k * 4, none⟩ = some (.int .i64 x.kind) ∧ wr.cell? ⟨c, o + k * 4 + 1, none⟩ = some (.int .i64 x.n) ∧ wr.cell? ⟨c, o + k * 4 + 2, none⟩ = some (.string x.s) ∧
  wr.cell? ⟨c, o + k * 4 + 3, none⟩ = some (.slice xo x.l.length xc) ∧ RdV B wr x (.agg #[.int .i64 x.kind, .int .i64 x.n, .string x.s, .slice xo x.l.length xc]) := by
 rcases h with ⟨rfl, _⟩ | ⟨_, c, o, cap', he, hlm, hat⟩
 · simp at hx
 injection he with he1 he2 he3
 have hv := V.at_keep (Nat.le_refl _) hs x c (o + k * 4) (V.ats_get hat k x hx)
 obtain ⟨hcb, c0, c1, c2, xo, xc, c3, hrd⟩ := V.at_def hv
 exact ⟨c, o, xo, xc, he1, hcb, c0, c1, c2, c3, hrd⟩
theorem fms_get {l : List V} {i : Nat} {x : V} (h : fms l = true) (hx : l[i]? = some x) : fm x = true := by
 rcases Bool.eq_false_or_eq_true (fm x) with h' | h'
 · exact h'
 · rw [fms_false hx h'] at h; cases h
theorem encs_len_take {l : List V} {i : Nat} {x : V} (h : l[i]? = some x) : (encs (l.take i)).length + sz x ≤ szs l := by
 induction l generalizing i with
 | nil => simp at h
 | cons y r ih => cases i with
  | zero => simp at h; subst h; simp [encs, szs]
  | succ i => simp only [List.take_succ_cons, encs, szs, List.length_append]; have := ih (i := i) (by simpa using h); have := enc_sz y; omega
theorem enc_k1 (x : V) (h : x.kind = 1) : enc x = [1] ++ num (uns x.n) := by obtain ⟨k, n, s, l⟩ := x; simp only [V.kind] at h; subst h; exact enc_1 n s l
theorem enc_k2 (x : V) (h : x.kind = 2) : enc x = [2] ++ num x.s.size ++ x.s.data.toList := by obtain ⟨k, n, s, l⟩ := x; simp only [V.kind] at h; subst h; exact enc_2 n s l
theorem sz_s (x : V) : x.s.size + 24 ≤ sz x := by obtain ⟨k, n, s, l⟩ := x; simp only [sz, V.s]; omega
theorem sz_l (x : V) : szs x.l + 24 ≤ sz x := by obtain ⟨k, n, s, l⟩ := x; simp only [sz, V.l]; omega
theorem fm_l (x : V) (h : x.kind = 3) (hf : fm x = true) : fms x.l = true := by
 obtain ⟨k, n, s, l⟩ := x; simp only [V.kind] at h; subst h; simp only [fm] at hf; simp at hf; exact hf.2
theorem enc_k3 (x : V) (h : x.kind = 3) : enc x = enc (.mk 3 x.n x.s x.l) := by obtain ⟨k, n, s, l⟩ := x; simp only [V.kind] at h; subst h; rfl
theorem RdV.sl {B : Nat} {w : World} {x : V} {a b c lv : Value} (h : RdV B w x (.agg #[a, b, c, lv])) : SlV B w x.l lv := by
 obtain ⟨_, _, _, lv', he, hs⟩ := h
 simp at he
 obtain ⟨_, _, _, rfl⟩ := he
 exact hs
def W3Said (N : Nat) : Prop := ∀ (l : List V), fms l = true → szs l ≤ N → ∀ (base tb G : Nat) (b : Value) (pre : List UInt8) (n : Int) (s : ByteArray) (oa : Option Addr) (cap : Nat) (w : World) (out : List UInt8),
 SlV base w l (.slice oa l.length cap) → WrAt base w tb G → OwnB 5 w base b pre → pre.length + N ≤ 1000000000 → base ≤ w.heap.size → Hid (out = pre ++ enc (.mk 3 n s l)) →
 Calls Tryz.prog 161 #[b, .agg #[.int .i64 3, .int .i64 n, .string s, .slice oa l.length cap], .pointer (some ⟨tb, 0, none⟩)] w (NumPost base b out w)
set_option maxRecDepth 100000 in
set_option maxHeartbeats 400000 in
theorem write3_step (N : Nat) (hN : N ≤ 50000000) (ih : ∀ M, M < N → W3Said M) : W3Said N := by
 intro l hf hsz base tb G b pre n s oa cap w out hl hw hown hpre hbase hout
 have hll := szs_len l
 have hb0 : ∀ g, b.ownBlock = some g → g < w.heap.size := fun g hg => (hown.lt g hg).2
 have hown1 := hown.alloc (.cells #[.int .i64 3, .int .i64 n, .string s, .slice oa l.length cap] 80)
 have hne : some w.heap.size ≠ b.ownBlock := fun h => by have := hb0 _ h.symm; omega
 have HL := Lib.hid hl; have HF := Lib.hid hf; have HW := Lib.hid hw; have IH := Lib.hid ih
 clear hl hf hw ih
 have hwl : IntKind.u64.wrap (l.length : Int) = (l.length : Int) := by rw [IntKind.wrap_u64]; omega
 go_enter Tryz.func161, Tryz.ntmps161
 go_wp2
 go_region_held3 (fun w' => w'.cell? ⟨w.heap.size, 3, none⟩ = some (.slice oa l.length cap)) (first | go_keep | exact cell_grown (row := b.ownBlock) (by assumption) (by simp) hne)
  (first
   | (go_at_call 158; refine (numeral_any base v' (pre ++ [3]) l.length ?d0 _ ho2 ?d1 ?d2).mono ?_
      case d0 => show l.length < _; omega
      case d1 => simp; omega
      case d2 => have := hg2.size; simp at this; omega
      rintro e w2 ⟨v2, rfl, ho3, hg3, hn3⟩
      have hg4 := grown_trans hg2 hg3 hn2)
   | (refine step_append_1 (e := 5) Tryz.underlying50 (by kernel_rfl) rfl _ _ rfl base b pre rfl ?own _ 3 3 rfl ?c1 rfl ?c2 ?c3 ?_
      case own => exact (hown1.alloc _).drew
      case c1 => simp
      case c2 => omega
      case c3 => simp; omega
      intro v' w1 ho2 hg2 hn2))
 have c3 : w2.cell? ⟨w.heap.size, 3, none⟩ = some (.slice oa l.length cap) := cell_grown (row := b.ownBlock) hg4 (by simp) hne
 have hg5 : w.grownBy w2 b.ownBlock := grown_trans (grown_drew (grown_alloc (grown_alloc (grown_refl w _) _) _)) hg4 (.inl rfl)
 have hn5 : Next w b v2 := by
  have h8 := hg2.size; simp at h8
  exact Next.trans (Next.trans (Next.refl w b) (by simp; omega) hn2) (by omega) hn3
 have HO := Lib.hid ho3
 clear ho3 ho2 hn2 hn3 hg2 hg3 hwl
 go_wp2
 go_loopw [0, 19] (fun b' i wr => WrRel base b (pre ++ [3] ++ num l.length) l w b' i wr) (fun _ i _ => l.length - (intOf i).toNat)
 case atStart => exact ⟨0, Nat.zero_le _, rfl, by simpa [encs] using HO.out, hg5, hn5⟩
 case round =>
  obtain ⟨k, hkl, rfl, ho, hg, hn⟩ := hrel
  have hs : Hid (∀ k, k < base → wr.heap[k]? = w.heap[k]?) := fun j hj => hg.block j (by omega) (fun e => by have := (hown.lt j e.symm).1; omega)
  have hbr : base ≤ wr.heap.size := Nat.le_trans hbase hg.size
  have HO := Lib.hid ho; clear ho
  have hlen5 : (num l.length).length ≤ 10 := numF_len 9 l.length
  by_cases hlt : k < l.length
  case neg =>
   have hkk : Hid (l.take k = l) := List.take_of_length_le (by omega)
   go_wp2
   go_ret
   exact ⟨_, rfl, by rw [hout.out, enc_3]; have := HO.out; rw [hkk.out] at this; simpa using this, hg, hn⟩
  case pos =>
   obtain ⟨x, hx'⟩ : ∃ x, l[k]? = some x := ⟨l[k], by simp [hlt]⟩
   have Hx := Lib.hid hx'; clear hx'
   obtain ⟨c, o, xo, xc, rfl, hcb, c0, c1, c2, c3', hrd⟩ := HL.out.elemB hs.out Hx.out
   have hsx := szs_get Hx.out
   have hfx := fms_get HF.out Hx.out
   have hex := encs_len_take Hx.out
   obtain ⟨htb, hgb, hv0, hv1, hv2, hv3⟩ := HW.out.keep (Nat.le_refl _) hs.out
   have hne9 : some wr.heap.size ≠ u0.ownBlock := fun e => by have := (HO.out.lt _ e.symm).2; omega
   have hb1 : ∀ g, u0.ownBlock = some g → g < wr.heap.size := fun g hg => (HO.out.lt g hg).2
   have hneT : some tb ≠ u0.ownBlock := fun e => by have := (HO.out.lt _ e.symm).1; omega
   have hneG : some G ≠ u0.ownBlock := fun e => by have := (HO.out.lt _ e.symm).1; omega
   have ne0 := World.new_ne wr _ hv0
   have ne1 := World.new_ne wr _ hv1
   rcases fm_kind hfx with hk | hk | hk
   · rw [hk] at c0 hrd
     go_wp2
     go_region_held3 (fun w' => w'.cell? ⟨tb, 0, none⟩ = some (.pointer (some ⟨G, 0, none⟩)) ∧ w'.cell? ⟨G, 1, none⟩ = some (.func (.func 157) #[] #[]) ∧ w'.cell? ⟨wr.heap.size, 0, none⟩ = some (.int .i64 1) ∧
      w'.cell? ⟨wr.heap.size, 1, none⟩ = some (.int .i64 x.n) ∧ w'.cell? ⟨wr.heap.size, 2, none⟩ = some (.string x.s) ∧ w'.cell? ⟨wr.heap.size, 3, none⟩ = some (.slice xo x.l.length xc))
      (first | go_keep | exact ⟨cell_grown (row := u0.ownBlock) hg9 (by simp [*]) hneT, cell_grown (row := u0.ownBlock) hg9 (by simp [*]) hneG,
       cell_grown (row := u0.ownBlock) hg9 (by simp) hne9, cell_grown (row := u0.ownBlock) hg9 (by simp) hne9, cell_grown (row := u0.ownBlock) hg9 (by simp) hne9, cell_grown (row := u0.ownBlock) hg9 (by simp) hne9⟩)
      (first
       | (go_at_call 157; refine (write1_any base u0 (pre ++ [3] ++ num l.length ++ encs (l.take k)) x.n hrd.2.1 x.s _ _ (HO.out.alloc _).drew ?d1 ?d2 (pre ++ [3] ++ num l.length ++ encs (l.take k) ++ enc x) ?d3).mono ?_
          case d1 => simp; omega
          case d2 => simp; omega
          case d3 => show _ = _; rw [enc_k1 x hk]
          rintro e w9 ⟨v9, rfl, ho9, hg9, hn9⟩))
     go_wp2
     go_roundw
     case rel => exact ⟨k + 1, by omega, by go_num, by rw [encs_take Hx.out, ← List.append_assoc]; exact ho9, grown_trans hg (grown_trans (grown_drew (grown_alloc (grown_refl wr _) _)) hg9 (.inl rfl)) hn, Next.trans (Next.trans hn hg.size (Next.refl wr u0)) (by have := hg.size; simp; omega) hn9⟩
     case measure => simp [intOf]; omega
   · rw [hk] at c0 hrd
     go_wp2
     go_region_held3 (fun w' => w'.cell? ⟨tb, 0, none⟩ = some (.pointer (some ⟨G, 0, none⟩)) ∧ w'.cell? ⟨G, 2, none⟩ = some (.func (.func 160) #[] #[]) ∧ w'.cell? ⟨wr.heap.size, 0, none⟩ = some (.int .i64 2) ∧
      w'.cell? ⟨wr.heap.size, 1, none⟩ = some (.int .i64 x.n) ∧ w'.cell? ⟨wr.heap.size, 2, none⟩ = some (.string x.s) ∧ w'.cell? ⟨wr.heap.size, 3, none⟩ = some (.slice xo x.l.length xc))
      (first | go_keep | exact ⟨cell_grown (row := u0.ownBlock) hg9 (by simp [*]) hneT, cell_grown (row := u0.ownBlock) hg9 (by simp [*]) hneG,
       cell_grown (row := u0.ownBlock) hg9 (by simp) hne9, cell_grown (row := u0.ownBlock) hg9 (by simp) hne9, cell_grown (row := u0.ownBlock) hg9 (by simp) hne9, cell_grown (row := u0.ownBlock) hg9 (by simp) hne9⟩)
      (first
       | (go_at_call 160; refine (write2_any base u0 (pre ++ [3] ++ num l.length ++ encs (l.take k)) x.n x.s _ _ (HO.out.alloc _).drew ?d1 ?d4 ?d2 (pre ++ [3] ++ num l.length ++ encs (l.take k) ++ enc x) ?d3).mono ?_
          case d1 => simp; omega
          case d4 => have := sz_s x; omega
          case d2 => simp; omega
          case d3 => show _ = _; rw [enc_k2 x hk]
          rintro e w9 ⟨v9, rfl, ho9, hg9, hn9⟩))
     go_wp2
     go_roundw
     case rel => exact ⟨k + 1, by omega, by go_num, by rw [encs_take Hx.out, ← List.append_assoc]; exact ho9, grown_trans hg (grown_trans (grown_drew (grown_alloc (grown_refl wr _) _)) hg9 (.inl rfl)) hn, Next.trans (Next.trans hn hg.size (Next.refl wr u0)) (by have := hg.size; simp; omega) hn9⟩
     case measure => simp [intOf]; omega
   · rw [hk] at c0 hrd
     go_wp2
     go_region_held3 (fun w' => w'.cell? ⟨tb, 0, none⟩ = some (.pointer (some ⟨G, 0, none⟩)) ∧ w'.cell? ⟨G, 3, none⟩ = some (.func (.func 161) #[] #[.pointer (some ⟨tb, 0, none⟩)]) ∧ w'.cell? ⟨wr.heap.size, 0, none⟩ = some (.int .i64 3) ∧
      w'.cell? ⟨wr.heap.size, 1, none⟩ = some (.int .i64 x.n) ∧ w'.cell? ⟨wr.heap.size, 2, none⟩ = some (.string x.s) ∧ w'.cell? ⟨wr.heap.size, 3, none⟩ = some (.slice xo x.l.length xc))
      (first | go_keep | exact ⟨cell_grown (row := u0.ownBlock) hg9 (by simp [*]) hneT, cell_grown (row := u0.ownBlock) hg9 (by simp [*]) hneG,
       cell_grown (row := u0.ownBlock) hg9 (by simp) hne9, cell_grown (row := u0.ownBlock) hg9 (by simp) hne9, cell_grown (row := u0.ownBlock) hg9 (by simp) hne9, cell_grown (row := u0.ownBlock) hg9 (by simp) hne9⟩)
      (first
       | (go_at_call 161; refine (IH.out (szs x.l) ?d5 x.l (fm_l x hk hfx) (Nat.le_refl _) base tb G u0 (pre ++ [3] ++ num l.length ++ encs (l.take k)) x.n x.s xo xc _ (pre ++ [3] ++ num l.length ++ encs (l.take k) ++ enc x) ?d6 ?d7 (HO.out.alloc _).drew ?d1 ?d2 ?d3).mono ?_
          case d5 => have := sz_l x; omega
          case d6 => exact SlV.keep hrd.sl (Nat.le_refl _) (fun j hj => Below.heap_alloc wr _ j (by omega))
          case d7 => exact (HW.out.keep (Nat.le_refl _) hs.out).keep (Nat.le_refl _) (fun j hj => Below.heap_alloc wr _ j (by omega))
          case d1 => have := sz_l x; simp; omega
          case d2 => simp; omega
          case d3 => show _ = _; rw [enc_k3 x hk]
          rintro e w9 ⟨v9, rfl, ho9, hg9, hn9⟩))
     go_wp2
     go_roundw
     case rel => exact ⟨k + 1, by omega, by go_num, by rw [encs_take Hx.out, ← List.append_assoc]; exact ho9, grown_trans hg (grown_trans (grown_drew (grown_alloc (grown_refl wr _) _)) hg9 (.inl rfl)) hn, Next.trans (Next.trans hn hg.size (Next.refl wr u0)) (by have := hg.size; simp; omega) hn9⟩
     case measure => simp [intOf]; omega
theorem write3_any (N : Nat) (hN : N ≤ 50000000) : W3Said N := by
 induction N using Nat.strongRecOn with
 | _ N ih => exact write3_step N hN fun M hM => ih M hM (by omega)
end Go.Proofs.YtdblnbnofjggnaaGreatDoor
