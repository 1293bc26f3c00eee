/- the law's hashed: what is hashed for the leaf of an opening. -/
import Derived.Test.YtbonebmboolemaaDoorK33
import Derived.Test.YtbonebmboolemaaDoorK34
namespace Go.Proofs.YtbonebmboolemaaDoor
open Go.RowKit
theorem ob_bts {w : World} {g : Nat} {r : Ob} {t : TypeId} (h : CB w g t r.cells) : BtsAt w.heap.size w r.salt.1 (.slice (some ⟨g, 4, none⟩) 32 32) := by
  have hr := (ob_cell h).2.2.2.2.1
  refine BtsAt.mk' r.salt.2.symm (by rw [r.salt.2]; exact Nat.le_refl _) (by unfold maxLen; omega) h.lt fun j c hj => ?_
  exact hr j _ (by simp [bcells, hj])
theorem fill_tail {place : Nat → Option (Nat × Nat)} : ∀ (parts : List (Nat × Value)) (off : Nat) (A : Array Value), SeqP place off parts → off + (flatC parts).length ≤ A.size →
    ∃ A', Instr.fill place A parts = some A' ∧ A'.size = A.size ∧ (∀ k, k < off → A'[k]? = A[k]?) ∧ (∀ k, k < (flatC parts).length → A'[off + k]? = (flatC parts)[k]?) ∧ ∀ k, off + (flatC parts).length ≤ k → A'[k]? = A[k]?
  | [], off, A, _, hn => ⟨A, rfl, rfl, fun _ _ => rfl, fun k hk => by simp [flatC] at hk, fun _ _ => rfl⟩
  | (i, v) :: r, off, A, h, hn => by
    obtain ⟨h1, h2⟩ := h
    have hf : flatC ((i, v) :: r) = v.cells.toList ++ flatC r := by unfold flatC; rw [List.flatMap_cons]
    rw [hf, List.length_append, Array.length_toList] at hn
    obtain ⟨g1, g2⟩ := Great.foldl_set off v.cells.toList 0 A
    have hz : (v.cells.toList.zipIdx 0).foldl (fun cs (x : Value × Nat) => cs.setIfInBounds (off + x.2) x.1) A = v.cells.zipIdx.foldl (fun cs (x : Value × Nat) => cs.setIfInBounds (off + x.2) x.1) A := by
      rw [← Array.foldl_toList, Array.toList_zipIdx]
    rw [hz] at g1 g2
    obtain ⟨A', e1, e2, e3, e4, e5⟩ := fill_tail r (off + v.cells.size) (v.cells.zipIdx.foldl (fun cs (x : Value × Nat) => cs.setIfInBounds (off + x.2) x.1) A) h2 (by rw [g1]; omega)
    refine ⟨A', ?_, e2.trans g1, fun k hk => ?_, fun k hk => ?_, fun k hk => ?_⟩
    · have hc : ¬ ((decide (v.cells.size ≠ v.cells.size) || decide (off + v.cells.size > A.size)) = true) := by simp; omega
      simp only [Instr.fill, h1]
      rw [if_neg hc]
      exact e1
    · rw [e3 k (by omega), g2 k, if_neg (by omega)]
    · rw [hf] at hk ⊢
      rw [List.length_append, Array.length_toList] at hk
      by_cases hk2 : k < v.cells.size
      · rw [List.getElem?_append_left (by simpa using hk2), e3 (off + k) (by omega), g2, if_pos (by simp; omega)]
        rw [show off + k - (off + 0) = k by omega]
      · rw [List.getElem?_append_right (by simpa using hk2), Array.length_toList, ← e4 _ (by omega), show off + v.cells.size + (k - v.cells.size) = off + k by omega]
    · rw [hf, List.length_append, Array.length_toList] at hk
      rw [e5 k (by omega), g2 k, if_neg (by simp; omega)]
theorem ob_zero_tail : ((Tryd.prog.info? 36).bind (·.zero)).map (fun z => (z.cells.size, z.cells[36]?)) = some (37, some (.slice none 0 0)) := by kernel_rfl
/-- an opening's literal without a path -/
theorem ob_built5 (a f n c : Int) (s : Dg) : Tryd.prog.built 36 [(0, .int .i64 a), (1, .int .i64 f), (2, .int .i64 n), (3, .int .i64 c), (4, dv s.1)] = some (Ob.cells ⟨a, f, n, c, s, none, 0, 0⟩).toArray := by
  have hp := ob_places
  have hz := ob_zero_tail
  have h : (dv s.1).cells.size = 32 := by show (bcells s.1).toArray.size = 32; rw [List.size_toArray, bcells_length, s.2]
  have hs : SeqP ([(0, 1), (1, 1), (2, 1), (3, 1), (4, 32), (36, 1)].toArray[·]?) 0 [(0, .int .i64 a), (1, .int .i64 f), (2, .int .i64 n), (3, .int .i64 c), (4, dv s.1)] := ⟨rfl, rfl, rfl, rfl, by rw [h]; rfl, trivial⟩
  have hfl : flatC [(0, .int .i64 a), (1, .int .i64 f), (2, .int .i64 n), (3, .int .i64 c), (4, dv s.1)] = .int .i64 a :: .int .i64 f :: .int .i64 n :: .int .i64 c :: bcells s.1 := by simp [flatC, dv, Value.cells]
  have hll : (bcells s.1).length = 32 := by rw [bcells_length, s.2]
  unfold placesOf at hp
  unfold Program.built
  cases hi : Tryd.prog.info? 36 with
  | none => rw [hi] at hz; cases hz
  | some it =>
    rw [hi] at hz
    cases hu : Tryd.prog.underlying 36 with
    | none => rw [hu] at hp; cases hp
    | some d =>
      rw [hu] at hp
      cases d with
      | struct fields =>
        cases hzz : it.zero with
        | none => simp [hzz] at hz
        | some z =>
          simp only [Option.bind_some, hzz, Option.map_some, Option.some.injEq, Prod.mk.injEq] at hz
          obtain ⟨A', e1, e2, -, e4, e5⟩ := fill_tail _ 0 z.cells hs (by rw [hfl, hz.1]; simp [hll])
          simp only [hzz, hp, e1, Option.some.injEq]
          apply Array.ext_getElem?
          intro k
          rw [hfl] at e4 e5
          simp only [List.length_cons, hll] at e4 e5
          show A'[k]? = (Ob.cells ⟨a, f, n, c, s, none, 0, 0⟩).toArray[k]?
          have hc : Ob.cells ⟨a, f, n, c, s, none, 0, 0⟩ = (.int .i64 a :: .int .i64 f :: .int .i64 n :: .int .i64 c :: bcells s.1) ++ [.slice none 0 0] := rfl
          have hR : (Ob.cells ⟨a, f, n, c, s, none, 0, 0⟩).toArray[k]? = (Ob.cells ⟨a, f, n, c, s, none, 0, 0⟩)[k]? := by simp
          rw [hR, hc]
          rcases Nat.lt_or_ge k 36 with h1 | h1
          · have := e4 k h1
            rw [Nat.zero_add] at this
            rw [this, List.getElem?_append_left (by simp only [List.length_cons, hll]; exact h1)]
          · rw [e5 k (by omega), List.getElem?_append_right (by simp only [List.length_cons, hll]; exact h1)]
            simp only [List.length_cons, hll]
            rcases Nat.lt_or_ge k 37 with h2 | h2
            · obtain rfl : k = 36 := by omega
              rw [hz.2]; rfl
            · rw [Array.getElem?_eq_none (by omega), List.getElem?_eq_none (by simp; omega)]
      | _ => cases hp
structure HdRel (xs : List Int) (r : Ob) (w : World) (i : Value) (wr : World) : Prop where
  h : ∃ (k : Nat) (v : Value), k ≤ xs.length ∧ i = .int .i64 (k : Int) ∧ Below w.heap.size w wr ∧ CB wr w.heap.size 36 r.cells ∧ CB wr (w.heap.size + 1) 74 [.int .i64 3, .int .i64 0, .string ⟨#[]⟩, v] ∧ CB wr (w.heap.size + 2) 3 (nuK.flat xs) ∧ OwnK ivK 74 wr (w.heap.size + 3) v (xs.take k)
set_option maxRecDepth 100000 in
set_option maxHeartbeats 4000000 in
theorem hashed_any (o : Opn) (r : Ob) (w : World) (hr : OpR w o r) (hI : OpI o) :
    Calls Tryd.prog 24 #[r.v] w fun e w' => ∃ v, e = .returned v ∧ BtsAt w'.heap.size w' (hashedX o) v ∧ Below w.heap.size w w' := by
  have hI4 := hI.four
  obtain ⟨oa, of, os, oc, osl, op⟩ := o
  have Hsal : Hid (r.salt = osl) := hr.salt
  have h0 : CB ((w.alloc (bO r)).alloc (.cells #[.int .i64 3, .int .i64 0, .string ⟨#[]⟩, .slice none 0 0] 74)) w.heap.size 36 r.cells := (cb_one w (bO r) _ _ rfl).alloc _
  have h1 : CB ((w.alloc (bO r)).alloc (.cells #[.int .i64 3, .int .i64 0, .string ⟨#[]⟩, .slice none 0 0] 74)) (w.heap.size + 1) 74 [.int .i64 3, .int .i64 0, .string ⟨#[]⟩, .slice none 0 0] := by
    have := cb_one (w.alloc (bO r)) (.cells #[.int .i64 3, .int .i64 0, .string ⟨#[]⟩, .slice none 0 0] 74) _ [.int .i64 3, .int .i64 0, .string ⟨#[]⟩, .slice none 0 0] rfl
    rw [World.size_alloc] at this; exact this
  have hb : Below w.heap.size w ((w.alloc (bO r)).alloc (.cells #[.int .i64 3, .int .i64 0, .string ⟨#[]⟩, .slice none 0 0] 74)) := (b_al (w := w) (bO r)).alloc (b_al (w := w) (bO r)).size _
  have hs : ((w.alloc (bO r)).alloc (.cells #[.int .i64 3, .int .i64 0, .string ⟨#[]⟩, .slice none 0 0] 74)).heap.size = w.heap.size + 2 := by rw [World.size_alloc, World.size_alloc]
  obtain ⟨c0, c1, c2, c3, -, -⟩ := ob_cell h0
  rw [hr.air] at c0; rw [hr.fl] at c1; rw [hr.slot] at c2; rw [hr.cost] at c3
  change _ = some (Value.int .i64 oa) at c0
  change _ = some (Value.int .i64 of) at c1
  change _ = some (Value.int .i64 os) at c2
  change _ = some (Value.int .i64 oc) at c3
  change ∀ x ∈ [oa, of, os, oc], I64 x at hI4
  have HI := Lib.hid hI4; have H0 := Lib.hid h0; have H1 := Lib.hid h1; have HB := Lib.hid hb; have HS := Lib.hid hs
  change Calls _ _ _ _ fun e w' => ∃ v, e = .returned v ∧ BtsAt w'.heap.size w' (osl.1 ++ enc (lsI [oa, of, os, oc])) v ∧ Below w.heap.size w w'
  obtain ⟨xs, hxs⟩ : ∃ xs, Hid ([oa, of, os, oc] = xs) := ⟨_, Lib.hid rfl⟩
  rw [hxs.out]
  clear hI hI4 hr h0 h1 hb hs
  change Calls Tryd.prog 24 #[.agg r.cells.toArray] w _
  go_enter Tryd.func24, Tryd.ntmps24
  go_upto_region 1 with fail
  go_upto_region 2 with fail
  change Code.wp _ _ _ _ ((w.alloc (bO r)).alloc (.cells #[.int .i64 3, .int .i64 0, .string ⟨#[]⟩, .slice none 0 0] 74))
  generalize (w.alloc (bO r)).alloc (.cells #[.int .i64 3, .int .i64 0, .string ⟨#[]⟩, .slice none 0 0] 74) = w0 at *
  have hb2 := b_al (w := w0) (.cells #[.int .i64 oa, .int .i64 of, .int .i64 os, .int .i64 oc] 3)
  have hcb : Hid (CB (w0.alloc (.cells #[.int .i64 oa, .int .i64 of, .int .i64 os, .int .i64 oc] 3)) (w.heap.size + 2) 3 (nuK.flat [oa, of, os, oc])) := by
    have := cb_one w0 (.cells #[.int .i64 oa, .int .i64 of, .int .i64 os, .int .i64 oc] 3) 3 (nuK.flat [oa, of, os, oc]) rfl
    rw [HS.out] at this; exact this
  have H02 := Lib.hid (H0.out.ext hb2); have H12 := Lib.hid (H1.out.ext hb2); have HB2 := Lib.hid (below_ext HB.out hb2)
  have hS0 := HS.out
  clear hb2 H0 H1 HB HS
  go_wp2_with fail
  clear hS0 c0 c1 c2 c3
  generalize w0.alloc (.cells #[.int .i64 oa, .int .i64 of, .int .i64 os, .int .i64 oc] 3) = w1 at *
  rw [hxs.out] at HI hcb
  have hn4 : xs.length = 4 := by rw [← hxs.out]; rfl
  have Hn4 := Lib.hid hn4
  clear hxs
  go_loopw [19] (fun i wr => HdRel xs r w i wr) (fun i _ => xs.length - (natOf i))
  case atStart => exact ⟨⟨0, _, by omega, rfl, HB2.out, H02.out, H12.out, hcb.out, OwnK.nil _ _ _⟩⟩
  case round =>
    obtain ⟨k, v, hk, rfl, hb, h0, hc, hi, hO⟩ := hrel.h
    have HB := Lib.hid hb; have HC := Lib.hid hc; have HO := Lib.hid hO; have K0 := Lib.hid h0; have KI := Lib.hid hi
    clear hb hc hO h0 hi hrel H02 H12 HB2 hcb
    obtain ⟨ov, cv, rfl, _⟩ := HO.out.rd.shape
    have hlen : (xs.take k).length = k := by rw [List.length_take, Nat.min_eq_left hk]
    by_cases hlt : k < xs.length
    · have tj : decide ((k : Int) < 4) = true := by simp; omega
      have tj' : decide (k < 4) = true := by simp; omega
      have kb : (k : Int) < 4 := by omega
      obtain ⟨x, hx⟩ : ∃ x, xs[k]? = some x := ⟨_, List.getElem?_eq_getElem hlt⟩
      have c0 := (ls_block (K := nuK) 4 KI.out hn4 (by unfold maxLen; omega))
      have c0 : wr.cell? ⟨w.heap.size + 2, k, none⟩ = some (.int .i64 x) := by
        have h1 := KI.out.cell k
        rw [h1]
        have : (nuK.flat xs)[k]? = some (.int .i64 x) := by
          have h2 := nuK.flat_drop (l := xs) (i := k) (by omega) (j := 0) (u := .int .i64 x) (by
            rw [List.drop_eq_getElem_cons hlt, show xs[k] = x by have := List.getElem?_eq_getElem hlt; rw [hx] at this; injection this with this; exact this.symm, EK.flat_cons]; rfl)
          simpa [nuK] using h2
        exact this
      have hts := Lib.hid (take_snocI hx)
      have Hlen := Lib.hid hlen
      generalize hxs : xs.take k = ys at *
      have v3 : wr.cell? ⟨w.heap.size + 1, 3, none⟩ = some (.slice ov ys.length cv) := HC.out.cell 3
      have hgl := Lib.hid (KI.out.lt)
      have hn : Hid (OwnK ivK 74 (wr.alloc (.cells #[.int .i64 1, .int .i64 x, .string ⟨#[]⟩, .slice none 0 0] 74)) (w.heap.size + 3) (.slice ov ys.length cv) ys) := HO.out.alloc _
      have hsrc : Hid (Src Tryd.prog 4 72 (.slice (some ⟨wr.heap.size, 0, none⟩) 1 1) 1 (ivK.flat [x]) (wr.alloc (.cells #[.int .i64 1, .int .i64 x, .string ⟨#[]⟩, .slice none 0 0] 74))) := src_el (K := ivK) (a := x) Tryd.underlying72 (CB.new wr _ _)
      have hB4 := Lib.hid (HB.out.alloc HB.out.size (.cells #[.int .i64 1, .int .i64 x, .string ⟨#[]⟩, .slice none 0 0] 74))
      have hC4 := Lib.hid (HC.out.alloc (.cells #[.int .i64 1, .int .i64 x, .string ⟨#[]⟩, .slice none 0 0] 74))
      have h04 := Lib.hid (K0.out.alloc (.cells #[.int .i64 1, .int .i64 x, .string ⟨#[]⟩, .slice none 0 0] 74))
      have hI4 := Lib.hid (KI.out.alloc (.cells #[.int .i64 1, .int .i64 x, .string ⟨#[]⟩, .slice none 0 0] 74))
      have hg4 := Lib.hid (show w.heap.size + 3 ≤ (wr.alloc (.cells #[.int .i64 1, .int .i64 x, .string ⟨#[]⟩, .slice none 0 0] 74)).heap.size by have := hgl.out; rw [World.size_alloc]; omega)
      have hk16 := Lib.hid (show k ≤ 16 by omega)
      clear hlen hx hxs
      go_wp2_with (at_builtin; go_loud (
        refine wpList_append_x (e := 74) (z := (.agg #[.int .i64 0, .int .i64 0, .string ⟨#[]⟩, .slice none 0 0])) (size := 4) (bytes := 56) Tryd.underlying72 v_info rfl rfl _ _ rfl (w.heap.size + 3) _ ys.length (ivK.flat ys) rfl hn.out _ 1 (ivK.flat [x]) rfl hsrc.out (by have := Hlen.out; have := hk16.out; unfold maxLen; omega) (by have := Hlen.out; have := hk16.out; omega) hg4.out ?_
        intro v5 w5 ho5 hg5 hn5
        have HO5 : Hid (OwnK ivK 74 w5 (w.heap.size + 3) v5 (ys ++ [x])) := OwnK.append (K := ivK) ho5 (by simp)
        have HC5 := Lib.hid (hC4.out.keep (hg5.block _ hC4.out.lt (fun e => by have := (hn.out.lt _ e.symm).1; omega)))
        have K05 := Lib.hid (h04.out.keep (hg5.block _ h04.out.lt (fun e => by have := (hn.out.lt _ e.symm).1; omega)))
        have KI5 := Lib.hid (hI4.out.keep (hg5.block _ hI4.out.lt (fun e => by have := (hn.out.lt _ e.symm).1; omega)))
        have HB5 := Lib.hid (own_belowK hB4.out hn.out hg5)
        have y3 : w5.cell? ⟨w.heap.size + 1, 3, none⟩ = some (.slice ov ys.length cv) := HC5.out.cell 3
        have z3 : w5.frozen? ⟨w.heap.size + 1, 3, none⟩ = false := HC5.out.frozen _
        obtain ⟨o6, c6, hv5, _⟩ := HO5.out.rd.shape
        have hl6 : (ys ++ [x]).length = k + 1 := (by simp [Hlen.out])
        rw [hl6] at hv5
        subst hv5
        clear ho5 hg5 hn5 hl6))
      have hno : Hid ((Value.slice o6 (k + 1) c6).ownBlock ≠ some (w.heap.size + 1)) := fun e => by have := (HO5.out.lt _ e).1; omega
      have HO6 := Lib.hid (HO5.out.far2 (i := 3) hno.out (.slice o6 (k + 1) c6))
      have HC6 := Lib.hid (HC5.out.set 3 (.slice o6 (k + 1) c6))
      have K06 := Lib.hid (K05.out.keep (Below.heap_setCell w5 ⟨w.heap.size + 1, 3, none⟩ (.slice o6 (k + 1) c6) _ (by simp)))
      have KI6 := Lib.hid (KI5.out.keep (Below.heap_setCell w5 ⟨w.heap.size + 1, 3, none⟩ (.slice o6 (k + 1) c6) _ (by simp)))
      have HB6 := Lib.hid (HB5.out.setCell (p := ⟨w.heap.size + 1, 3, none⟩) (by simp) (.slice o6 (k + 1) c6))
      go_roundw
      case rel => exact ⟨⟨k + 1, _, by omega, by go_num, HB6.out, K06.out, HC6.out, KI6.out, by rw [hts.out]; exact HO6.out⟩⟩
      case measure => simp [natOf]; omega
    · obtain rfl : k = xs.length := by omega
      have tj : decide ((xs.length : Int) < 4) = false := by rw [hn4]; decide
      rw [List.take_length] at HO HC hlen
      have v0 : wr.cell? ⟨w.heap.size + 1, 0, none⟩ = some (.int .i64 3) := HC.out.cell 0
      have v1 : wr.cell? ⟨w.heap.size + 1, 1, none⟩ = some (.int .i64 0) := HC.out.cell 1
      have v2 : wr.cell? ⟨w.heap.size + 1, 2, none⟩ = some (.string ⟨#[]⟩) := HC.out.cell 2
      have v3 : wr.cell? ⟨w.heap.size + 1, 3, none⟩ = some (.slice ov xs.length cv) := by
        have := HC.out.cell 3; simpa using this
      have hcall : Hid (Calls Tryd.prog 49 #[.agg #[.int .i64 3, .int .i64 0, .string ⟨#[]⟩, .slice ov xs.length cv]] wr (EncPost (lsI xs) wr)) :=
        encode_any (lsI xs) (by have := lsI_sz xs; omega) _ wr (iv_rd HI.out HO.out.rd)
      clear hlen hn4
      go_upto_region 8 with (go_at_call 49; refine hcall.out.mono ?_; rintro e w7 ⟨bv, rfl, hrb, hb7⟩; rw [lsI_ck] at *; rw [if_pos rfl] at hrb; have HR7 := Lib.hid hrb; have HB7 := Lib.hid hb7; clear hrb hb7)
      have K07 := Lib.hid (K0.out.ext HB7.out); have HBB := Lib.hid (below_ext HB.out HB7.out)
      clear v0 v1 v2 v3 K0 HB HC HO hcall HB7 KI
      have hm := enc_most xs (by have := Hn4.out; omega)
      obtain ⟨E, hE⟩ : ∃ E, enc (lsI xs) = E := ⟨_, rfl⟩
      rw [hE] at HR7 hm
      have Hm := Lib.hid hm; have HE := Lib.hid hE
      have Hsl := Lib.hid r.salt.2
      have HO := Lib.hid (made_own0 w7)
      have S0 := Lib.hid (SrcB.ofBts (P := Tryd.prog) (tx := 50) Tryd.underlying50 (ob_bts (K07.out.alloc (.cells #[] 5))))
      have SE := fun (w' : World) (hb : Below w7.heap.size w7 w') => (SrcB.ofRd (P := Tryd.prog) (tx := 50) Tryd.underlying50 (HR7.out.ext hb))
      have HSE := Lib.hid SE
      have hbs := Lib.hid (b_al (w := w7) (.cells #[] 5))
      clear hE hm K07 SE
      go_wp2_with (first
        | (at_builtin; go_loud (
            refine wpList_append_B (e := 5) Tryd.underlying50 (by kernel_rfl) rfl (.tmp 36) (.tmp 38) rfl w7.heap.size _ [] rfl HO.out _ r.salt.1 rfl S0.out (by simp [Hsl.out]) (by have := hbs.out.size; exact this) ?_
            intro v8 w8 ho8 hg8 hn8
            have HO8 := Lib.hid ho8
            have hlt8 := Lib.hid (fun g hg => (World.ownsRow.lt HO.out g hg).1)
            have hb8 : Below w7.heap.size w7 w8 := hbs.out.grown hg8 (by have := hbs.out.size; exact this) hlt8.out
            have HB8 := Lib.hid hb8
            have SE8 := Lib.hid (HSE.out w8 hb8)
            clear ho8 hg8 hn8 hb8 S0 HO))
        | (at_builtin; go_loud (
            refine wpList_append_B (e := 5) Tryd.underlying50 (by kernel_rfl) rfl (.tmp 39) (.tmp 40) rfl w7.heap.size _ ([] ++ r.salt.1) rfl HO8.out _ E rfl SE8.out (by have := Hsl.out; have := Hm.out; simp; omega) HB8.out.size ?_
            intro v9 w9 ho9 hg9 hn9
            have HO9 := Lib.hid ho9
            have hlt9 := Lib.hid (fun g hg => (World.ownsRow.lt HO8.out g hg).1)
            have HB9 := Lib.hid (HB8.out.grown hg9 HB8.out.size hlt9.out)
            clear ho9 hg9 hn9)))
      go_ret
      exact ⟨_, rfl, by rw [HE.out, ← Hsal.out]; exact own_bts HO9.out, below_ext HBB.out HB9.out⟩
end Go.Proofs.YtbonebmboolemaaDoor
