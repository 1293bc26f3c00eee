/- Merged: Tlf Tri Trl Tlv Trg Tcm. -/
import Derived.Test.YtbonebmboolemaaDoorK10
import Derived.Test.YtbonebmboolemaaDoorK11
import Derived.Test.YtbonebmboolemaaDoorK15
import Derived.Test.YtbonebmboolemaaDoorK17
import Derived.Test.YtbonebmboolemaaDoorK19
import Derived.Test.YtbonebmboolemaaDoorK21
import Derived.Test.YtbonebmboolemaaDoorK22
import Derived.Test.YtbonebmboolemaaDoorK27
import Derived.Test.YtbonebmboolemaaDoorK28
import Derived.Test.YtbonebmboolemaaDoorK31
/- commitment.leaf. -/
namespace Go.Proofs.YtbonebmboolemaaDoor
open Go.RowKit
theorem run_append_full {P : Program} (w : World) (t tx ty e : TypeId) (i : TypeInfo) (z : Value) (size bytes : Nat) (ht : P.underlying t = some (.slice e)) (hi : P.info? e = some i) (hz : i.zero = some z)
    (hsize : i.size = size) (hby : i.bytes = bytes) (hzs : z.cells.size = size) (g n cap : Nat) (xs : List Value) (hxl : xs.length = n * size) (hxs : ∀ j u, xs[j]? = some u → w.cell? ((⟨g, 0, none⟩ : Addr).add j) = some u) (x : Value) (m : Nat) (news : List Value) (hs : Src P size tx x m news w)
    (hg : cap < n + m) (h63 : n + m ≤ maxLen) (hbytes : (n + m) * bytes ≤ 140737488355328) :
    ∃ v' w', (Builtin.append_ #[t, tx] ty #[.slice (some ⟨g, 0, none⟩) n cap, x]).run P w = .ok v' w' ∧ w'.ownsRow w.heap.size e size v' (n + m) (xs ++ news) ∧ Below w.heap.size w w' := by
  subst hsize
  subst hby
  have hl := hs.newsLen
  have hsmall : n + m ≤ 9223372036854775807 := by simp only [maxLen] at h63; omega
  have hlen : (xs ++ news).length = (n + m) * i.size := by rw [List.length_append, hxl, hl, Nat.add_mul]
  have hold : (Builtin.firstCells i.size n (.slice (some ⟨g, 0, none⟩) n cap)).run P w.drew = .ok xs.toArray w.drew := run_firstCells_some w.drew i.size n _ n cap xs hxl (by simpa using hxs)
  have hr := run_append_grow_src (P := P) w t tx ty e i z ht hi hz (some ⟨g, 0, none⟩) n cap xs hold x m news hs hg (by omega) (growslice_fits hg hbytes)
  have hge := grownCap_ge w (n + m) cap e
  have hcm : grownCap w (n + m) cap e ≤ maxLen := grownCap_le_maxLen w (n + m) cap e h63
  refine ⟨_, _, hr, ⟨hlen, .inr ⟨w.heap.size, _, _, rfl, Nat.le_refl _, heap_alloc_new w.drew _, hge, hcm, ?_, ?_⟩⟩, ⟨rfl, rfl, rfl, by simp, fun k hk => Below.heap_alloc w.drew _ k hk⟩⟩
  · simp only [Array.size_append, List.size_toArray, size_zeroCells, hzs, hlen, ← Nat.add_mul]
    congr 1
    omega
  · simp only [Array.toList_append]
    rw [← hlen]
    exact List.take_left
theorem wpList_append_salt {w : World} {ops : Array Oper} {rest : List Oper} {o : Oper} {a : Act} {Q : Exit → Act → World → Prop} (hgd : o.guard = none) (s y : Operand) (ho : o.op = .call { callee := .builtin .append, args := #[s, y], argTypes := #[50, 50] })
    (g : Nat) (d : Dg) (hs : a.eval s = .slice (some ⟨g, 0, none⟩) 32 32) {t : TypeId} (hg : CB w g t (bcells d.1)) (x : Value) (m : List UInt8) (hx : a.eval y = x) (hsrc : SrcB Tryd.prog 50 w x m) (hm0 : 0 < m.length) (hm : m.length ≤ 100000)
    (h : ∀ v' w', OwnB 5 w' w.heap.size v' (d.1 ++ m) → Below w.heap.size w w' → wpList Tryd.prog ops Q rest (a.put o.dst v') w') : wpList Tryd.prog ops Q (o :: rest) a w := by
  refine wpList_plain hgd fun _ hK => ?_
  obtain ⟨i, hi, hz, hs1, hby⟩ := info_parts (P := Tryd.prog) (e := 5) (z := .int .u8 0) (size := 1) (bytes := 1) (by kernel_rfl)
  obtain ⟨v', w', hr, h2, h3⟩ := run_append_full (P := Tryd.prog) w 50 50 o.type 5 i (.int .u8 0) 1 1 Tryd.underlying50 hi hz hs1 hby rfl g 32 32 (bcells d.1) (by rw [bcells_length, d.2]) (fun j u hu => by rw [add0, Nat.zero_add, hg.cell]; exact hu) x m.length (bcells m) hsrc (by omega) (by unfold maxLen; omega) (by omega)
  unfold Oper.wp execOp
  simp only [ho, resolve, invoke, builtin, Sem.run_bind, Sem.run_pure, Result.andThen_ok, List.map_toArray, List.map_cons, List.map_nil, hs, hx, hr]
  refine hK _ _ (h v' w' ?_ h3)
  have hbc : bcells (d.1 ++ m) = bcells d.1 ++ bcells m := by simp [bcells]
  unfold OwnB
  rw [List.length_append, hbc, d.2]; exact h2
def costT : List UInt8 := [99, 111, 115, 116]
/-- the leaf of numbers with a salt -/
def leafX (s : Dg) (xs : List Int) : Dg := tagD costT (s.1 ++ enc (lsI xs))
structure LfRel (s : Dg) (xs : List Int) (w : World) (i : Value) (wr : World) : Prop where
  h : ∃ (k : Nat) (v : Value), k ≤ xs.length ∧ i = .int .i64 (k : Int) ∧ Below w.heap.size w wr ∧ CB wr w.heap.size 29 (bcells s.1) ∧ CB wr (w.heap.size + 1) 29 (bcells dgZ.1) ∧ CB wr (w.heap.size + 2) 74 [.int .i64 3, .int .i64 0, .string ⟨#[]⟩, v] ∧ OwnK ivK 74 wr (w.heap.size + 3) v (xs.take k)
theorem enc_pos (xs : List Int) : 0 < (enc (lsI xs)).length := by
  unfold lsI; rw [enc_3]; simp
theorem enc_most (xs : List Int) (h : xs.length ≤ 16) : (enc (lsI xs)).length ≤ 600 := by
  have h1 := enc_sz (lsI xs); have h2 := lsI_sz xs; omega
theorem take_snocI {α : Type} {l : List α} {k : Nat} {x : α} (h : l[k]? = some x) : l.take (k + 1) = l.take k ++ [x] := by
  obtain ⟨h1, h2⟩ := List.getElem?_eq_some_iff.1 h
  rw [List.take_succ_eq_append_getElem h1, h2]
set_option maxRecDepth 100000 in
set_option maxHeartbeats 4000000 in
theorem cleaf_any (s : Dg) (xs : List Int) (v : Value) (w : World) (hl : LsAt nuK w.heap.size w xs v) (hI : ∀ x ∈ xs, I64 x) (hn : xs.length ≤ 16) (hL : Laid w) :
    Calls Tryd.prog 42 #[dv s.1, v] w fun e w' => e = .returned (dv (leafX s xs).1) ∧ Below w.heap.size w w' := by
  have HI := Lib.hid hI; have HV := Lib.hid hl; have Hn := Lib.hid hn; have HL := Lib.hid hL
  obtain ⟨oa, cap, rfl, _⟩ := hl.shape
  have hrl := (leafX s xs).2
  obtain ⟨r, hr⟩ : ∃ r, (leafX s xs).1 = r := ⟨_, rfl⟩
  have Hr : Hid (tagged costT (s.1 ++ enc (lsI xs)) = r) := hr
  rw [hr] at hrl ⊢
  have Hrl := Lib.hid hrl
  have bn : (xs.length : Int) ≤ 16 := by omega
  have H0 : Hid (CB (((w.alloc (bD s)).alloc ZD).alloc (.cells #[.int .i64 3, .int .i64 0, .string ⟨#[]⟩, .slice none 0 0] 74)) w.heap.size 29 (bcells s.1)) := ((cb_one w _ _ _ rfl).alloc _).alloc _
  have H1 : Hid (CB (((w.alloc (bD s)).alloc ZD).alloc (.cells #[.int .i64 3, .int .i64 0, .string ⟨#[]⟩, .slice none 0 0] 74)) (w.heap.size + 1) 29 (bcells dgZ.1)) := by
    have := cb_one (w.alloc (bD s)) ZD _ _ rfl
    rw [World.size_alloc] at this; exact this.alloc _
  have H2 : Hid (CB (((w.alloc (bD s)).alloc ZD).alloc (.cells #[.int .i64 3, .int .i64 0, .string ⟨#[]⟩, .slice none 0 0] 74)) (w.heap.size + 2) 74 [.int .i64 3, .int .i64 0, .string ⟨#[]⟩, .slice none 0 0]) := by
    have := cb_one ((w.alloc (bD s)).alloc ZD) (.cells #[.int .i64 3, .int .i64 0, .string ⟨#[]⟩, .slice none 0 0] 74) _ [.int .i64 3, .int .i64 0, .string ⟨#[]⟩, .slice none 0 0] rfl
    rw [World.size_alloc, World.size_alloc] at this; exact this
  have HB : Hid (Below w.heap.size w (((w.alloc (bD s)).alloc ZD).alloc (.cells #[.int .i64 3, .int .i64 0, .string ⟨#[]⟩, .slice none 0 0] 74))) := by
    refine Below.alloc (Below.alloc ((Below.refl w.heap.size w).alloc (Nat.le_refl _) _) ?_ _) ?_ _ <;> simp only [World.size_alloc] <;> omega
  clear hl hI hn hL hr hrl
  change Calls Tryd.prog 42 #[.agg (bcells s.1).toArray, _] w _
  go_enter Tryd.func42, Tryd.ntmps42
  go_upto_region 1 with fail
  go_upto_region 2 with fail
  change Code.wp _ _ _ _ (((w.alloc (bD s)).alloc ZD).alloc (.cells #[.int .i64 3, .int .i64 0, .string ⟨#[]⟩, .slice none 0 0] 74))
  generalize ((w.alloc (bD s)).alloc ZD).alloc (.cells #[.int .i64 3, .int .i64 0, .string ⟨#[]⟩, .slice none 0 0] 74) = w0 at *
  go_wp2_with fail
  go_loopw [13] (fun i wr => LfRel s xs w i wr) (fun i _ => xs.length - (natOf i))
  case atStart => exact ⟨⟨0, _, by omega, rfl, HB.out, H0.out, H1.out, H2.out, OwnK.nil _ _ _⟩⟩
  case round =>
    obtain ⟨k, v, hk, rfl, hb, h0, h1, hc, hO⟩ := hrel.h
    have HB := Lib.hid hb; have HC := Lib.hid hc; have HO := Lib.hid hO; have K0 := Lib.hid h0; have K1 := Lib.hid h1
    clear hb hc hO h0 h1 hrel H0 H1 H2
    obtain ⟨ov, cv, rfl, _⟩ := HO.out.rd.shape
    have hlen : (xs.take k).length = k := by rw [List.length_take, Nat.min_eq_left hk]
    by_cases hlt : k < xs.length
    · have tj : decide ((k : Int) < (xs.length : Int)) = true := by simp; omega
      have tj' : decide (k < xs.length) = true := by simp; omega
      have kb : (k : Int) < (xs.length : Int) := by omega
      obtain ⟨x, hx⟩ : ∃ x, xs[k]? = some x := ⟨_, List.getElem?_eq_getElem hlt⟩
      obtain ⟨b, off, rfl, _, hat⟩ := (HV.out.ext HB.out).at hlt
      have c0 := hat k x hx 0 _ rfl
      have c0 : wr.cell? ⟨b, off + k, none⟩ = some (.int .i64 x) := by simpa [nuK] using c0
      have hts := Lib.hid (take_snocI hx)
      have Hlen := Lib.hid hlen
      generalize hxs : xs.take k = ys at *
      have v3 : wr.cell? ⟨w.heap.size + 2, 3, none⟩ = some (.slice ov ys.length cv) := HC.out.cell 3
      have hgl := Lib.hid (HC.out.lt)
      have hn : Hid (OwnK ivK 74 (wr.alloc (.cells #[.int .i64 1, .int .i64 x, .string ⟨#[]⟩, .slice none 0 0] 74)) (w.heap.size + 3) (.slice ov ys.length cv) ys) := HO.out.alloc _
      have hsrc : Hid (Src Tryd.prog 4 72 (.slice (some ⟨wr.heap.size, 0, none⟩) 1 1) 1 (ivK.flat [x]) (wr.alloc (.cells #[.int .i64 1, .int .i64 x, .string ⟨#[]⟩, .slice none 0 0] 74))) := src_el (K := ivK) (a := x) Tryd.underlying72 (CB.new wr _ _)
      have hB4 := Lib.hid (HB.out.alloc HB.out.size (.cells #[.int .i64 1, .int .i64 x, .string ⟨#[]⟩, .slice none 0 0] 74))
      have hC4 := Lib.hid (HC.out.alloc (.cells #[.int .i64 1, .int .i64 x, .string ⟨#[]⟩, .slice none 0 0] 74))
      have h04 := Lib.hid (K0.out.alloc (.cells #[.int .i64 1, .int .i64 x, .string ⟨#[]⟩, .slice none 0 0] 74))
      have h14 := Lib.hid (K1.out.alloc (.cells #[.int .i64 1, .int .i64 x, .string ⟨#[]⟩, .slice none 0 0] 74))
      have hg4 := Lib.hid (show w.heap.size + 3 ≤ (wr.alloc (.cells #[.int .i64 1, .int .i64 x, .string ⟨#[]⟩, .slice none 0 0] 74)).heap.size by have := hgl.out; rw [World.size_alloc]; omega)
      have hk16 := Lib.hid (show k ≤ 16 by have := Hn.out; omega)
      clear hlen hx hxs hat
      go_wp2_with (at_builtin; go_loud (
        refine wpList_append_x (e := 74) (z := (.agg #[.int .i64 0, .int .i64 0, .string ⟨#[]⟩, .slice none 0 0])) (size := 4) (bytes := 56) Tryd.underlying72 v_info rfl rfl _ _ rfl (w.heap.size + 3) _ ys.length (ivK.flat ys) rfl hn.out _ 1 (ivK.flat [x]) rfl hsrc.out (by have := Hlen.out; have := hk16.out; unfold maxLen; omega) (by have := Hlen.out; have := hk16.out; omega) hg4.out ?_
        intro v5 w5 ho5 hg5 hn5
        have HO5 : Hid (OwnK ivK 74 w5 (w.heap.size + 3) v5 (ys ++ [x])) := OwnK.append (K := ivK) ho5 (by simp)
        have HC5 := Lib.hid (hC4.out.keep (hg5.block _ hC4.out.lt (fun e => by have := (hn.out.lt _ e.symm).1; omega)))
        have K05 := Lib.hid (h04.out.keep (hg5.block _ h04.out.lt (fun e => by have := (hn.out.lt _ e.symm).1; omega)))
        have K15 := Lib.hid (h14.out.keep (hg5.block _ h14.out.lt (fun e => by have := (hn.out.lt _ e.symm).1; omega)))
        have HB5 := Lib.hid (own_belowK hB4.out hn.out hg5)
        have y3 : w5.cell? ⟨w.heap.size + 2, 3, none⟩ = some (.slice ov ys.length cv) := HC5.out.cell 3
        have z3 : w5.frozen? ⟨w.heap.size + 2, 3, none⟩ = false := HC5.out.frozen _
        obtain ⟨o6, c6, hv5, _⟩ := HO5.out.rd.shape
        have hl6 : (ys ++ [x]).length = k + 1 := (by simp [Hlen.out])
        rw [hl6] at hv5
        subst hv5
        clear ho5 hg5 hn5 hl6))
      have hno : Hid ((Value.slice o6 (k + 1) c6).ownBlock ≠ some (w.heap.size + 2)) := fun e => by have := (HO5.out.lt _ e).1; omega
      have HO6 := Lib.hid (HO5.out.far2 (i := 3) hno.out (.slice o6 (k + 1) c6))
      have HC6 := Lib.hid (HC5.out.set 3 (.slice o6 (k + 1) c6))
      have K06 := Lib.hid (K05.out.keep (Below.heap_setCell w5 ⟨w.heap.size + 2, 3, none⟩ (.slice o6 (k + 1) c6) _ (by simp)))
      have K16 := Lib.hid (K15.out.keep (Below.heap_setCell w5 ⟨w.heap.size + 2, 3, none⟩ (.slice o6 (k + 1) c6) _ (by simp)))
      have HB6 := Lib.hid (HB5.out.setCell (p := ⟨w.heap.size + 2, 3, none⟩) (by simp) (.slice o6 (k + 1) c6))
      go_roundw
      case rel => exact ⟨⟨k + 1, _, by omega, by go_num, HB6.out, K06.out, K16.out, HC6.out, by rw [hts.out]; exact HO6.out⟩⟩
      case measure => simp [natOf]; omega
    · obtain rfl : k = xs.length := by omega
      have tj : decide ((xs.length : Int) < (xs.length : Int)) = false := by simp
      rw [List.take_length] at HO HC hlen
      have v0 : wr.cell? ⟨w.heap.size + 2, 0, none⟩ = some (.int .i64 3) := HC.out.cell 0
      have v1 : wr.cell? ⟨w.heap.size + 2, 1, none⟩ = some (.int .i64 0) := HC.out.cell 1
      have v2 : wr.cell? ⟨w.heap.size + 2, 2, none⟩ = some (.string ⟨#[]⟩) := HC.out.cell 2
      have v3 : wr.cell? ⟨w.heap.size + 2, 3, none⟩ = some (.slice ov xs.length cv) := by
        have := HC.out.cell 3; simpa using this
      have hcall : Hid (Calls Tryd.prog 49 #[.agg #[.int .i64 3, .int .i64 0, .string ⟨#[]⟩, .slice ov xs.length cv]] wr (EncPost (lsI xs) wr)) :=
        encode_any (lsI xs) (by have := lsI_sz xs; have := Hn.out; omega) _ wr (iv_rd HI.out HO.out.rd)
      clear hlen
      go_upto_region 8 with (go_at_call 49; refine hcall.out.mono ?_; rintro e w7 ⟨bv, rfl, hrb, hb7⟩; rw [lsI_ck] at *; rw [if_pos rfl] at hrb; have HR7 := Lib.hid hrb; have HB7 := Lib.hid hb7; clear hrb hb7)
      have K07 := Lib.hid (K0.out.ext HB7.out); have K17 := Lib.hid (K1.out.ext HB7.out); have HBB := Lib.hid (below_ext HB.out HB7.out)
      clear v0 v1 v2 v3 K0 K1 HB HC HO hcall HB7
      have hsr := Lib.hid (SrcB.ofRd (P := Tryd.prog) (tx := 50) Tryd.underlying50 HR7.out)
      have hp := enc_pos xs; have hm := enc_most xs Hn.out
      obtain ⟨E, hE⟩ : ∃ E, enc (lsI xs) = E := ⟨_, rfl⟩
      rw [hE] at hsr hp hm Hr
      have Hp := Lib.hid hp; have Hm := Lib.hid hm
      clear hE hp hm HR7
      go_wp2_with (first
        | (at_builtin; go_loud (
            refine wpList_append_salt rfl (.tmp 30) (.tmp 31) rfl w.heap.size s rfl K07.out bv E rfl hsr.out Hp.out (by have := Hm.out; omega) ?_
            intro v8 w8 ho8 hb8
            have HO8 := Lib.hid (own_bts ho8); have HB8 := Lib.hid (below_ext HBB.out hb8); have K18 := Lib.hid (K17.out.ext hb8)
            have htg := Lib.hid (tagged_any ⟨#[99, 111, 115, 116]⟩ v8 (s.1 ++ E) w8 (by decide) (by rw [List.length_append, s.2]; have := Hm.out; omega) HO8.out (HL.out.ext HB8.out))
            clear ho8 hb8 K07 K17 HBB hsr))
        | (go_at_call 23; refine htg.out.mono ?_; go_loud (
            rintro e w9 ⟨rfl, hb9⟩
            rw [show tagged (ByteArray.data ⟨#[99, 111, 115, 116]⟩).toList (s.1 ++ E) = r from Hr.out]
            have HT : Hid (w9.heap[w.heap.size + 1]? = some (.cells (bcells dgZ.1).toArray 29 (0, 0))) := K18.out.ext hb9
            have HB9 := Lib.hid (below_ext HB8.out hb9)
            clear hb9 htg K18 HB8))
        | (with_reducible refine wpList_store_d (hgd := rfl) 29 (.tmp 4) (.tmp 33) rfl (w.heap.size + 1) r Hrl.out rfl rfl 29 _ HT.out rfl dig_sz ?_; intro w10 hc10 hg10 hz10))
      refine bodyPost_ret (v := dv r) (results_cell_row rfl _ _ (w.heap.size + 1) 29 (bcells r).toArray (0, 0) _ rfl hc10.out Tryd.underlying29 rfl (by rw [List.size_toArray, bcells_length, Hrl.out]; exact dig_sz)) rfl ?_
      exact ⟨rfl, HB9.out.grown hg10.out HB9.out.size (fun k hk => by injection hk; omega)⟩
end Go.Proofs.YtbonebmboolemaaDoor
/- the reference's Ints (printed by gen36i.py). -/
namespace Go.Proofs.YtbonebmboolemaaDoor
open Go.RowKit
theorem cell_alloc_y {W : World} {a : Addr} {v : Value} (o : Obj) (h : W.cell? a = some v) : (W.alloc o).cell? a = some v := cell_ext (b_al o) h
section
variable {P : Program} {w : World} {ops : Array Oper} {rest : List Oper} {o : Oper} {a : Act} {Q : Exit → Act → World → Prop}
theorem wpList_store_g {hgd : o.guard = none} (ty : TypeId) (x y : Operand) (ho : o.op = .store ty x y) (g : Nat) (cs : List Value) (hx : a.eval x = .pointer (some ⟨g, 0, none⟩)) (hy : a.eval y = .agg cs.toArray)
    (t : TypeId) (old : Array Value) (hg : w.heap[g]? = some (.cells old t (0, 0))) (hold : old.size = cs.length) (hi : (P.info? ty).map (·.size) = some cs.length) (h1 : cs.toArray.all (·.oneCell') = true)
    (h : ∀ w', Hid (CB w' g t cs) → Hid (w.grownBy w' (some g)) → w'.heap.size = w.heap.size → wpList P ops Q rest (a.put o.dst undef) w') : wpList P ops Q (o :: rest) a w := by
  have hsz : cs.toArray.size = cs.length := List.size_toArray
  refine wpList_store_row hgd ty x y ho g cs.toArray hx hy t old hg (by rw [hsz]; exact hi) (by rw [hsz, hold]) h1 ?_
  refine h _ (setRow_heap _ _ _ _ _ _ hg) ?_ (size_setRow _ _ _)
  exact ⟨rfl, rfl, rfl, by rw [size_setRow]; exact Nat.le_refl _, fun k hk hne => by
    have hkg : k ≠ g := fun e => hne (by rw [e])
    simp [World.setRow, Array.getElem?_modify, Ne.symm hkg]⟩
end
structure InRel (xs : List Int) (w : World) (i : Value) (wr : World) : Prop where
  h : ∃ (k : Nat) (v : Value), k ≤ xs.length ∧ i = .int .i64 (k : Int) ∧ Below w.heap.size w wr ∧ CB wr w.heap.size 74 [.int .i64 0, .int .i64 0, .string ⟨#[]⟩, .slice none 0 0] ∧ CB wr (w.heap.size + 1) 74 [.int .i64 3, .int .i64 0, .string ⟨#[]⟩, v] ∧ OwnK ivK 74 wr (w.heap.size + 2) v (xs.take k)
set_option maxRecDepth 100000 in
set_option maxHeartbeats 4000000 in
theorem ints_any (xs : List Int) (v : Value) (w : World) (hl : LsAt nuK w.heap.size w xs v) (hn : xs.length ≤ 16) :
    Calls Tryd.prog 74 #[v] w fun e w' => ∃ u, e = .returned (.agg #[.int .i64 3, .int .i64 0, .string ⟨#[]⟩, u]) ∧ LsAt ivK w'.heap.size w' xs u ∧ Below w.heap.size w w' := by
  have HV := Lib.hid hl; have Hn := Lib.hid hn
  obtain ⟨oa, cap, rfl, _⟩ := hl.shape
  have bn : (xs.length : Int) ≤ 16 := by omega
  have H1 : Hid (CB ((w.alloc (.cells #[.int .i64 0, .int .i64 0, .string ⟨#[]⟩, .slice none 0 0] 74)).alloc (.cells #[.int .i64 3, .int .i64 0, .string ⟨#[]⟩, .slice none 0 0] 74)) w.heap.size 74 [.int .i64 0, .int .i64 0, .string ⟨#[]⟩, .slice none 0 0]) := (cb_one w _ _ _ rfl).alloc _
  have H2 : Hid (CB ((w.alloc (.cells #[.int .i64 0, .int .i64 0, .string ⟨#[]⟩, .slice none 0 0] 74)).alloc (.cells #[.int .i64 3, .int .i64 0, .string ⟨#[]⟩, .slice none 0 0] 74)) (w.heap.size + 1) 74 [.int .i64 3, .int .i64 0, .string ⟨#[]⟩, .slice none 0 0]) := by
    have := cb_one (w.alloc (.cells #[.int .i64 0, .int .i64 0, .string ⟨#[]⟩, .slice none 0 0] 74)) (.cells #[.int .i64 3, .int .i64 0, .string ⟨#[]⟩, .slice none 0 0] 74) _ [.int .i64 3, .int .i64 0, .string ⟨#[]⟩, .slice none 0 0] rfl
    rw [World.size_alloc] at this; exact this
  have HB : Hid (Below w.heap.size w ((w.alloc (.cells #[.int .i64 0, .int .i64 0, .string ⟨#[]⟩, .slice none 0 0] 74)).alloc (.cells #[.int .i64 3, .int .i64 0, .string ⟨#[]⟩, .slice none 0 0] 74))) := by
    refine Below.alloc ((Below.refl w.heap.size w).alloc (Nat.le_refl _) _) ?_ _; simp only [World.size_alloc]; omega
  clear hl hn
  go_enter Tryd.func74, Tryd.ntmps74
  go_upto_region 2 with fail
  change Code.wp _ _ _ _ ((w.alloc (.cells #[.int .i64 0, .int .i64 0, .string ⟨#[]⟩, .slice none 0 0] 74)).alloc (.cells #[.int .i64 3, .int .i64 0, .string ⟨#[]⟩, .slice none 0 0] 74))
  generalize (w.alloc (.cells #[.int .i64 0, .int .i64 0, .string ⟨#[]⟩, .slice none 0 0] 74)).alloc (.cells #[.int .i64 3, .int .i64 0, .string ⟨#[]⟩, .slice none 0 0] 74) = w0 at *
  go_wp2_with fail
  go_loopw [4] (fun i wr => InRel xs w i wr) (fun i _ => xs.length - (natOf i))
  case atStart => exact ⟨⟨0, _, by omega, rfl, HB.out, H1.out, H2.out, OwnK.nil _ _ _⟩⟩
  case round =>
    obtain ⟨k, v, hk, rfl, hb, h1, hc, hO⟩ := hrel.h
    have HB := Lib.hid hb; have HC := Lib.hid hc; have HO := Lib.hid hO; have K1 := Lib.hid h1
    clear hb hc hO h1 hrel H1 H2
    obtain ⟨ov, cv, rfl, _⟩ := HO.out.rd.shape
    have hlen : (xs.take k).length = k := by rw [List.length_take, Nat.min_eq_left hk]
    by_cases hlt : k < xs.length
    · have tj : decide ((k : Int) < (xs.length : Int)) = true := by simp; omega
      have tj' : decide (k < xs.length) = true := by simp; omega
      have kb : (k : Int) < (xs.length : Int) := by omega
      obtain ⟨x, hx⟩ : ∃ x, xs[k]? = some x := ⟨_, List.getElem?_eq_getElem hlt⟩
      obtain ⟨b, off, rfl, hbw, _⟩ := HV.out.at hlt
      obtain ⟨b', off', he, _, hat⟩ := (HV.out.ext HB.out).at hlt
      obtain ⟨rfl, rfl⟩ : b = b' ∧ off = off' := by injection he with he; injection he with h1 h2 _; exact ⟨h1, h2⟩
      have hbb := Lib.hid hbw
      have c0 := hat k x hx 0 _ rfl
      have c0 : wr.cell? ⟨b, off + k, none⟩ = some (.int .i64 x) := by simpa [nuK] using c0
      have hts := Lib.hid (take_snocI hx)
      have Hlen := Lib.hid hlen
      generalize hxs : xs.take k = ys at *
      have hk16 := Lib.hid (show k ≤ 16 by have := Hn.out; omega)
      have HB0s := Lib.hid HB.out.size
      have C0 := Lib.hid c0
      clear hlen hx hxs hat he hbw c0
      go_upto_region 5 with fail
      have KB := Lib.hid HB.out.drew; have KC := Lib.hid (HC.out.ext (Below.refl wr.heap.size wr).drew); have KK := Lib.hid (K1.out.ext (Below.refl wr.heap.size wr).drew); have KO := Lib.hid (HO.out.ext (Below.refl wr.heap.size wr).drew); have KS := Lib.hid (cell_ext (Below.refl wr.heap.size wr).drew C0.out)
      refine wp_region_held_drew (S := fun w' => w'.cell? ⟨b, off + k, none⟩ = some (.int .i64 x)) (by kernel_rfl) KS.out (fun hHeld => ?_)
      clear HB HC K1 HO C0
      generalize wr.drew = w1 at *
      refine take_dst (some 12) (i := 0) (v := ?vN0) rfl rfl (by kernel_rfl) (by kernel_rfl) (by kernel_rfl) (fun _ _ _ h => h) (Or.inl ⟨by rfl, fun wS hSw => ?hyN0⟩) (by assumption) ?restN0
      case hyN0 => (obtain s1 := hSw; go_simp; first | done | with_reducible rfl)
      try simp only [Act.put, List.setIfInBounds_toArray, List.set_cons_zero, List.set_cons_succ]
      refine take_dst (some 14) (i := 2) (v := ?vN2) rfl rfl (by kernel_rfl) (by kernel_rfl) (by kernel_rfl) (fun _ _ _ h => h) (Or.inl ⟨by rfl, fun wS hSw => ?hyN2⟩) (by assumption) ?restN2
      case hyN2 => (obtain s1 := hSw; go_simp; first | done | with_reducible rfl)
      try simp only [Act.put, List.setIfInBounds_toArray, List.set_cons_zero, List.set_cons_succ]
      refine take_dst (some 15) (i := 3) (v := ?vN3) rfl rfl (by kernel_rfl) (by kernel_rfl) (by kernel_rfl) (fun _ _ _ h => h) (Or.inl ⟨by rfl, fun wS hSw => ?hyN3⟩) (by assumption) ?restN3
      case hyN3 => (obtain s1 := hSw; go_simp; first | done | with_reducible rfl)
      try simp only [Act.put, List.setIfInBounds_toArray, List.set_cons_zero, List.set_cons_succ]
      refine take_dst (some 16) (i := 4) (v := ?vN4) rfl rfl (by kernel_rfl) (by kernel_rfl) (by kernel_rfl) (fun _ _ _ h => h) (Or.inl ⟨by rfl, fun wS hSw => ?hyN4⟩) (by assumption) ?restN4
      case hyN4 => (obtain s1 := hSw; go_simp; first | done | with_reducible rfl)
      try simp only [Act.put, List.setIfInBounds_toArray, List.set_cons_zero, List.set_cons_succ]
      refine take_dst (some 17) (i := 5) (v := ?vN5) rfl rfl (by kernel_rfl) (by kernel_rfl) (by kernel_rfl) (fun _ _ _ h => h) (Or.inl ⟨by rfl, fun wS hSw => ?hyN5⟩) (by assumption) ?restN5
      case hyN5 => (obtain s1 := hSw; go_simp; first | done | with_reducible rfl)
      try simp only [Act.put, List.setIfInBounds_toArray, List.set_cons_zero, List.set_cons_succ]
      refine wpAnyH_ready (rs := [1, 6]) (by kernel_rfl) (by simp) ?_
      refine AllReadyH.cons rfl (fun K hK => ?_) (AllReadyH.cons rfl (fun K hK => ?_) AllReadyH.nil)
      · have v3 : w1.cell? ⟨w.heap.size + 1, 3, none⟩ = some (.slice ov ys.length cv) := KC.out.cell 3
        go_simp
        refine hK.out _ _ KS.out (fun hHeld => ?_)
        clear hK K v3
        try simp only [Act.put, List.setIfInBounds_toArray, List.set_cons_zero, List.set_cons_succ]
        refine wpAnyH_ready (rs := [6]) (by kernel_rfl) (by simp) ?_
        refine AllReadyH.cons rfl (fun K hK => ?_) AllReadyH.nil
        go_simp
        refine (rInt_any _ _).mono ?_
        rintro e w2 ⟨rfl, hb2⟩
        have HB2 := Lib.hid (below_ext KB.out hb2); have HC2 := Lib.hid (KC.out.ext hb2); have K12 := Lib.hid (KK.out.ext hb2); have HO2 := Lib.hid (KO.out.ext hb2); have S2 := Lib.hid (cell_ext hb2 KS.out)
        clear hb2 KB KC KK KO KS
        refine hK.out _ _ S2.out (fun hHeld => ?_)
        clear hK K
        try simp only [Act.put, List.setIfInBounds_toArray, List.set_cons_zero, List.set_cons_succ]
        refine wpAnyH_ready (rs := [7]) (by kernel_rfl) (by simp) ?_
        refine AllReadyH.cons rfl (fun K hK => ?_) AllReadyH.nil
        have hn : Hid (OwnK ivK 74 (w2.alloc (.cells #[.int .i64 1, .int .i64 x, .string ⟨#[]⟩, .slice none 0 0] 74)) (w.heap.size + 2) (.slice ov ys.length cv) ys) := HO2.out.alloc _
        have hsrc : Hid (Src Tryd.prog 4 72 (.slice (some ⟨w2.heap.size, 0, none⟩) 1 1) 1 (ivK.flat [x]) (w2.alloc (.cells #[.int .i64 1, .int .i64 x, .string ⟨#[]⟩, .slice none 0 0] 74))) := src_el (K := ivK) (a := x) Tryd.underlying72 (CB.new w2 _ _)
        have hB4 := Lib.hid (HB2.out.alloc HB2.out.size (.cells #[.int .i64 1, .int .i64 x, .string ⟨#[]⟩, .slice none 0 0] 74))
        have hC4 := Lib.hid (HC2.out.alloc (.cells #[.int .i64 1, .int .i64 x, .string ⟨#[]⟩, .slice none 0 0] 74))
        have h14 := Lib.hid (K12.out.alloc (.cells #[.int .i64 1, .int .i64 x, .string ⟨#[]⟩, .slice none 0 0] 74))
        have hs4 := Lib.hid (cell_alloc_y (.cells #[.int .i64 1, .int .i64 x, .string ⟨#[]⟩, .slice none 0 0] 74) S2.out)
        have hg4 := Lib.hid (show w.heap.size + 2 ≤ (w2.alloc (.cells #[.int .i64 1, .int .i64 x, .string ⟨#[]⟩, .slice none 0 0] 74)).heap.size by have := HC2.out.lt; rw [World.size_alloc]; omega)
        go_simp
        change K _ (w2.alloc (.cells #[.int .i64 1, .int .i64 x, .string ⟨#[]⟩, .slice none 0 0] 74))
        refine hK.out _ _ hs4.out (fun hHeld => ?_)
        clear hK K HB2 HC2 K12 HO2 S2
        try simp only [Act.put, List.setIfInBounds_toArray, List.set_cons_zero, List.set_cons_succ]
        refine wpAnyH_ready (rs := [8]) (by kernel_rfl) (by simp) ?_
        refine AllReadyH.cons rfl (fun K hK => ?_) AllReadyH.nil
        refine step_append_x (e := 74) (z := (.agg #[.int .i64 0, .int .i64 0, .string ⟨#[]⟩, .slice none 0 0])) (size := 4) (bytes := 56) Tryd.underlying72 v_info rfl rfl _ _ rfl (w.heap.size + 2) _ ys.length (ivK.flat ys) rfl hn.out _ 1 (ivK.flat [x]) rfl hsrc.out (by have := Hlen.out; have := hk16.out; unfold maxLen; omega) (by have := Hlen.out; have := hk16.out; omega) hg4.out ?_
        intro v5 w5 ho5 hg5 hn5
        have HO5 : Hid (OwnK ivK 74 w5 (w.heap.size + 2) v5 (ys ++ [x])) := OwnK.append (K := ivK) ho5 (by simp)
        have HC5 := Lib.hid (hC4.out.keep (hg5.block _ hC4.out.lt (fun e => by have := (hn.out.lt _ e.symm).1; omega)))
        have K15 := Lib.hid (h14.out.keep (hg5.block _ h14.out.lt (fun e => by have := (hn.out.lt _ e.symm).1; omega)))
        have HB5 := Lib.hid (own_belowK hB4.out hn.out hg5)
        have S5 : Hid (w5.cell? ⟨b, off + k, none⟩ = some (.int .i64 x)) := Lib.hid (by rw [World.cell?_of_block (w := _) (hg5.block b (by have := hbb.out; have := hC4.out.lt; omega) (fun e => by have := (hn.out.lt _ e.symm).1; have := hbb.out; omega))]; exact hs4.out)
        have y3 : w5.cell? ⟨w.heap.size + 1, 3, none⟩ = some (.slice ov ys.length cv) := HC5.out.cell 3
        have z3 : w5.frozen? ⟨w.heap.size + 1, 3, none⟩ = false := HC5.out.frozen _
        obtain ⟨o6, c6, hv5, _⟩ := HO5.out.rd.shape
        have hl6 : (ys ++ [x]).length = k + 1 := (by simp [Hlen.out])
        rw [hl6] at hv5
        subst hv5
        clear ho5 hg5 hn5 hl6 hn hsrc hB4 hC4 h14 hs4 hg4
        refine hK.out (Act.put _ (some 20) (.slice o6 (k + 1) c6)) w5 S5.out (fun hHeld => ?_)
        clear hK K
        try simp only [Act.put, List.setIfInBounds_toArray, List.set_cons_zero, List.set_cons_succ]
        refine take_dst (some 21) (i := 9) (v := ?vA9) rfl rfl (by kernel_rfl) (by kernel_rfl) (by kernel_rfl) (fun _ _ _ h => h) (Or.inl ⟨by rfl, fun wS hSw => ?hyA9⟩) (by assumption) ?restA9
        case hyA9 => (obtain s1 := hSw; go_simp; first | done | with_reducible rfl)
        try simp only [Act.put, List.setIfInBounds_toArray, List.set_cons_zero, List.set_cons_succ]
        refine wpAnyH_ready (rs := [10]) (by kernel_rfl) (by simp) ?_
        refine AllReadyH.cons rfl (fun K hK => ?_) AllReadyH.nil
        have hno : Hid ((Value.slice o6 (k + 1) c6).ownBlock ≠ some (w.heap.size + 1)) := fun e => by have := (HO5.out.lt _ e).1; omega
        have HO6 := Lib.hid (HO5.out.far2 (i := 3) hno.out (.slice o6 (k + 1) c6))
        have HC6 := Lib.hid (HC5.out.set 3 (.slice o6 (k + 1) c6))
        have K16 := Lib.hid (K15.out.keep (Below.heap_setCell w5 ⟨w.heap.size + 1, 3, none⟩ (.slice o6 (k + 1) c6) _ (by simp)))
        have HB6 := Lib.hid (HB5.out.setCell (p := ⟨w.heap.size + 1, 3, none⟩) (by simp) (.slice o6 (k + 1) c6))
        have S6 : Hid ((w5.setCell ⟨w.heap.size + 1, 3, none⟩ (.slice o6 (k + 1) c6)).cell? ⟨b, off + k, none⟩ = some (.int .i64 x)) := Lib.hid (by rw [World.cell?_of_block (w := w5) (Below.heap_setCell w5 ⟨w.heap.size + 1, 3, none⟩ (.slice o6 (k + 1) c6) b (by have := hbb.out; simp; omega))]; exact S5.out)
        go_simp
        refine hK.out _ _ S6.out (fun hHeld => ?_)
        clear hK K
        try simp only [Act.put, List.setIfInBounds_toArray, List.set_cons_zero, List.set_cons_succ]
        refine wpAnyH_done (by kernel_rfl) ?_ _
        go_wp2_with fail
        go_roundw
        case rel => exact ⟨⟨k + 1, _, by omega, by go_num, HB6.out, K16.out, HC6.out, by rw [hts.out]; exact HO6.out⟩⟩
        case measure => simp [natOf]; omega
      · go_simp
        refine (rInt_any _ _).mono ?_
        rintro e w2 ⟨rfl, hb2⟩
        have HB2 := Lib.hid (below_ext KB.out hb2); have HC2 := Lib.hid (KC.out.ext hb2); have K12 := Lib.hid (KK.out.ext hb2); have HO2 := Lib.hid (KO.out.ext hb2); have S2 := Lib.hid (cell_ext hb2 KS.out)
        clear hb2 KB KC KK KO KS
        refine hK.out _ _ S2.out (fun hHeld => ?_)
        clear hK K
        try simp only [Act.put, List.setIfInBounds_toArray, List.set_cons_zero, List.set_cons_succ]
        refine wpAnyH_ready (rs := [1, 7]) (by kernel_rfl) (by simp) ?_
        refine AllReadyH.cons rfl (fun K hK => ?_) (AllReadyH.cons rfl (fun K hK => ?_) AllReadyH.nil)
        · have v3 : w2.cell? ⟨w.heap.size + 1, 3, none⟩ = some (.slice ov ys.length cv) := HC2.out.cell 3
          go_simp
          refine hK.out _ _ S2.out (fun hHeld => ?_)
          clear hK K v3
          try simp only [Act.put, List.setIfInBounds_toArray, List.set_cons_zero, List.set_cons_succ]
          refine wpAnyH_ready (rs := [7]) (by kernel_rfl) (by simp) ?_
          refine AllReadyH.cons rfl (fun K hK => ?_) AllReadyH.nil
          have hn : Hid (OwnK ivK 74 (w2.alloc (.cells #[.int .i64 1, .int .i64 x, .string ⟨#[]⟩, .slice none 0 0] 74)) (w.heap.size + 2) (.slice ov ys.length cv) ys) := HO2.out.alloc _
          have hsrc : Hid (Src Tryd.prog 4 72 (.slice (some ⟨w2.heap.size, 0, none⟩) 1 1) 1 (ivK.flat [x]) (w2.alloc (.cells #[.int .i64 1, .int .i64 x, .string ⟨#[]⟩, .slice none 0 0] 74))) := src_el (K := ivK) (a := x) Tryd.underlying72 (CB.new w2 _ _)
          have hB4 := Lib.hid (HB2.out.alloc HB2.out.size (.cells #[.int .i64 1, .int .i64 x, .string ⟨#[]⟩, .slice none 0 0] 74))
          have hC4 := Lib.hid (HC2.out.alloc (.cells #[.int .i64 1, .int .i64 x, .string ⟨#[]⟩, .slice none 0 0] 74))
          have h14 := Lib.hid (K12.out.alloc (.cells #[.int .i64 1, .int .i64 x, .string ⟨#[]⟩, .slice none 0 0] 74))
          have hs4 := Lib.hid (cell_alloc_y (.cells #[.int .i64 1, .int .i64 x, .string ⟨#[]⟩, .slice none 0 0] 74) S2.out)
          have hg4 := Lib.hid (show w.heap.size + 2 ≤ (w2.alloc (.cells #[.int .i64 1, .int .i64 x, .string ⟨#[]⟩, .slice none 0 0] 74)).heap.size by have := HC2.out.lt; rw [World.size_alloc]; omega)
          go_simp
          change K _ (w2.alloc (.cells #[.int .i64 1, .int .i64 x, .string ⟨#[]⟩, .slice none 0 0] 74))
          refine hK.out _ _ hs4.out (fun hHeld => ?_)
          clear hK K HB2 HC2 K12 HO2 S2
          try simp only [Act.put, List.setIfInBounds_toArray, List.set_cons_zero, List.set_cons_succ]
          refine wpAnyH_ready (rs := [8]) (by kernel_rfl) (by simp) ?_
          refine AllReadyH.cons rfl (fun K hK => ?_) AllReadyH.nil
          refine step_append_x (e := 74) (z := (.agg #[.int .i64 0, .int .i64 0, .string ⟨#[]⟩, .slice none 0 0])) (size := 4) (bytes := 56) Tryd.underlying72 v_info rfl rfl _ _ rfl (w.heap.size + 2) _ ys.length (ivK.flat ys) rfl hn.out _ 1 (ivK.flat [x]) rfl hsrc.out (by have := Hlen.out; have := hk16.out; unfold maxLen; omega) (by have := Hlen.out; have := hk16.out; omega) hg4.out ?_
          intro v5 w5 ho5 hg5 hn5
          have HO5 : Hid (OwnK ivK 74 w5 (w.heap.size + 2) v5 (ys ++ [x])) := OwnK.append (K := ivK) ho5 (by simp)
          have HC5 := Lib.hid (hC4.out.keep (hg5.block _ hC4.out.lt (fun e => by have := (hn.out.lt _ e.symm).1; omega)))
          have K15 := Lib.hid (h14.out.keep (hg5.block _ h14.out.lt (fun e => by have := (hn.out.lt _ e.symm).1; omega)))
          have HB5 := Lib.hid (own_belowK hB4.out hn.out hg5)
          have S5 : Hid (w5.cell? ⟨b, off + k, none⟩ = some (.int .i64 x)) := Lib.hid (by rw [World.cell?_of_block (w := _) (hg5.block b (by have := hbb.out; have := hC4.out.lt; omega) (fun e => by have := (hn.out.lt _ e.symm).1; have := hbb.out; omega))]; exact hs4.out)
          have y3 : w5.cell? ⟨w.heap.size + 1, 3, none⟩ = some (.slice ov ys.length cv) := HC5.out.cell 3
          have z3 : w5.frozen? ⟨w.heap.size + 1, 3, none⟩ = false := HC5.out.frozen _
          obtain ⟨o6, c6, hv5, _⟩ := HO5.out.rd.shape
          have hl6 : (ys ++ [x]).length = k + 1 := (by simp [Hlen.out])
          rw [hl6] at hv5
          subst hv5
          clear ho5 hg5 hn5 hl6 hn hsrc hB4 hC4 h14 hs4 hg4
          refine hK.out (Act.put _ (some 20) (.slice o6 (k + 1) c6)) w5 S5.out (fun hHeld => ?_)
          clear hK K
          try simp only [Act.put, List.setIfInBounds_toArray, List.set_cons_zero, List.set_cons_succ]
          refine take_dst (some 21) (i := 9) (v := ?vB9) rfl rfl (by kernel_rfl) (by kernel_rfl) (by kernel_rfl) (fun _ _ _ h => h) (Or.inl ⟨by rfl, fun wS hSw => ?hyB9⟩) (by assumption) ?restB9
          case hyB9 => (obtain s1 := hSw; go_simp; first | done | with_reducible rfl)
          try simp only [Act.put, List.setIfInBounds_toArray, List.set_cons_zero, List.set_cons_succ]
          refine wpAnyH_ready (rs := [10]) (by kernel_rfl) (by simp) ?_
          refine AllReadyH.cons rfl (fun K hK => ?_) AllReadyH.nil
          have hno : Hid ((Value.slice o6 (k + 1) c6).ownBlock ≠ some (w.heap.size + 1)) := fun e => by have := (HO5.out.lt _ e).1; omega
          have HO6 := Lib.hid (HO5.out.far2 (i := 3) hno.out (.slice o6 (k + 1) c6))
          have HC6 := Lib.hid (HC5.out.set 3 (.slice o6 (k + 1) c6))
          have K16 := Lib.hid (K15.out.keep (Below.heap_setCell w5 ⟨w.heap.size + 1, 3, none⟩ (.slice o6 (k + 1) c6) _ (by simp)))
          have HB6 := Lib.hid (HB5.out.setCell (p := ⟨w.heap.size + 1, 3, none⟩) (by simp) (.slice o6 (k + 1) c6))
          have S6 : Hid ((w5.setCell ⟨w.heap.size + 1, 3, none⟩ (.slice o6 (k + 1) c6)).cell? ⟨b, off + k, none⟩ = some (.int .i64 x)) := Lib.hid (by rw [World.cell?_of_block (w := w5) (Below.heap_setCell w5 ⟨w.heap.size + 1, 3, none⟩ (.slice o6 (k + 1) c6) b (by have := hbb.out; simp; omega))]; exact S5.out)
          go_simp
          refine hK.out _ _ S6.out (fun hHeld => ?_)
          clear hK K
          try simp only [Act.put, List.setIfInBounds_toArray, List.set_cons_zero, List.set_cons_succ]
          refine wpAnyH_done (by kernel_rfl) ?_ _
          go_wp2_with fail
          go_roundw
          case rel => exact ⟨⟨k + 1, _, by omega, by go_num, HB6.out, K16.out, HC6.out, by rw [hts.out]; exact HO6.out⟩⟩
          case measure => simp [natOf]; omega
        · have hn : Hid (OwnK ivK 74 (w2.alloc (.cells #[.int .i64 1, .int .i64 x, .string ⟨#[]⟩, .slice none 0 0] 74)) (w.heap.size + 2) (.slice ov ys.length cv) ys) := HO2.out.alloc _
          have hsrc : Hid (Src Tryd.prog 4 72 (.slice (some ⟨w2.heap.size, 0, none⟩) 1 1) 1 (ivK.flat [x]) (w2.alloc (.cells #[.int .i64 1, .int .i64 x, .string ⟨#[]⟩, .slice none 0 0] 74))) := src_el (K := ivK) (a := x) Tryd.underlying72 (CB.new w2 _ _)
          have hB4 := Lib.hid (HB2.out.alloc HB2.out.size (.cells #[.int .i64 1, .int .i64 x, .string ⟨#[]⟩, .slice none 0 0] 74))
          have hC4 := Lib.hid (HC2.out.alloc (.cells #[.int .i64 1, .int .i64 x, .string ⟨#[]⟩, .slice none 0 0] 74))
          have h14 := Lib.hid (K12.out.alloc (.cells #[.int .i64 1, .int .i64 x, .string ⟨#[]⟩, .slice none 0 0] 74))
          have hs4 := Lib.hid (cell_alloc_y (.cells #[.int .i64 1, .int .i64 x, .string ⟨#[]⟩, .slice none 0 0] 74) S2.out)
          have hg4 := Lib.hid (show w.heap.size + 2 ≤ (w2.alloc (.cells #[.int .i64 1, .int .i64 x, .string ⟨#[]⟩, .slice none 0 0] 74)).heap.size by have := HC2.out.lt; rw [World.size_alloc]; omega)
          go_simp
          change K _ (w2.alloc (.cells #[.int .i64 1, .int .i64 x, .string ⟨#[]⟩, .slice none 0 0] 74))
          refine hK.out _ _ hs4.out (fun hHeld => ?_)
          clear hK K HB2 HC2 K12 HO2 S2
          try simp only [Act.put, List.setIfInBounds_toArray, List.set_cons_zero, List.set_cons_succ]
          refine wpAnyH_ready (rs := [1]) (by kernel_rfl) (by simp) ?_
          refine AllReadyH.cons rfl (fun K hK => ?_) AllReadyH.nil
          have v3 : (w2.alloc (.cells #[.int .i64 1, .int .i64 x, .string ⟨#[]⟩, .slice none 0 0] 74)).cell? ⟨w.heap.size + 1, 3, none⟩ = some (.slice ov ys.length cv) := hC4.out.cell 3
          go_simp
          refine hK.out _ _ hs4.out (fun hHeld => ?_)
          clear hK K v3
          try simp only [Act.put, List.setIfInBounds_toArray, List.set_cons_zero, List.set_cons_succ]
          refine wpAnyH_ready (rs := [8]) (by kernel_rfl) (by simp) ?_
          refine AllReadyH.cons rfl (fun K hK => ?_) AllReadyH.nil
          refine step_append_x (e := 74) (z := (.agg #[.int .i64 0, .int .i64 0, .string ⟨#[]⟩, .slice none 0 0])) (size := 4) (bytes := 56) Tryd.underlying72 v_info rfl rfl _ _ rfl (w.heap.size + 2) _ ys.length (ivK.flat ys) rfl hn.out _ 1 (ivK.flat [x]) rfl hsrc.out (by have := Hlen.out; have := hk16.out; unfold maxLen; omega) (by have := Hlen.out; have := hk16.out; omega) hg4.out ?_
          intro v5 w5 ho5 hg5 hn5
          have HO5 : Hid (OwnK ivK 74 w5 (w.heap.size + 2) v5 (ys ++ [x])) := OwnK.append (K := ivK) ho5 (by simp)
          have HC5 := Lib.hid (hC4.out.keep (hg5.block _ hC4.out.lt (fun e => by have := (hn.out.lt _ e.symm).1; omega)))
          have K15 := Lib.hid (h14.out.keep (hg5.block _ h14.out.lt (fun e => by have := (hn.out.lt _ e.symm).1; omega)))
          have HB5 := Lib.hid (own_belowK hB4.out hn.out hg5)
          have S5 : Hid (w5.cell? ⟨b, off + k, none⟩ = some (.int .i64 x)) := Lib.hid (by rw [World.cell?_of_block (w := _) (hg5.block b (by have := hbb.out; have := hC4.out.lt; omega) (fun e => by have := (hn.out.lt _ e.symm).1; have := hbb.out; omega))]; exact hs4.out)
          have y3 : w5.cell? ⟨w.heap.size + 1, 3, none⟩ = some (.slice ov ys.length cv) := HC5.out.cell 3
          have z3 : w5.frozen? ⟨w.heap.size + 1, 3, none⟩ = false := HC5.out.frozen _
          obtain ⟨o6, c6, hv5, _⟩ := HO5.out.rd.shape
          have hl6 : (ys ++ [x]).length = k + 1 := (by simp [Hlen.out])
          rw [hl6] at hv5
          subst hv5
          clear ho5 hg5 hn5 hl6 hn hsrc hB4 hC4 h14 hs4 hg4
          refine hK.out (Act.put _ (some 20) (.slice o6 (k + 1) c6)) w5 S5.out (fun hHeld => ?_)
          clear hK K
          try simp only [Act.put, List.setIfInBounds_toArray, List.set_cons_zero, List.set_cons_succ]
          refine take_dst (some 21) (i := 9) (v := ?vC9) rfl rfl (by kernel_rfl) (by kernel_rfl) (by kernel_rfl) (fun _ _ _ h => h) (Or.inl ⟨by rfl, fun wS hSw => ?hyC9⟩) (by assumption) ?restC9
          case hyC9 => (obtain s1 := hSw; go_simp; first | done | with_reducible rfl)
          try simp only [Act.put, List.setIfInBounds_toArray, List.set_cons_zero, List.set_cons_succ]
          refine wpAnyH_ready (rs := [10]) (by kernel_rfl) (by simp) ?_
          refine AllReadyH.cons rfl (fun K hK => ?_) AllReadyH.nil
          have hno : Hid ((Value.slice o6 (k + 1) c6).ownBlock ≠ some (w.heap.size + 1)) := fun e => by have := (HO5.out.lt _ e).1; omega
          have HO6 := Lib.hid (HO5.out.far2 (i := 3) hno.out (.slice o6 (k + 1) c6))
          have HC6 := Lib.hid (HC5.out.set 3 (.slice o6 (k + 1) c6))
          have K16 := Lib.hid (K15.out.keep (Below.heap_setCell w5 ⟨w.heap.size + 1, 3, none⟩ (.slice o6 (k + 1) c6) _ (by simp)))
          have HB6 := Lib.hid (HB5.out.setCell (p := ⟨w.heap.size + 1, 3, none⟩) (by simp) (.slice o6 (k + 1) c6))
          have S6 : Hid ((w5.setCell ⟨w.heap.size + 1, 3, none⟩ (.slice o6 (k + 1) c6)).cell? ⟨b, off + k, none⟩ = some (.int .i64 x)) := Lib.hid (by rw [World.cell?_of_block (w := w5) (Below.heap_setCell w5 ⟨w.heap.size + 1, 3, none⟩ (.slice o6 (k + 1) c6) b (by have := hbb.out; simp; omega))]; exact S5.out)
          go_simp
          refine hK.out _ _ S6.out (fun hHeld => ?_)
          clear hK K
          try simp only [Act.put, List.setIfInBounds_toArray, List.set_cons_zero, List.set_cons_succ]
          refine wpAnyH_done (by kernel_rfl) ?_ _
          go_wp2_with fail
          go_roundw
          case rel => exact ⟨⟨k + 1, _, by omega, by go_num, HB6.out, K16.out, HC6.out, by rw [hts.out]; exact HO6.out⟩⟩
          case measure => simp [natOf]; omega
    · obtain rfl : k = xs.length := by omega
      have tj : decide ((xs.length : Int) < (xs.length : Int)) = false := by simp
      rw [List.take_length] at HO HC hlen
      have v0 : wr.cell? ⟨w.heap.size + 1, 0, none⟩ = some (.int .i64 3) := HC.out.cell 0
      have v1 : wr.cell? ⟨w.heap.size + 1, 1, none⟩ = some (.int .i64 0) := HC.out.cell 1
      have v2 : wr.cell? ⟨w.heap.size + 1, 2, none⟩ = some (.string ⟨#[]⟩) := HC.out.cell 2
      have v3 : wr.cell? ⟨w.heap.size + 1, 3, none⟩ = some (.slice ov xs.length cv) := by
        have := HC.out.cell 3; simpa using this
      clear hlen
      have X1 : Hid (wr.heap[w.heap.size]? = some (.cells [Value.int .i64 0, .int .i64 0, .string ⟨#[]⟩, .slice none 0 0].toArray 74 (0, 0))) := K1.out
      go_wp2_with (go_loud (refine wpList_store_g (hgd := rfl) 74 (.tmp 2) (.tmp 22) rfl w.heap.size [.int .i64 3, .int .i64 0, .string ⟨#[]⟩, .slice ov xs.length cv] rfl rfl 74 _ X1.out rfl (by kernel_rfl) (by simp [Value.oneCell']) ?_; intro w7 hc7 hg7 hz7))
      have HR7 := Lib.hid ((HO.out.keepR hg7.out (.inr (HO.out.far (by omega)))).rd)
      have HB7 := Lib.hid (HB.out.grown hg7.out HB.out.size (fun k hk => by injection hk; omega))
      refine bodyPost_ret (v := .agg #[.int .i64 3, .int .i64 0, .string ⟨#[]⟩, .slice ov xs.length cv]) (results_cell_row rfl _ _ w.heap.size 74 #[.int .i64 3, .int .i64 0, .string ⟨#[]⟩, .slice ov xs.length cv] (0, 0) _ rfl hc7.out Tryd.underlying74 rfl (by kernel_rfl)) rfl ?_
      exact ⟨_, rfl, HR7.out, HB7.out⟩
end Go.Proofs.YtbonebmboolemaaDoor
/- the reference's Input, Leaf. -/
namespace Go.Proofs.YtbonebmboolemaaDoor
open Go.RowKit
theorem made_own0 (w : World) : OwnB 5 (w.alloc (.cells #[] 5)) w.heap.size (.slice (some ⟨w.heap.size, 0, none⟩) 0 0) [] :=
  World.ownsRow_made (e := 5) (base := w.heap.size) (size := 1) w #[] 0 (Nat.le_refl _) (Nat.zero_le _) (by simp)
set_option maxRecDepth 100000 in
set_option maxHeartbeats 4000000 in
theorem input_any (s : Dg) (a f n c : Int) (w : World) (hI : ∀ x ∈ [a, f, n, c], I64 x) :
    Calls Tryd.prog 61 #[dv s.1, .int .i64 a, .int .i64 f, .int .i64 n, .int .i64 c] w fun e w' => ∃ v, e = .returned v ∧ BtsAt w'.heap.size w' (s.1 ++ enc (lsI [a, f, n, c])) v ∧ Below w.heap.size w w' := by
  have HI := Lib.hid hI
  have H0 : Hid (CB (w.alloc (bD s)) w.heap.size 29 (bcells s.1)) := cb_one w _ _ _ rfl
  have HB := Lib.hid (b_al (w := w) (bD s))
  clear hI
  change Calls Tryd.prog 61 #[.agg (bcells s.1).toArray, _, _, _, _] w _
  go_enter Tryd.func61, Tryd.ntmps61
  go_upto_region 1 with fail
  change Code.wp _ _ _ _ (w.alloc (bD s))
  generalize w.alloc (bD s) = w0 at *
  have hb1 := Lib.hid (b_al (w := w0) (.cells #[.int .i64 a, .int .i64 f, .int .i64 n, .int .i64 c] 3))
  have hcb : CB (w0.alloc (.cells #[.int .i64 a, .int .i64 f, .int .i64 n, .int .i64 c] 3)) w0.heap.size 3 (nuK.flat [a, f, n, c]) := cb_one w0 _ _ _ rfl
  have hint := Lib.hid (ints_any [a, f, n, c] (.slice (some ⟨w0.heap.size, 0, none⟩) 4 4) _ (ls_block 4 hcb rfl (by unfold maxLen; omega)) (by simp))
  clear hcb
  go_upto_region 2 with (first
    | (go_at_call 74; refine hint.out.mono ?_; go_loud (
        rintro e w2 ⟨u, rfl, hu, hb2⟩
        have HU := Lib.hid hu
        have HB2 := Lib.hid (below_ext (below_ext HB.out hb1.out) hb2)
        have H02 := Lib.hid ((H0.out.ext hb1.out).ext hb2)
        have henc := Lib.hid (rEncode_any (lsI [a, f, n, c]) (by have := lsI_sz [a, f, n, c]; simp at this; omega) _ w2 (iv_rd HI.out HU.out))
        clear hu hb2 HB H0 hb1 hint))
    | (go_at_call 73; refine henc.out.mono ?_; go_loud (
        rintro e w3 ⟨bv, rfl, hrb, hb3⟩
        rw [lsI_ck] at *
        rw [if_pos rfl] at hrb
        have HR3 := Lib.hid hrb
        have HB3 := Lib.hid (below_ext HB2.out hb3); have H03 := Lib.hid (H02.out.ext hb3)
        clear hrb hb3 HB2 H02 henc HU)))
  have hm := enc_most [a, f, n, c] (by simp)
  obtain ⟨E, hE⟩ : ∃ E, enc (lsI [a, f, n, c]) = E := ⟨_, rfl⟩
  rw [hE] at HR3 hm
  have Hm := Lib.hid hm; have HE := Lib.hid hE
  have Hsl := Lib.hid s.2
  have HO := Lib.hid (made_own0 w3)
  have S0 := Lib.hid (SrcB.ofBts (P := Tryd.prog) (tx := 50) Tryd.underlying50 (dig_bts (H03.out.alloc (.cells #[] 5)) s.2))
  have SE := fun (w' : World) (hb : Below w3.heap.size w3 w') => (SrcB.ofRd (P := Tryd.prog) (tx := 50) Tryd.underlying50 (HR3.out.ext hb))
  have HSE := Lib.hid SE
  have hbs := Lib.hid (b_al (w := w3) (.cells #[] 5))
  clear hE hm H03 SE
  go_wp2_with (first
    | (at_builtin; go_loud (
        refine wpList_append_B (e := 5) Tryd.underlying50 (by kernel_rfl) rfl (.tmp 23) (.tmp 24) rfl w3.heap.size _ [] rfl HO.out _ s.1 rfl S0.out (by simp [Hsl.out]) (by have := hbs.out.size; exact this) ?_
        intro v5 w5 ho5 hg5 hn5
        have HO5 := Lib.hid ho5
        have hlt5 := Lib.hid (fun g hg => (World.ownsRow.lt HO.out g hg).1)
        have hb5 : Below w3.heap.size w3 w5 := hbs.out.grown hg5 (by have := hbs.out.size; exact this) hlt5.out
        have HB5 := Lib.hid hb5
        have SE5 := Lib.hid (HSE.out w5 hb5)
        clear ho5 hg5 hn5 hb5 S0 HO))
    | (at_builtin; go_loud (
        refine wpList_append_B (e := 5) Tryd.underlying50 (by kernel_rfl) rfl (.tmp 25) (.tmp 26) rfl w3.heap.size _ ([] ++ s.1) rfl HO5.out _ E rfl SE5.out (by have := Hsl.out; have := Hm.out; simp; omega) HB5.out.size ?_
        intro v6 w6 ho6 hg6 hn6
        have HO6 := Lib.hid ho6
        have hlt6 := Lib.hid (fun g hg => (World.ownsRow.lt HO5.out g hg).1)
        have HB6 := Lib.hid (HB5.out.grown hg6 HB5.out.size hlt6.out)
        clear ho6 hg6 hn6)))
  go_ret
  exact ⟨_, rfl, by rw [HE.out]; exact own_bts HO6.out, below_ext HB3.out HB6.out⟩
set_option maxRecDepth 100000 in
set_option maxHeartbeats 2000000 in
theorem rleaf_any (s : Dg) (a f n c : Int) (w : World) (hI : ∀ x ∈ [a, f, n, c], I64 x) :
    Calls Tryd.prog 44 #[dv s.1, .int .i64 a, .int .i64 f, .int .i64 n, .int .i64 c] w fun e w' => e = .returned (dv (leafX s [a, f, n, c]).1) ∧ Below w.heap.size w w' := by
  have H5 : Hid (CB ((w.alloc (bD s)).alloc ZD) w.heap.size 29 (bcells s.1)) := (cb_one w _ _ _ rfl).alloc _
  have H10 : Hid (CB ((w.alloc (bD s)).alloc ZD) (w.heap.size + 1) 29 (bcells dgZ.1)) := by
    have := cb_one (w.alloc (bD s)) ZD _ _ rfl
    rw [World.size_alloc] at this; exact this
  have HB : Hid (Below w.heap.size w ((w.alloc (bD s)).alloc ZD)) := by
    refine Below.alloc ((Below.refl w.heap.size w).alloc (Nat.le_refl _) _) ?_ _; simp only [World.size_alloc]; omega
  have Hsl := Lib.hid s.2
  have hrl := (leafX s [a, f, n, c]).2
  obtain ⟨r, hr⟩ : ∃ r, (leafX s [a, f, n, c]).1 = r := ⟨_, rfl⟩
  have Hr : Hid (tagged costT (s.1 ++ enc (lsI [a, f, n, c])) = r) := hr
  rw [hr] at hrl ⊢
  have Hrl := Lib.hid hrl
  have hm := enc_most [a, f, n, c] (by simp)
  have Hm := Lib.hid hm
  have HIn := Lib.hid (fun W => input_any s a f n c W hI)
  clear hr hrl hI hm
  change Calls Tryd.prog 44 #[.agg (bcells s.1).toArray, _, _, _, _] w _
  go_enter Tryd.func44, Tryd.ntmps44
  go_upto_region 1 with fail
  change Code.wp _ _ _ _ ((w.alloc (bD s)).alloc ZD)
  generalize (w.alloc (bD s)).alloc ZD = w0 at *
  go_wp2_with (first
    | (with_reducible refine wpList_load_d (hgd := rfl) 29 (.tmp 5) rfl w.heap.size s.1 Hsl.out rfl 29 _ H5.out Tryd.underlying29 rfl dig_sz ?_)
    | (go_at_call 61; refine (HIn.out w0).mono ?_; go_loud (
        rintro e w2 ⟨v2, rfl, hb2, hbl2⟩
        have htg := Lib.hid (rtagged_any ⟨#[99, 111, 115, 116]⟩ v2 (s.1 ++ enc (lsI [a, f, n, c])) w2 (by decide) (by rw [List.length_append, Hsl.out]; have := Hm.out; omega) hb2)
        have H12 := Lib.hid (H10.out.ext hbl2); have HB2 := Lib.hid (below_ext HB.out hbl2)
        clear hb2 hbl2 H5 H10 HB))
    | (go_at_call 54; refine htg.out.mono ?_; go_loud (
        rintro e w6 ⟨rfl, hb6⟩
        rw [show tagged (ByteArray.data ⟨#[99, 111, 115, 116]⟩).toList (s.1 ++ enc (lsI [a, f, n, c])) = r from Hr.out]
        have HT : Hid (w6.heap[w.heap.size + 1]? = some (.cells (bcells dgZ.1).toArray 29 (0, 0))) := H12.out.ext hb6
        have HB6 := Lib.hid (below_ext HB2.out hb6)
        clear hb6 H12 HB2 htg))
    | (with_reducible refine wpList_store_d (hgd := rfl) 29 (.tmp 10) (.tmp 17) rfl (w.heap.size + 1) r Hrl.out rfl rfl 29 _ HT.out rfl dig_sz ?_; intro w7 hc7 hg7 hz7))
  refine bodyPost_ret (v := dv r) (results_cell_row rfl _ _ (w.heap.size + 1) 29 (bcells r).toArray (0, 0) _ rfl hc7.out Tryd.underlying29 rfl (by rw [List.size_toArray, bcells_length, Hrl.out]; exact dig_sz)) rfl ?_
  exact ⟨rfl, HB6.out.grown hg7.out HB6.out.size (fun k hk => by injection hk; omega)⟩
end Go.Proofs.YtbonebmboolemaaDoor
/- leaves of a table; the reference's Leaves (printed by gen36j.py). -/
namespace Go.Proofs.YtbonebmboolemaaDoor
open Go.RowKit
/-- the leaves of a table -/
def leavesT (t : Tab) : List Dg := t.costs.zipIdx.map fun x => leafX t.salt [t.air, t.fl, (x.2 : Int), x.1]
theorem leavesT_len (t : Tab) : (leavesT t).length = t.costs.length := by unfold leavesT; rw [List.length_map, List.length_zipIdx]
theorem leavesT_at {t : Tab} {k : Nat} {c : Int} (h : t.costs[k]? = some c) : (leavesT t)[k]? = some (leafX t.salt [t.air, t.fl, (k : Int), c]) := by
  unfold leavesT; rw [List.getElem?_map, List.getElem?_zipIdx, h]; simp
/-- numbers that the machine holds, few costs -/
structure TabI (t : Tab) : Prop where
  air : I64 t.air
  fl : I64 t.fl
  cs : ∀ c ∈ t.costs, I64 c
  few : t.costs.length ≤ 64
theorem tb_salt {w : World} {g : Nat} {t : TypeId} {r : Tb} (h : CB w g t r.cells) : w.rangeAt g 3 (bcells r.salt.1) := fun i u hu => by
  rw [h.cell, Nat.add_comm]; exact hu
structure LvRel (t : Tab) (r : Tb) (w : World) (vl vi : Value) (wr : World) : Prop where
  h : ∃ k : Nat, k ≤ t.costs.length ∧ vi = .int .i64 (k : Int) ∧ CB wr w.heap.size 31 r.cells ∧ OwnK digK 29 wr (w.heap.size + 1) vl ((leavesT t).take k) ∧ Below w.heap.size w wr
set_option maxRecDepth 100000 in
set_option maxHeartbeats 4000000 in
theorem rleaves_any (t : Tab) (r : Tb) (w : World) (hr : TabR w t r) (hi : TabI t) :
    Calls Tryd.prog 40 #[r.v] w fun e w' => ∃ v, e = .returned v ∧ OwnK digK 29 w' w.heap.size v (leavesT t) ∧ Below w.heap.size w w' := by
  have HR := Lib.hid hr; have HI := Lib.hid hi
  have HB := Lib.hid (b_al (w := w) (bT r))
  have HC0 : Hid (CB (w.alloc (bT r)) w.heap.size 31 r.cells) := cb_one w _ _ _ rfl
  have HS : Hid ((w.alloc (bT r)).heap.size = w.heap.size + 1) := by show _ = _; rw [World.size_alloc]
  obtain ⟨ra, hra⟩ : ∃ x, r.air = x := ⟨_, rfl⟩
  obtain ⟨rf, hrf⟩ : ∃ x, r.fl = x := ⟨_, rfl⟩
  obtain ⟨ro, m, rc, hcv⟩ : ∃ a b c, r.cv = .slice a b c := ⟨_, _, _, rfl⟩
  obtain ⟨sl, hsl⟩ : ∃ x, r.salt = x := ⟨_, rfl⟩
  have hcs := hr.cs
  rw [hcv] at hcs
  have hm : m = t.costs.length := by
    obtain ⟨_, _, he, _⟩ := hcs.shape
    injection he with _ e2 _
  subst hm
  have Hra : Hid (ra = t.air) := hra.symm.trans hr.air
  have Hrf : Hid (rf = t.fl) := hrf.symm.trans hr.fl
  have Hsal : Hid (sl = t.salt) := hsl.symm.trans hr.salt
  have HCS := Lib.hid hcs
  have HRA := Lib.hid hra; have HRF := Lib.hid hrf; have HCV := Lib.hid hcv; have HSL := Lib.hid hsl
  have bm : (t.costs.length : Int) ≤ 64 := by have := hi.few; omega
  clear hr hi hra hrf hcv hsl hcs
  change Calls Tryd.prog 40 #[.agg r.cells.toArray] w _
  go_enter Tryd.func40, Tryd.ntmps40
  go_upto_region 1 with fail
  change Code.wp _ _ _ _ (w.alloc (bT r))
  generalize w.alloc (bT r) = w0 at *
  go_wp2_with fail
  go_loopw [3, 4] (fun vl vi wr => LvRel t r w vl vi wr) (fun _ vi _ => t.costs.length - natOf vi)
  case atStart => exact ⟨⟨0, by omega, rfl, HC0.out, OwnK.nil _ _ _, HB.out⟩⟩
  case round =>
    obtain ⟨k, hk, rfl, hc, ho, hb⟩ := hrel.h
    obtain ⟨c1, c2, c3⟩ := tb_cell hc
    rw [HRA.out] at c1; rw [HRF.out] at c2; rw [HCV.out] at c3
    have hq := tb_salt hc
    rw [HSL.out] at hq
    have HC := Lib.hid hc; have HP := Lib.hid ho; have HBr := Lib.hid hb; have Q4 := Lib.hid hq
    have C1 := Lib.hid c1; have C2 := Lib.hid c2; have C3 := Lib.hid c3
    obtain ⟨op, cp, rfl, _⟩ := ho.rd.shape
    have hpl0 : ((leavesT t).take k).length ≤ 64 := by rw [List.length_take]; omega
    have Hpl0 := Lib.hid hpl0
    clear hrel hc ho hb c1 c2 hq hpl0
    by_cases hlt : k < t.costs.length
    case neg =>
      obtain rfl : k = t.costs.length := by omega
      have tj : decide ((t.costs.length : Int) < (t.costs.length : Int)) = false := by simp
      have hall : Hid ((leavesT t).take t.costs.length = leavesT t) := by show _ = _; rw [List.take_of_length_le (by rw [leavesT_len]; exact Nat.le_refl _)]
      go_wp2_with fail
      go_ret
      exact ⟨_, rfl, by have := HP.out; rw [hall.out] at this; exact (by simpa [hall.out] using this.base (Nat.le_succ _)), HBr.out⟩
    case pos =>
    have tj : decide ((k : Int) < (t.costs.length : Int)) = true := by simp; omega
    have tj' : decide (k < t.costs.length) = true := by simp; omega
    have kb : (k : Int) < (t.costs.length : Int) := by omega
    obtain ⟨c, hcx⟩ : ∃ c, t.costs[k]? = some c := ⟨_, List.getElem?_eq_getElem hlt⟩
    obtain ⟨b, off, rfl, _, hat⟩ := (HCS.out.ext HBr.out).at hlt
    have c5 := hat k c hcx 0 _ rfl
    have c5 : wr.cell? ⟨b, off + k, none⟩ = some (.int .i64 c) := by simpa [nuK] using c5
    have C5 := Lib.hid c5
    have hlx := leavesT_at hcx
    rw [← Hra.out, ← Hrf.out, ← Hsal.out] at hlx
    have hIx : ∀ y ∈ [ra, rf, (k : Int), c], I64 y := by
      intro y hy
      simp only [List.mem_cons, List.not_mem_nil, or_false] at hy
      rcases hy with rfl | rfl | rfl | rfl
      · rw [Hra.out]; exact HI.out.air
      · rw [Hrf.out]; exact HI.out.fl
      · unfold I64; omega
      · obtain ⟨q1, q2⟩ := List.getElem?_eq_some_iff.1 hcx
        exact HI.out.cs _ (by rw [← q2]; exact List.getElem_mem q1)
    have HL := Lib.hid (fun W => rleaf_any sl ra rf (k : Int) c W hIx)
    obtain ⟨x, hx⟩ : ∃ x, leafX sl [ra, rf, (k : Int), c] = x := ⟨_, rfl⟩
    rw [hx] at hlx HL
    have hts := Lib.hid (take_snocI hlx)
    obtain ⟨p, hp⟩ : ∃ p, (leavesT t).take k = p := ⟨_, rfl⟩
    rw [hp] at HP Hpl0 hts
    have Hpl : Hid (p.length ≤ 64) := Hpl0.out
    have Hsl := Lib.hid sl.2
    rw [hp]
    clear hcx hat c5 hlx hIx hx hp Hpl0
    go_upto_region 5 with fail
    clear c3
    have KC := Lib.hid (HC.out.ext (Below.refl wr.heap.size wr).drew); have KP := Lib.hid (HP.out.ext (Below.refl wr.heap.size wr).drew); have KB := Lib.hid HBr.out.drew
    have d1 := Lib.hid (cell_ext (Below.refl wr.heap.size wr).drew C1.out)
    have d2 := Lib.hid (cell_ext (Below.refl wr.heap.size wr).drew C2.out)
    have d3 := Lib.hid (cell_ext (Below.refl wr.heap.size wr).drew C3.out)
    have d5 := Lib.hid (cell_ext (Below.refl wr.heap.size wr).drew C5.out)
    have d4 : Hid (wr.drew.rangeAt w.heap.size 3 (bcells sl.1)) := Q4.out
    refine wp_region_held_drew (S := fun w' => w'.cell? ⟨w.heap.size, 0, none⟩ = some (.int .i64 ra) ∧ w'.cell? ⟨w.heap.size, 1, none⟩ = some (.int .i64 rf) ∧ w'.cell? ⟨w.heap.size, 2, none⟩ = some (.slice (some ⟨b, off, none⟩) t.costs.length rc) ∧ w'.rangeAt w.heap.size 3 (bcells sl.1) ∧ w'.cell? ⟨b, off + k, none⟩ = some (.int .i64 c)) (by kernel_rfl) ⟨d1.out, d2.out, d3.out, d4.out, d5.out⟩ (fun hHeld => ?_)
    clear HC HP HBr Q4
    generalize wr.drew = w1 at *
    refine take_dst (some 12) (i := 0) (v := ?vL0) rfl rfl (by kernel_rfl) (by kernel_rfl) (by kernel_rfl) (fun _ _ _ h => h) (Or.inl ⟨by rfl, fun wS hSw => ?hyL0⟩) (by assumption) ?restL0
    case hyL0 => (obtain ⟨s1, s2, s3, s4, s5⟩ := hSw; go_simp; first | done | with_reducible rfl)
    try simp only [Act.put, List.setIfInBounds_toArray, List.set_cons_zero, List.set_cons_succ]
    refine take_dst (some 13) (i := 1) (v := ?vL1) rfl rfl (by kernel_rfl) (by kernel_rfl) (by kernel_rfl) (fun _ _ _ h => h) (Or.inl ⟨by rfl, fun wS hSw => ?hyL1⟩) (by assumption) ?restL1
    case hyL1 => (obtain ⟨s1, s2, s3, s4, s5⟩ := hSw; go_simp; first | done | with_reducible rfl)
    try simp only [Act.put, List.setIfInBounds_toArray, List.set_cons_zero, List.set_cons_succ]
    refine take_dst (some 14) (i := 2) (v := dv sl.1) rfl rfl (by kernel_rfl) (by kernel_rfl) (by kernel_rfl) (fun _ _ _ h => h) (yieldsIf_load_mid (by rfl) 29 _ rfl w.heap.size 3 rfl (bcells sl.1) _ (fun wS hSw => by obtain ⟨s1, s2, s3, s4, s5⟩ := hSw; exact s4) Tryd.underlying29 rfl (by rw [bcells_length, Hsl.out]; exact dig_sz)) (by assumption) ?restL2
    try simp only [Act.put, List.setIfInBounds_toArray, List.set_cons_zero, List.set_cons_succ]
    refine take_dst (some 15) (i := 3) (v := ?vL3) rfl rfl (by kernel_rfl) (by kernel_rfl) (by kernel_rfl) (fun _ _ _ h => h) (Or.inl ⟨by rfl, fun wS hSw => ?hyL3⟩) (by assumption) ?restL3
    case hyL3 => (obtain ⟨s1, s2, s3, s4, s5⟩ := hSw; go_simp; first | done | with_reducible rfl)
    try simp only [Act.put, List.setIfInBounds_toArray, List.set_cons_zero, List.set_cons_succ]
    refine take_dst (some 16) (i := 4) (v := ?vL4) rfl rfl (by kernel_rfl) (by kernel_rfl) (by kernel_rfl) (fun _ _ _ h => h) (Or.inl ⟨by rfl, fun wS hSw => ?hyL4⟩) (by assumption) ?restL4
    case hyL4 => (obtain ⟨s1, s2, s3, s4, s5⟩ := hSw; go_simp; first | done | with_reducible rfl)
    try simp only [Act.put, List.setIfInBounds_toArray, List.set_cons_zero, List.set_cons_succ]
    refine take_dst (some 17) (i := 5) (v := ?vL5) rfl rfl (by kernel_rfl) (by kernel_rfl) (by kernel_rfl) (fun _ _ _ h => h) (Or.inl ⟨by rfl, fun wS hSw => ?hyL5⟩) (by assumption) ?restL5
    case hyL5 => (obtain ⟨s1, s2, s3, s4, s5⟩ := hSw; go_simp; first | done | with_reducible rfl)
    try simp only [Act.put, List.setIfInBounds_toArray, List.set_cons_zero, List.set_cons_succ]
    refine take_dst (some 18) (i := 6) (v := ?vL6) rfl rfl (by kernel_rfl) (by kernel_rfl) (by kernel_rfl) (fun _ _ _ h => h) (Or.inl ⟨by rfl, fun wS hSw => ?hyL6⟩) (by assumption) ?restL6
    case hyL6 => (obtain ⟨s1, s2, s3, s4, s5⟩ := hSw; go_simp; first | done | with_reducible rfl)
    try simp only [Act.put, List.setIfInBounds_toArray, List.set_cons_zero, List.set_cons_succ]
    refine take_dst (some 19) (i := 7) (v := ?vL7) rfl rfl (by kernel_rfl) (by kernel_rfl) (by kernel_rfl) (fun _ _ _ h => h) (Or.inl ⟨by rfl, fun wS hSw => ?hyL7⟩) (by assumption) ?restL7
    case hyL7 => (obtain ⟨s1, s2, s3, s4, s5⟩ := hSw; go_simp; first | done | with_reducible rfl)
    try simp only [Act.put, List.setIfInBounds_toArray, List.set_cons_zero, List.set_cons_succ]
    refine take_dst (some 20) (i := 8) (v := ?vL8) rfl rfl (by kernel_rfl) (by kernel_rfl) (by kernel_rfl) (fun _ _ _ h => h) (Or.inl ⟨by rfl, fun wS hSw => ?hyL8⟩) (by assumption) ?restL8
    case hyL8 => (obtain ⟨s1, s2, s3, s4, s5⟩ := hSw; go_simp; first | done | with_reducible rfl)
    try simp only [Act.put, List.setIfInBounds_toArray, List.set_cons_zero, List.set_cons_succ]
    refine take_dst (some 21) (i := 9) (v := ?vL9) rfl rfl (by kernel_rfl) (by kernel_rfl) (by kernel_rfl) (fun _ _ _ h => h) (Or.inl ⟨by rfl, fun wS hSw => ?hyL9⟩) (by assumption) ?restL9
    case hyL9 => (obtain ⟨s1, s2, s3, s4, s5⟩ := hSw; go_simp; first | done | with_reducible rfl)
    try simp only [Act.put, List.setIfInBounds_toArray, List.set_cons_zero, List.set_cons_succ]
    refine take_dst (some 22) (i := 10) (v := ?vL10) rfl rfl (by kernel_rfl) (by kernel_rfl) (by kernel_rfl) (fun _ _ _ h => h) (Or.inl ⟨by rfl, fun wS hSw => ?hyL10⟩) (by assumption) ?restL10
    case hyL10 => (obtain ⟨s1, s2, s3, s4, s5⟩ := hSw; go_simp; first | done | with_reducible rfl)
    try simp only [Act.put, List.setIfInBounds_toArray, List.set_cons_zero, List.set_cons_succ]
    refine take_dst (some 23) (i := 11) (v := ?vL11) rfl rfl (by kernel_rfl) (by kernel_rfl) (by kernel_rfl) (fun _ _ _ h => h) (Or.inl ⟨by rfl, fun wS hSw => ?hyL11⟩) (by assumption) ?restL11
    case hyL11 => (obtain ⟨s1, s2, s3, s4, s5⟩ := hSw; go_simp; first | done | with_reducible rfl)
    try simp only [Act.put, List.setIfInBounds_toArray, List.set_cons_zero, List.set_cons_succ]
    refine take_dst (some 24) (i := 12) (v := ?vL12) rfl rfl (by kernel_rfl) (by kernel_rfl) (by kernel_rfl) (fun _ _ _ h => h) (Or.inl ⟨by rfl, fun wS hSw => ?hyL12⟩) (by assumption) ?restL12
    case hyL12 => (obtain ⟨s1, s2, s3, s4, s5⟩ := hSw; go_simp; first | done | with_reducible rfl)
    try simp only [Act.put, List.setIfInBounds_toArray, List.set_cons_zero, List.set_cons_succ]
    refine wpAnyH_ready (rs := [13]) (by kernel_rfl) (by simp) ?_
    refine AllReadyH.cons rfl (fun K hK => ?_) AllReadyH.nil
    go_simp
    refine (HL.out w1).mono ?_
    rintro e w2 ⟨rfl, hb2⟩
    have KC2 := Lib.hid (KC.out.ext hb2); have KP2 := Lib.hid (KP.out.ext hb2); have KB2 := Lib.hid (below_ext KB.out hb2)
    have q1 := Lib.hid (cell_ext hb2 d1.out)
    have q2 := Lib.hid (cell_ext hb2 d2.out)
    have q3 := Lib.hid (cell_ext hb2 d3.out)
    have q5 := Lib.hid (cell_ext hb2 d5.out)
    have q4 : Hid (w2.rangeAt w.heap.size 3 (bcells sl.1)) := fun i u hu => cell_ext hb2 (d4.out i u hu)
    clear hb2 KC KP KB d1 d2 d3 d4 d5
    refine hK.out _ _ ⟨q1.out, q2.out, q3.out, q4.out, q5.out⟩ (fun hHeld => ?_)
    clear hK K
    try simp only [Act.put, List.setIfInBounds_toArray, List.set_cons_zero, List.set_cons_succ]
    refine wpAnyH_ready (rs := [14]) (by kernel_rfl) (by simp) ?_
    refine AllReadyH.cons rfl (fun K hK => ?_) AllReadyH.nil
    refine step_bs rfl _ rfl x rfl ?_
    have KX : Hid (Src Tryd.prog 32 34 (.slice (some ⟨w2.heap.size, 0, none⟩) 1 1) 1 (digK.flat [x]) (w2.alloc (bD x))) := src_el (K := digK) (a := x) Tryd.underlying34 (cb_one w2 _ _ _ rfl)
    have KP3 := Lib.hid (KP2.out.alloc (bD x)); have KB3 := Lib.hid (below_ext KB2.out (b_al (bD x))); have KC3 := Lib.hid (KC2.out.alloc (bD x))
    have KS : Hid (w.heap.size + 1 ≤ (w2.alloc (bD x)).heap.size) := by show _ ≤ _; have := KC2.out.lt; rw [World.size_alloc]; omega
    have g1 := Lib.hid (cell_ext (b_al (bD x)) q1.out)
    have g2 := Lib.hid (cell_ext (b_al (bD x)) q2.out)
    have g3 := Lib.hid (cell_ext (b_al (bD x)) q3.out)
    have g5 := Lib.hid (cell_ext (b_al (bD x)) q5.out)
    have g4 : Hid ((w2.alloc (bD x)).rangeAt w.heap.size 3 (bcells sl.1)) := fun i u hu => cell_ext (b_al (bD x)) (q4.out i u hu)
    clear KB2 KP2 KC2 q1 q2 q3 q4 q5
    refine hK.out (Act.put _ (some 26) _) _ ⟨g1.out, g2.out, g3.out, g4.out, g5.out⟩ (fun hHeld => ?_)
    clear hK K
    generalize hw3 : w2.alloc (bD x) = w3 at *
    clear hw3
    try simp only [Act.put, List.setIfInBounds_toArray, List.set_cons_zero, List.set_cons_succ]
    refine wpAnyH_ready (rs := [15]) (by kernel_rfl) (by simp) ?_
    refine AllReadyH.cons rfl (fun K hK => ?_) AllReadyH.nil
    refine step_append_x (e := 29) (z := .agg (bcells dgZ.1).toArray) (size := 32) (bytes := 32) Tryd.underlying34 dig_info2 rfl rfl _ _ rfl (w.heap.size + 1) _ p.length (digK.flat p) rfl KP3.out _ 1 (digK.flat [x]) rfl KX.out (by have := Hpl.out; unfold maxLen; omega) (by have := Hpl.out; omega) KS.out ?_
    intro v4 w4 ho4 hg4 hn4
    have KP4 : Hid (OwnK digK 29 w4 (w.heap.size + 1) v4 (p ++ [x])) := OwnK.append (K := digK) ho4 (by simp)
    have KB4 := Lib.hid (below_ownK KB3.out KP3.out hg4 (Nat.le_succ _))
    have KC4 := Lib.hid (KC3.out.keep (hg4.block _ KC3.out.lt (fun e => by have := (KP3.out.lt _ e.symm).1; omega)))
    have hbo : b < w.heap.size := by obtain ⟨_, _, e, hb, _⟩ := HCS.out.at (k := k) hlt; injection e with e; injection e with e _ _; rw [e]; exact hb
    have hkk : ∀ g, g < w.heap.size + 1 → w4.heap[g]? = w3.heap[g]? := fun g hg => hg4.block _ (by have := KS.out; omega) (fun e => by have := (KP3.out.lt _ e.symm).1; omega)
    have m1 := Lib.hid ((World.cell?_of_block (w := w3) (hkk w.heap.size (by omega))).trans g1.out)
    have m2 := Lib.hid ((World.cell?_of_block (w := w3) (hkk w.heap.size (by omega))).trans g2.out)
    have m3 := Lib.hid ((World.cell?_of_block (w := w3) (hkk w.heap.size (by omega))).trans g3.out)
    have m5 := Lib.hid ((World.cell?_of_block (w := w3) (hkk b (by omega))).trans g5.out)
    have m4 : Hid (w4.rangeAt w.heap.size 3 (bcells sl.1)) := fun i u hu => (World.cell?_of_block (w := w3) (hkk w.heap.size (by omega))).trans (g4.out i u hu)
    clear ho4 hg4 hn4 KX KP3 KB3 KS KC3 hkk hbo
    refine hK.out (Act.put _ (some 27) v4) w4 ⟨m1.out, m2.out, m3.out, m4.out, m5.out⟩ (fun hHeld => ?_)
    clear hK K
    try simp only [Act.put, List.setIfInBounds_toArray, List.set_cons_zero, List.set_cons_succ]
    refine take_dst (some 3) (i := 16) (v := ?vL16) rfl rfl (by kernel_rfl) (by kernel_rfl) (by kernel_rfl) (fun _ _ _ h => h) (Or.inl ⟨by rfl, fun wS hSw => ?hyL16⟩) (by assumption) ?restL16
    case hyL16 => (obtain ⟨s1, s2, s3, s4, s5⟩ := hSw; go_simp; first | done | with_reducible rfl)
    try simp only [Act.put, List.setIfInBounds_toArray, List.set_cons_zero, List.set_cons_succ]
    refine wpAnyH_done (by kernel_rfl) ?_ _
    go_wp2_with fail
    go_roundw
    case rel => exact ⟨⟨k + 1, by omega, by go_num, KC4.out, by rw [hts.out]; exact KP4.out, KB4.out⟩⟩
    case measure => simp [natOf]; omega
end Go.Proofs.YtbonebmboolemaaDoor
/- the reference's Digests. -/
namespace Go.Proofs.YtbonebmboolemaaDoor
open Go.RowKit
/-- the digests of tables -/
def digestsT (l : List Tab) : List Dg := l.map fun t => treeD (leavesT t)
theorem digestsT_len (l : List Tab) : (digestsT l).length = l.length := by unfold digestsT; rw [List.length_map]
theorem digestsT_at {l : List Tab} {k : Nat} {t : Tab} (h : l[k]? = some t) : (digestsT l)[k]? = some (treeD (leavesT t)) := by
  unfold digestsT; rw [List.getElem?_map, h]; rfl
theorem wpList_bs {w : World} {ops : Array Oper} {rest : List Oper} {o : Oper} {a : Act} {Q : Exit → Act → World → Prop} (hgd : o.guard = none) (y : Operand) (ho : o.op = .buildSlice 34 1 #[(0, y)])
    (d : Dg) (hy : a.eval y = dv d.1) (h : wpList Tryd.prog ops Q rest (a.put o.dst (.slice (some ⟨w.heap.size, 0, none⟩) 1 1)) (w.alloc (bD d))) : wpList Tryd.prog ops Q (o :: rest) a w := by
  refine wpList_plain hgd fun _ hK => ?_
  have hr := bs_dig d w
  unfold Oper.wp execOp
  simp only [ho, Sem.run_bind, List.map_toArray, List.map_cons, List.map_nil, hy, hr, Result.andThen_ok]
  exact hK _ _ h
structure DgRel (l : List Tab) (w : World) (vl vi : Value) (wr : World) : Prop where
  h : ∃ k : Nat, k ≤ l.length ∧ vi = .int .i64 (k : Int) ∧ OwnK digK 29 wr w.heap.size vl ((digestsT l).take k) ∧ Below w.heap.size w wr
set_option maxRecDepth 100000 in
set_option maxHeartbeats 4000000 in
theorem rdigests_any (l : List Tab) (v : Value) (w : World) (hl : TabsAt w l v) (hi : ∀ t ∈ l, TabI t) (h64 : l.length ≤ 64) :
    Calls Tryd.prog 35 #[v] w fun e w' => ∃ v, e = .returned v ∧ OwnK digK 29 w' w.heap.size v (digestsT l) ∧ Below w.heap.size w w' := by
  have HL := Lib.hid hl; have HI := Lib.hid hi
  obtain ⟨oa, cap, rfl, hlc, hlm⟩ := hl.shape
  have bl : (l.length : Int) ≤ 64 := by omega
  clear hl hi hlc hlm
  go_enter Tryd.func35, Tryd.ntmps35
  go_wp2_with fail
  go_loopw [3, 4] (fun vl vi wr => DgRel l w vl vi wr) (fun _ vi _ => l.length - natOf vi)
  case atStart => exact ⟨⟨0, by omega, rfl, OwnK.nil _ _ _, Below.refl _ _⟩⟩
  case round =>
    obtain ⟨k, hk, rfl, ho, hb⟩ := hrel.h
    have HP := Lib.hid ho; have HBr := Lib.hid hb
    obtain ⟨op, cp, rfl, _⟩ := ho.rd.shape
    clear hrel ho hb
    by_cases hlt : k < l.length
    case neg =>
      obtain rfl : k = l.length := by omega
      have tj : decide ((l.length : Int) < (l.length : Int)) = false := by simp
      have hall : Hid ((digestsT l).take l.length = digestsT l) := by show _ = _; rw [List.take_of_length_le (by rw [digestsT_len]; exact Nat.le_refl _)]
      go_wp2_with fail
      go_ret
      exact ⟨_, rfl, by have := HP.out; rw [hall.out] at this; exact (by simpa [hall.out] using this), HBr.out⟩
    case pos =>
    have tj : decide ((k : Int) < (l.length : Int)) = true := by simp; omega
    have tj' : decide (k < l.length) = true := by simp; omega
    have kb : (k : Int) < (l.length : Int) := by omega
    obtain ⟨t, ht⟩ : ∃ t, l[k]? = some t := ⟨_, List.getElem?_eq_getElem hlt⟩
    obtain ⟨b, off, r, rfl, _, hel, hr⟩ := (HL.out.ext HBr.out).el ht
    have hti : TabI t := HI.out t (by obtain ⟨q1, q2⟩ := List.getElem?_eq_some_iff.1 ht; rw [← q2]; exact List.getElem_mem q1)
    have Hyr := Lib.hid (el_rng hel)
    have HLv := Lib.hid (rleaves_any t r wr hr hti)
    have hlen : (leavesT t).length ≤ 64 := by rw [leavesT_len]; exact hti.few
    have Hlen := Lib.hid hlen
    have hts := Lib.hid (take_snocI (digestsT_at ht))
    obtain ⟨p, hp⟩ : ∃ p, (digestsT l).take k = p := ⟨_, rfl⟩
    have hpl : p.length ≤ 64 := by rw [← hp, List.length_take]; omega
    rw [hp] at HP hts
    have Hpl := Lib.hid hpl
    rw [hp]
    obtain ⟨q, hq⟩ : ∃ q, leavesT t = q := ⟨_, rfl⟩
    rw [hq] at HLv Hlen hts
    obtain ⟨x, hx⟩ : ∃ x, treeD q = x := ⟨_, rfl⟩
    rw [hx] at hts
    have HX := Lib.hid hx
    clear ht hel hr hti hlen hp hpl hq hx
    go_wp2_with (first
      | (with_reducible refine wpList_load_mid rfl 31 (.tmp 14) rfl b (off + k * 35) rfl r.cells _ Hyr.out Tryd.underlying31 rfl (by rw [tb_len]; exact tb_sz) ?_)
      | (go_at_call 40; refine HLv.out.mono ?_; go_loud (
          rintro e w2 ⟨v2, rfl, ho2, hb2⟩
          have HT2 := Lib.hid (rtree_is (w := w2) Hlen.out ho2.rd)
          have HB2 := Lib.hid (below_ext HBr.out hb2); have HP2 := Lib.hid (HP.out.ext hb2)
          clear ho2 hb2 HBr HP HLv))
      | (go_at_call 34; refine HT2.out.mono ?_; go_loud (
          rintro e w3 ⟨rfl, hb3⟩
          rw [HX.out]
          have HB3 := Lib.hid (below_ext HB2.out hb3); have HP3 := Lib.hid (HP2.out.ext hb3)
          clear hb3 HB2 HP2 HT2))
      | ((with_reducible refine wpList_bs rfl (.tmp 17) rfl x rfl ?_); go_loud (
          have KX : Hid (Src Tryd.prog 32 34 (.slice (some ⟨w3.heap.size, 0, none⟩) 1 1) 1 (digK.flat [x]) (w3.alloc (bD x))) := src_el (K := digK) (a := x) Tryd.underlying34 (cb_one w3 _ _ _ rfl)
          have KP3 := Lib.hid (HP3.out.alloc (bD x)); have KB3 := Lib.hid (below_ext HB3.out (b_al (bD x)))
          clear HB3 HP3))
      | (at_builtin; go_loud (
          refine wpList_append_x (e := 29) (z := .agg (bcells dgZ.1).toArray) (size := 32) (bytes := 32) Tryd.underlying34 dig_info2 rfl rfl (.tmp 11) (.tmp 18) rfl w.heap.size _ p.length (digK.flat p) rfl KP3.out _ 1 (digK.flat [x]) rfl KX.out (by have := Hpl.out; unfold maxLen; omega) (by have := Hpl.out; omega) KB3.out.size ?_
          intro v4 w4 ho4 hg4 hn4
          have KP4 : Hid (OwnK digK 29 w4 w.heap.size v4 (p ++ [x])) := OwnK.append (K := digK) ho4 (by simp)
          have KB4 := Lib.hid (below_ownK KB3.out KP3.out hg4 (Nat.le_refl _))
          clear ho4 hg4 hn4 KX KP3 KB3)))
    go_roundw
    case rel => exact ⟨⟨k + 1, by omega, by go_num, by rw [hts.out]; exact KP4.out, KB4.out⟩⟩
    case measure => simp [natOf]; omega
end Go.Proofs.YtbonebmboolemaaDoor
/- the reference's Commit. -/
namespace Go.Proofs.YtbonebmboolemaaDoor
open Go.RowKit
theorem ok_tabI {t : Tab} (h : okT t = true) : TabI t := by
  unfold okT at h
  simp only [Bool.and_eq_true, decide_eq_true_eq, List.all_eq_true] at h
  obtain ⟨⟨⟨h1, h2⟩, h3⟩, h4⟩ := h
  unfold knownB at h1
  simp only [Bool.and_eq_true, decide_eq_true_eq] at h1
  refine ⟨by unfold I64; omega, by unfold I64; omega, fun c hc => ?_, by omega⟩
  have := h4 c hc
  unfold costB at this
  simp only [Bool.and_eq_true, decide_eq_true_eq] at this
  unfold I64; omega
theorem valid_len {l : List Tab} (h : validT l = true) : 1 ≤ l.length ∧ l.length ≤ 8 := by
  unfold validT at h
  simp only [Bool.and_eq_true, decide_eq_true_eq] at h
  exact h.1
theorem valid_at {l : List Tab} (h : validT l = true) {i : Nat} {t : Tab} (ht : l[i]? = some t) : okT t = true ∧ t.air = (l.getD 0 default).air ∧ t.costs.length = (l.getD 0 default).costs.length ∧ (i = 0 ∨ (l.getD (i - 1) default).fl < t.fl) := by
  unfold validT at h
  simp only [Bool.and_eq_true, decide_eq_true_eq, List.all_eq_true, List.mem_range] at h
  have h2 := h.2 i (List.getElem?_eq_some_iff.1 ht).1
  unfold vAt at h2
  rw [gd ht] at h2
  simp only [Bool.and_eq_true, Bool.or_eq_true, decide_eq_true_eq] at h2
  exact ⟨h2.1.1.1, h2.1.1.2, h2.1.2, h2.2⟩
theorem valid_tabI {l : List Tab} (h : validT l = true) : ∀ t ∈ l, TabI t := fun t ht => by
  obtain ⟨i, hi, rfl⟩ := List.getElem_of_mem ht
  exact ok_tabI (valid_at h (List.getElem?_eq_getElem hi)).1
/-- what Commit answers -/
def commitD (l : List Tab) : Dg := if validT l = true then treeD (digestsT l) else dgZ
def commitE (l : List Tab) : Int := if validT l = true then 0 else 360
set_option maxRecDepth 100000 in
set_option maxHeartbeats 2000000 in
theorem rcommit_any (l : List Tab) (v : Value) (w : World) (hl : TabsAt w l v) :
    Calls Tryd.prog 14 #[v] w fun e w' => e = .returned (.tuple #[dv (commitD l).1, .int .i64 (commitE l)]) ∧ Below w.heap.size w w' := by
  have HB := Lib.hid (b_al (w := w) ZD)
  have H2 : Hid (CB (w.alloc ZD) w.heap.size 29 (bcells dgZ.1)) := cb_one w _ _ _ rfl
  have HV := Lib.hid (rvalid_any l v _ (hl.ext HB.out))
  have HD := Lib.hid (fun (h : validT l = true) W (hW : Below w.heap.size w W) => rdigests_any l v W (hl.ext hW) (valid_tabI h) (by have := valid_len h; omega))
  have hrl := (commitD l).2
  obtain ⟨r, hr⟩ : ∃ r, commitD l = r := ⟨_, rfl⟩
  obtain ⟨z, hz⟩ : ∃ z, commitE l = z := ⟨_, rfl⟩
  rw [hr] at hrl ⊢
  rw [hz]
  have Hr := Lib.hid hr; have Hz := Lib.hid hz; have Hrl := Lib.hid hrl
  obtain ⟨oa, cap, rfl, _⟩ := hl.shape
  clear hl hr hz hrl
  by_cases hv : validT l = true
  · have HD2 := Lib.hid (HD.out hv)
    have hlen : (digestsT l).length ≤ 64 := by rw [digestsT_len]; have := valid_len hv; omega
    have Hlen := Lib.hid hlen
    have hr2 : treeD (digestsT l) = r := by have := Hr.out; unfold commitD at this; rw [if_pos hv] at this; exact this
    have hz2 : z = 0 := by have := Hz.out; unfold commitE at this; rw [if_pos hv] at this; exact this.symm
    subst hz2
    have Hr2 := Lib.hid hr2
    rw [hv] at HV
    clear HD hlen hr2 hv Hr Hz
    go_enter Tryd.func14, Tryd.ntmps14
    go_upto_region 1 with fail
    change Code.wp _ _ _ _ (w.alloc ZD)
    generalize w.alloc ZD = w0 at *
    go_wp2_with (first
      | (go_at_call 33; refine HV.out.mono ?_; go_loud (
          rintro e w2 ⟨rfl, hb2⟩
          have HB2 := Lib.hid (below_ext HB.out hb2); have H22 := Lib.hid (H2.out.ext hb2)
          have HDD := Lib.hid (HD2.out w2 HB2.out)
          clear hb2 HB H2))
      | (go_at_call 35; refine HDD.out.mono ?_; go_loud (
          rintro e w3 ⟨v3, rfl, ho3, hb3⟩
          have HB3 := Lib.hid (below_ext HB2.out hb3); have H23 := Lib.hid (H22.out.ext hb3)
          have HT := Lib.hid (rtree_is (w := w3) Hlen.out ho3.rd)
          clear hb3 ho3 HB2 H22 HDD))
      | (go_at_call 34; refine HT.out.mono ?_; go_loud (
          rintro e w4 ⟨rfl, hb4⟩
          rw [Hr2.out]
          have HB4 := Lib.hid (below_ext HB3.out hb4)
          have HX : Hid (w4.heap[w.heap.size]? = some (.cells (bcells dgZ.1).toArray 29 (0, 0))) := H23.out.ext hb4
          clear hb4 HB3 H23 HT))
      | (with_reducible refine wpList_store_d (hgd := rfl) 29 (.tmp 2) (.tmp 10) rfl w.heap.size r.1 Hrl.out rfl rfl 29 _ HX.out rfl dig_sz ?_; intro w7 hc7 hg7 hz7))
    refine bodyPost_ret (v := .tuple #[dv r.1, .int .i64 0]) (results_row2 rfl _ _ w.heap.size 29 (bcells r.1).toArray (0, 0) _ (.int .i64 0) rfl rfl hc7.out Tryd.underlying29 rfl (by rw [List.size_toArray, bcells_length, Hrl.out]; exact dig_sz)) rfl ?_
    exact ⟨rfl, HB4.out.grown hg7.out HB4.out.size (fun k hk => by injection hk; omega)⟩
  · have hv' : validT l = false := by simpa using hv
    have hr2 : r = dgZ := by have := Hr.out; unfold commitD at this; rw [if_neg hv] at this; exact this.symm
    have hz2 : z = 360 := by have := Hz.out; unfold commitE at this; rw [if_neg hv] at this; exact this.symm
    subst hz2 hr2
    rw [hv'] at HV
    have Hzl : Hid (dgZ.1.length = 32) := dgZ.2
    clear HD hv hv' Hr Hz Hrl
    go_enter Tryd.func14, Tryd.ntmps14
    go_upto_region 1 with fail
    change Code.wp _ _ _ _ (w.alloc ZD)
    generalize w.alloc ZD = w0 at *
    go_upto_region 2 with (go_at_call 33; refine HV.out.mono ?_; go_loud (
          rintro e w2 ⟨rfl, hb2⟩
          have HB2 := Lib.hid (below_ext HB.out hb2)
          have HX : Hid (w2.heap[w.heap.size]? = some (.cells (bcells dgZ.1).toArray 29 (0, 0))) := H2.out.ext hb2
          clear hb2 HB H2))
    go_wp2_with (refine wpList_store_d (hgd := rfl) 29 (.tmp 2) (.tmp 7) rfl w.heap.size dgZ.1 Hzl.out rfl rfl 29 _ HX.out rfl dig_sz ?_; intro w7 hc7 hg7 hz7)
    refine bodyPost_ret (v := .tuple #[dv dgZ.1, .int .i64 360]) (results_row2 rfl _ _ w.heap.size 29 (bcells dgZ.1).toArray (0, 0) _ (.int .i64 360) rfl rfl hc7.out Tryd.underlying29 rfl (by rw [List.size_toArray, bcells_length, Hzl.out]; exact dig_sz)) rfl ?_
    exact ⟨rfl, HB2.out.grown hg7.out HB2.out.size (fun k hk => by injection hk; omega)⟩
end Go.Proofs.YtbonebmboolemaaDoor
