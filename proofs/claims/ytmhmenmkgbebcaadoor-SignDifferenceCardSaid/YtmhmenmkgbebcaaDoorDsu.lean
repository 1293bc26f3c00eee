/- digest.Sum: what its walk leans on. -/
import Derived.Test.YtmhmenmkgbebcaaDoorDwk
import Derived.Test.YtmhmenmkgbebcaaDoorDab
namespace Go.Proofs.YtmhmenmkgbebcaaDoor
open Go.RowKit
theorem absorbs_succ : ∀ (k : Nat) (s : S8) (l : List UInt8), absorbs (k + 1) s l = blockS (absorbs k s l) ((l.drop (64 * k)).take 64)
  | 0, s, l => by simp [absorbs]
  | k + 1, s, l => by
    rw [absorbs, absorbs_succ k, absorbs, List.drop_drop, show 64 + 64 * k = 64 * (k + 1) by omega]
theorem absorbs_add (m : Nat) : ∀ (k : Nat) (s : S8) (l : List UInt8), absorbs (k + m) s l = absorbs m (absorbs k s l) (l.drop (64 * k))
  | 0, s, l => by simp [absorbs]
  | k + 1, s, l => by
    rw [show k + 1 + m = (k + m) + 1 by omega, absorbs, absorbs_add m k, absorbs, List.drop_drop, show 64 + 64 * k = 64 * (k + 1) by omega]
theorem absorbs_app : ∀ (k : Nat) (s : S8) (l r : List UInt8), 64 * k ≤ l.length → absorbs k s (l ++ r) = absorbs k s l
  | 0, _, _, _, _ => rfl
  | k + 1, s, l, r, h => by
    rw [absorbs, absorbs, List.take_append_of_le_length (by omega), List.drop_append_of_le_length (by omega), absorbs_app k _ _ r (by simp; omega)]
def z128 : List UInt8 := List.replicate 128 0
def slen : Value → Nat | .slice _ n _ => n | _ => 0
theorem run_mk (w : World) : (Instr.makeSlice 22 (.int .i64 64) (.int .i64 128)).run Tryd.prog w = .ok (.slice (some ⟨w.heap.size, 0, none⟩) 64 128) (w.alloc (.cells (bcells z128).toArray 5)) := by kernel_rfl
theorem copy_from {wr : World} {B : Nat} {l : List UInt8} {oa : Option Addr} {n cap : Nat} (h : BtsAt B wr l (.slice oa n cap)) (hB : B ≤ wr.heap.size) (o : Obj) (hpos : 0 < (bcells l).length) : ∃ ad, oa = some ad ∧ ∀ j v, (bcells l)[j]? = some v → (wr.alloc o).cell? (ad.add j) = some v := by
  rcases h with ⟨rfl, _⟩ | ⟨_, b, off, cap', he, h2, h3, h4, h5⟩
  · simp [bcells] at hpos
  · injection he with he1 he2 he3
    refine ⟨_, he1, fun j v hv => ?_⟩
    obtain ⟨c, hc, rfl⟩ := bcells_getElem l j v hv
    have hpl : (⟨b, off, none⟩ : Addr).add j = ⟨b, off + j, none⟩ := by unfold Addr.add; split <;> simp_all
    rw [hpl, World.cell?_of_block (w := wr) (Below.heap_alloc wr o b (by omega))]
    exact h5 j c hc
theorem splice_map {α β : Type} (f : α → β) (L : List α) (off : Nat) (cs : List α) : splice (L.map f) off (cs.map f) = (splice L off cs).map f := by simp [splice]
def ub (c : UInt8) : Value := .int .u8 c.toNat
theorem bcells_map (l : List UInt8) : bcells l = l.map ub := rfl
theorem tail_list (r B : List UInt8) (m : Nat) (hB : B.length = 8) (h1 : r.length + 9 ≤ m) (h2 : m ≤ 128) :
    splice ((splice z128 0 r).set r.length 128) (m - 8) B = r ++ 128 :: (List.replicate (m - 9 - r.length) 0 ++ (B ++ List.replicate (128 - m) 0)) := by
  have e1 : splice z128 0 r = r ++ 0 :: List.replicate (127 - r.length) 0 := by
    simp only [splice, List.take_zero, List.nil_append, z128, List.drop_replicate]
    rw [← List.replicate_succ]; congr 2; omega
  have e2 : (splice z128 0 r).set r.length 128 = r ++ 128 :: List.replicate (127 - r.length) 0 := by
    rw [e1, List.set_append_right _ _ (Nat.le_refl _), Nat.sub_self]; rfl
  rw [e2]
  have e3 : (r ++ 128 :: List.replicate (127 - r.length) 0).take (m - 8) = r ++ 128 :: List.replicate (m - 9 - r.length) 0 := by
    rw [List.take_append, List.take_of_length_le (by omega), show m - 8 - r.length = (m - 9 - r.length) + 1 by omega, List.take_succ_cons, List.take_replicate]
    congr 3; omega
  have e4 : (r ++ 128 :: List.replicate (127 - r.length) 0).drop (m - 8 + B.length) = List.replicate (128 - m) (0 : UInt8) := by
    rw [List.drop_append, List.drop_of_length_le (by omega), hB, show m - 8 + 8 - r.length = (m - 1 - r.length) + 1 by omega, List.drop_succ_cons, List.drop_replicate, List.nil_append]
    congr 1; omega
  unfold splice
  rw [e3, e4]; simp
theorem tail_cells (r : List UInt8) (m n : Nat) (h1 : r.length + 9 ≤ m) (h2 : m ≤ 128) :
    splice ((splice (bcells z128) 0 (bcells r)).set r.length (.int .u8 128)) (m - 8) (bcells (be 8 n)) = bcells (r ++ 128 :: (List.replicate (m - 9 - r.length) 0 ++ (be 8 n ++ List.replicate (128 - m) 0))) := by
  have e : (Value.int .u8 128) = ub 128 := rfl
  rw [bcells_map z128, bcells_map r, splice_map, e, ← List.map_set, bcells_map (be 8 n), splice_map, tail_list r (be 8 n) m (be_len 8 n) h1 h2]; rfl
/-- the end of the padded bytes -/
def endL (l r : List UInt8) (m : Nat) : List UInt8 := r ++ 128 :: (List.replicate (m - 9 - r.length) 0 ++ be 8 (8 * l.length))
theorem endL_len (l r : List UInt8) (m : Nat) (h1 : r.length + 9 ≤ m) : (endL l r m).length = m := by simp [endL, be_len]; omega
theorem pad_split (l : List UInt8) (k m : Nat) (hk : 64 * k ≤ l.length) (h63 : (l.drop (64 * k)).length ≤ 63) (hm : (m = 64 ∧ (l.drop (64 * k)).length ≤ 55) ∨ (m = 128 ∧ 55 < (l.drop (64 * k)).length)) :
    pad l = l.take (64 * k) ++ endL l (l.drop (64 * k)) m := by
  unfold pad endL
  conv => lhs; lhs; rw [← List.take_append_drop (64 * k) l]
  rw [List.append_assoc]
  rw [List.length_drop] at *
  congr 5; omega
theorem sha_split (l : List UInt8) (k m : Nat) (hk : 64 * k ≤ l.length) (h63 : (l.drop (64 * k)).length ≤ 63) (hm : (m = 64 ∧ (l.drop (64 * k)).length ≤ 55) ∨ (m = 128 ∧ 55 < (l.drop (64 * k)).length)) :
    sha l = (absorbs (m / 64) (absorbs k startS l) (endL l (l.drop (64 * k)) m)).l.flatMap fun x => be 4 x.toNat := by
  have hp := pad_split l k m hk h63 hm
  have hl : (l.take (64 * k)).length = 64 * k := by rw [List.length_take]; omega
  have hpl : (pad l).length / 64 = k + m / 64 := by rw [hp, List.length_append, hl, endL_len _ _ _ (by omega)]; omega
  unfold sha
  rw [hpl, absorbs_add]
  have h1 : (pad l).drop (64 * k) = endL l (l.drop (64 * k)) m := by rw [hp, List.drop_append_of_le_length (by omega), List.drop_of_length_le (by omega), List.nil_append]
  have h2 : absorbs k startS (pad l) = absorbs k startS l := by unfold pad; exact absorbs_app k startS l _ hk
  rw [h1, h2]
theorem absorbs_one (s : S8) (t : List UInt8) (h : t.length = 64) : absorbs (64 / 64) s t = blockS s t := by
  show absorbs 1 s t = _; simp only [absorbs]; rw [List.take_of_length_le (by omega)]
theorem absorbs_two (s : S8) (t : List UInt8) (h : t.length = 128) : absorbs (128 / 64) s t = blockS (blockS s (t.take 64)) (t.drop 64) := by
  show absorbs 2 s t = _; simp only [absorbs]; rw [List.take_of_length_le (l := t.drop 64) (by simp; omega)]
def SumRel (w : World) (l : List UInt8) (v : Value) (wr : World) : Prop :=
  ∃ k : Nat, 64 * k ≤ l.length ∧ BtsAt w.heap.size wr (l.drop (64 * k)) v ∧ CB wr (w.heap.size + 1) 76 ((absorbs k startS l).l.map iw32) ∧ CB wr w.heap.size 35 (bcells (List.replicate 32 0)) ∧ w.grownBy wr none
theorem sumRel_next {w wr w1 : World} {l : List UInt8} {k b off n cp cp' : Nat} {oa : Option Addr} (hk : 64 * k + 64 ≤ l.length) (hn : (l.drop (64 * k)).length = n) (h2 : n ≤ cp) (h3 : cp ≤ maxLen) (h4 : b < w.heap.size) (h5 : ∀ j c, (l.drop (64 * k))[j]? = some c → wr.cell? ⟨b, off + j, none⟩ = some (.int .u8 (c.toNat : Int)))
    (hcp : (n = 64 ∧ cp' ≤ maxLen) ∨ (oa = some ⟨b, off + 64, none⟩ ∧ cp' = cp - 64)) (hs : CB w1 (w.heap.size + 1) 76 ((blockS (absorbs k startS l) ((l.drop (64 * k)).take 64)).l.map iw32)) (hd : CB wr w.heap.size 35 (bcells (List.replicate 32 0)))
    (hg : w.grownBy wr none) (hg1 : wr.grownBy w1 (some (w.heap.size + 1))) : SumRel w l (.slice oa (n - 64) cp') w1 := by
  have hdl : (l.drop (64 * (k + 1))).length = n - 64 := by rw [List.length_drop] at *; omega
  have hgs := hg.size
  refine ⟨k + 1, by omega, ?_, by rw [absorbs_succ]; exact hs, hd.keep (hg1.block _ hd.lt (by simp)), grown_trans hg hg1 (.inr fun g hg => by injection hg; omega)⟩
  rcases hcp with ⟨h64, hcm⟩ | ⟨rfl, rfl⟩
  · have h0 : l.drop (64 * (k + 1)) = [] := List.eq_nil_of_length_eq_zero (by omega)
    rw [h0, h64]; exact .inl ⟨rfl, oa, cp', rfl, hcm⟩
  · refine BtsAt.mk' hdl.symm (by omega) (by omega) h4 fun j c hj => ?_
    have h1 : (l.drop (64 * k))[64 + j]? = some c := by rw [← hj, List.getElem?_drop, List.getElem?_drop]; congr 1; omega
    have h2 := h5 _ c h1
    rw [World.cell?_of_block (w := wr) (hg1.block b (by omega) (fun e => by injection e; omega)), Nat.add_assoc]; exact h2
/-- behind the loop over whole blocks: the state, the end's bytes, the digest's box -/
structure SumMid (w w5 : World) (E : Nat) (e : List UInt8) (st : S8) : Prop where
  he : CB w5 E 5 (bcells e)
  hs : CB w5 (w.heap.size + 1) 76 (st.l.map iw32)
  hd : CB w5 w.heap.size 35 (bcells (List.replicate 32 0))
  hg : w.grownBy w5 none
  hE : w.heap.size + 2 ≤ E
theorem SumMid.next {w w5 w6 : World} {E : Nat} {e : List UInt8} {st st' : S8} (h : SumMid w w5 E e st) (hs : CB w6 (w.heap.size + 1) 76 (st'.l.map iw32)) (hg : w5.grownBy w6 (some (w.heap.size + 1))) : SumMid w w6 E e st' :=
  ⟨h.he.keep (hg.block E h.he.lt (by have := h.hE; intro e; injection e; omega)), hs, h.hd.keep (hg.block _ h.hd.lt (by simp)), grown_trans h.hg hg (.inr fun g hg => by injection hg; omega), h.hE⟩
theorem CB.bl {w : World} {E : Nat} {t : TypeId} {e : List UInt8} (h : CB w E t (bcells e)) (off : Nat) : BL w E off (e.drop off) := fun j c hj => by
  rw [h.cell, bcells]; rw [List.getElem?_drop] at hj; simp [hj]
theorem SumMid.absorb {w w5 : World} {E : Nat} {e : List UInt8} {st : S8} (h : SumMid w w5 E e st) (hL : Laid w) (off cap : Nat) (hoff : off + 64 ≤ e.length) (hcap : 64 ≤ cap) (hc : cap ≤ 128) :
    Calls Tryd.prog 67 #[.pointer (some ⟨w.heap.size + 1, 0, none⟩), .slice (some ⟨E, off, none⟩) 64 cap] w5 fun x w6 => x = .returned (.tuple #[]) ∧ SumMid w w6 E e (blockS st ((e.drop off).take 64)) := by
  refine (absorb_any (w.heap.size + 1) E off cap st ((e.drop off).take 64) w5 (by simp; omega) hcap (by unfold maxLen; omega) h.he.lt ((h.he.bl off).take 64) h.hs (by have := h.hE; omega) (hL.grown h.hg (by simp))).mono ?_
  rintro x w6 ⟨rfl, h1, h2⟩
  exact ⟨rfl, h.next h1 h2⟩
/-- the loop over the words of the state: what is written -/
def OutRel (w : World) (st : S8) (i : Value) (wr : World) : Prop :=
  ∃ k : Nat, k ≤ 8 ∧ i = .int .i64 k ∧ CB wr w.heap.size 35 (bcells (((st.l.take k).flatMap fun x => be 4 x.toNat) ++ List.replicate (32 - 4 * k) 0)) ∧ w.grownBy wr none
theorem out_len (st : S8) (k : Nat) (h : k ≤ 8) : ((st.l.take k).flatMap fun x => be 4 x.toNat).length = 4 * k := by
  rcases (by omega : k = 0 ∨ k = 1 ∨ k = 2 ∨ k = 3 ∨ k = 4 ∨ k = 5 ∨ k = 6 ∨ k = 7 ∨ k = 8) with rfl | rfl | rfl | rfl | rfl | rfl | rfl | rfl | rfl <;> simp [S8.l, be_len]
theorem out_step (st : S8) (k : Nat) (h : k < 8) : splice (bcells (((st.l.take k).flatMap fun x => be 4 x.toNat) ++ List.replicate (32 - 4 * k) 0)) (4 * k) (bcells (be 4 (st.l.getD k 0).toNat)) = bcells (((st.l.take (k + 1)).flatMap fun x => be 4 x.toNat) ++ List.replicate (32 - 4 * (k + 1)) 0) := by
  have hl := out_len st k (by omega)
  have hk : k < st.l.length := by simp [S8.l]; omega
  have h1 : st.l.take (k + 1) = st.l.take k ++ [st.l.getD k 0] := by rw [List.take_succ_eq_append_getElem hk]; simp [hk]
  rw [h1, List.flatMap_append]
  generalize ((st.l.take k).flatMap fun x => be 4 x.toNat) = A at *
  rw [bcells_map, bcells_map (be 4 _), splice_map, bcells_map]
  congr 1
  unfold splice
  rw [List.take_append_of_le_length (by omega), List.take_of_length_le (by omega), be_len, List.drop_append, List.drop_of_length_le (by omega), List.nil_append, List.drop_replicate, hl]
  simp only [List.flatMap_cons, List.flatMap_nil, List.append_nil, List.append_assoc]
  congr 3; omega
theorem idx8 (st : S8) (k : Nat) (h : k < 8) (w : World) : (Instr.index 76 (.agg #[.int .u32 (iw st.a), .int .u32 (iw st.b), .int .u32 (iw st.c), .int .u32 (iw st.d), .int .u32 (iw st.e), .int .u32 (iw st.f), .int .u32 (iw st.g), .int .u32 (iw st.h)]) (.int .i64 (k : Int))).run Tryd.prog w = .ok (.int .u32 (iw (st.l.getD k 0))) w := by
  rcases (by omega : k = 0 ∨ k = 1 ∨ k = 2 ∨ k = 3 ∨ k = 4 ∨ k = 5 ∨ k = 6 ∨ k = 7) with rfl | rfl | rfl | rfl | rfl | rfl | rfl | rfl <;> kernel_rfl
end Go.Proofs.YtmhmenmkgbebcaaDoor
