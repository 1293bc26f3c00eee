/- what every chapter leans on: worlds below a bound, bytes that are read. -/
import Derived.Test.YtmhmenmkgbebcaaDoorMem
import Derived.Below
import Derived.Laws.BytesArg
import Derived.Lib.ConvBytes
namespace Go.Proofs.YtmhmenmkgbebcaaDoor
open Go.RowKit

theorem below_after {w w' : World} {ob : Obj} (h : Below (w.alloc ob).heap.size (w.alloc ob) w') : Below w.heap.size w w' :=
  ((Below.refl _ w).alloc (Nat.le_refl _) ob).trans (h.mono (by simp))
theorem below_box {w w' : World} {ob : Obj} (h : Below (w.heap.size + 1) (w.alloc ob) w') : Below w.heap.size w w' :=
  ((Below.refl _ w).alloc (Nat.le_refl _) ob).trans (h.mono (by omega))
theorem below_ext {w w1 w2 : World} (h : Below w.heap.size w w1) (h2 : Below w1.heap.size w1 w2) : Below w.heap.size w w2 := h.trans (h2.mono h.size)
theorem below_undrew {B : Nat} {w w' : World} (h : Below B w.drew w') : Below B w w' := ⟨h.os, h.tape, h.output, h.size, h.block⟩
theorem cell_ext {w w' : World} (hb : Below w.heap.size w w') {p : Addr} {v : Value} (h : w.cell? p = some v) : w'.cell? p = some v := (hb.cell (World.block_lt_of_cell? w p h)).trans h
/-- bytes in blocks below B -/
def BtsAt (B : Nat) (w : World) (l : List UInt8) (v : Value) : Prop :=
  (l = [] ∧ ∃ oa cap, v = .slice oa 0 cap ∧ cap ≤ maxLen) ∨ (l ≠ [] ∧ ∃ b off cap, v = .slice (some ⟨b, off, none⟩) l.length cap ∧ l.length ≤ cap ∧ cap ≤ maxLen ∧ b < B ∧ ∀ j c, l[j]? = some c → w.cell? ⟨b, off + j, none⟩ = some (.int .u8 (c.toNat : Int)))
theorem BtsAt.keep {B B' : Nat} {w w' : World} {l : List UInt8} {v : Value} (h : BtsAt B w l v) (hB : B ≤ B') (hs : ∀ k, k < B → w'.heap[k]? = w.heap[k]?) : BtsAt B' w' l v := by
  rcases h with h | ⟨hne, b, off, cap, h1, h2, h3, h4, h5⟩
  · exact .inl h
  · exact .inr ⟨hne, b, off, cap, h1, h2, h3, Nat.lt_of_lt_of_le h4 hB, fun j c hj => by rw [World.cell?_of_block (w := w) (hs _ h4)]; exact h5 j c hj⟩

theorem BtsAt.mk' {B : Nat} {w : World} {l : List UInt8} {b off cap n : Nat} (hn : n = l.length) (h2 : l.length ≤ cap) (h3 : cap ≤ maxLen) (h4 : b < B) (h5 : ∀ j c, l[j]? = some c → w.cell? ⟨b, off + j, none⟩ = some (.int .u8 (c.toNat : Int))) : BtsAt B w l (.slice (some ⟨b, off, none⟩) n cap) := by
  subst hn
  by_cases h : l = []
  · subst h; exact .inl ⟨rfl, _, cap, rfl, h3⟩
  · exact .inr ⟨h, b, off, cap, rfl, h2, h3, h4, h5⟩
theorem BtsAt.form {B : Nat} {w : World} {l : List UInt8} {v : Value} (h : BtsAt B w l v) : ∃ oa cap, v = .slice oa l.length cap ∧ l.length ≤ cap ∧ cap ≤ maxLen := by
  rcases h with ⟨rfl, oa, cap, rfl, h⟩ | ⟨_, b, off, cap, rfl, h2, h3, _⟩
  · exact ⟨oa, cap, rfl, Nat.zero_le _, h⟩
  · exact ⟨_, cap, rfl, h2, h3⟩
theorem RdB.bts {w : World} {l : List UInt8} {v : Value} (h : RdB w v l) : BtsAt w.heap.size w l v := by
  rcases h with ⟨rfl, rfl⟩ | ⟨⟨b, off, sp⟩, cap, rfl, hs, h2, h3, h4⟩
  · exact .inl ⟨rfl, none, 0, rfl, Nat.zero_le _⟩
  · by_cases hl : l = []
    · subst hl; exact .inl ⟨rfl, _, cap, rfl, h3⟩
    · rcases hs with hs | hs
      · exact absurd hs hl
      · have hsp : sp = none := hs
        subst hsp
        have hc : ∀ j c, l[j]? = some c → w.cell? ⟨b, off + j, none⟩ = some (.int .u8 (c.toNat : Int)) := fun j c hj => by
          have := h4 j (.int .u8 (c.toNat : Int)) (by simp [bcells, hj])
          have hplain : (⟨b, off, none⟩ : Addr).add j = ⟨b, off + j, none⟩ := by unfold Addr.add; split <;> simp_all
          rw [hplain] at this; exact this
        obtain ⟨c, hc0⟩ : ∃ c, l[0]? = some c := by cases l with | nil => exact absurd rfl hl | cons c _ => exact ⟨c, rfl⟩
        exact .inr ⟨hl, b, off, cap, rfl, h2, h3, World.block_lt_of_cell? w ⟨b, off + 0, none⟩ (hc 0 c hc0), hc⟩
/-- string(b) of bytes that are read -/
theorem run_conv_rd {P : Program} {src dst e : TypeId} (hs : P.underlying src = some (.slice e)) (he : P.underlying e = some (.int .u8)) (hd : P.underlying dst = some .string) {w : World} {v : Value} {l : List UInt8} (h : RdB w v l) :
    (convert src dst v).run P w = .ok (.string ⟨l.toArray⟩) w := by
  rcases h with ⟨rfl, rfl⟩ | ⟨a, cap, rfl, _, _, _, hc⟩
  · rw [run_convert_bytes_nil w src e hs he 0 0 dst hd]; rfl
  · have hl : (loadCells a l.length).run P w = .ok ((l.map fun c => (c.toNat : Int)).map (Value.int .u8)).toArray w := by
      have := run_loadCells_list (P := P) w a (bcells l) hc
      have e : ((l.map fun c => (c.toNat : Int)).map (Value.int .u8)) = bcells l := by simp [bcells]
      rw [e]; simpa [bcells_length] using this
    have e2 : (l.map fun c => (c.toNat : Int)).map (fun n => UInt8.ofNat n.toNat) = l := by
      rw [List.map_map]
      conv => rhs; rw [← List.map_id l]
      exact List.map_congr_left fun c _ => by simp
    rw [run_convert_bytes_string w src dst e _ l.length cap hs he hd, run_bytesToString w a l.length cap _ hl, foldl_push_bytes, e2]
    simp [ByteArray.empty, ByteArray.emptyWithCapacity]
    rfl
theorem run_conv_bts {P : Program} {src dst e : TypeId} (hs : P.underlying src = some (.slice e)) (he : P.underlying e = some (.int .u8)) (hd : P.underlying dst = some .string) {B : Nat} {w : World} {v : Value} {l : List UInt8} (h : BtsAt B w l v) :
    (convert src dst v).run P w = .ok (.string ⟨l.toArray⟩) w := by
  rcases h with ⟨rfl, oa, cap, rfl, hcm⟩ | ⟨hne, b, off, cap, rfl, h2, h3, h4, h5⟩
  · cases oa with
    | none => rw [run_convert_bytes_nil w src e hs he 0 cap dst hd]; rfl
    | some a => exact run_conv_rd hs he hd (l := []) (.inr ⟨a, cap, rfl, .inl rfl, Nat.zero_le _, hcm, by simp [bcells]⟩)
  · refine run_conv_rd hs he hd (.inr ⟨⟨b, off, none⟩, cap, rfl, .inr rfl, h2, h3, fun j u hu => ?_⟩)
    obtain ⟨c, hc, rfl⟩ := bcells_getElem l j u hu
    have hplain : (⟨b, off, none⟩ : Addr).add j = ⟨b, off + j, none⟩ := by unfold Addr.add; split <;> simp_all
    rw [hplain]; exact h5 j c hc

theorem BtsAt.shape {B : Nat} {w : World} {l : List UInt8} {v : Value} (h : BtsAt B w l v) : ∃ oa cap, v = .slice oa l.length cap := by
  rcases h with ⟨rfl, oa, cap, rfl, _⟩ | ⟨_, b, off, cap, rfl, _⟩
  · exact ⟨oa, cap, rfl⟩
  · exact ⟨_, cap, rfl⟩
theorem BtsAt.ext {w w' : World} {l : List UInt8} {v : Value} (h : BtsAt w.heap.size w l v) (hb : Below w.heap.size w w') : BtsAt w'.heap.size w' l v := h.keep hb.size hb.block
theorem conv_bts {B : Nat} {w : World} {v : Value} {l : List UInt8} (h : BtsAt B w l v) : (convert 22 9 v).run Tryd.prog w = .ok (.string ⟨l.toArray⟩) w := run_conv_bts Tryd.underlying22 Tryd.underlying5 Tryd.underlying9 h
theorem conv_B {w : World} {v : Value} {l : List UInt8} (h : RdB w v l) : (convert 22 9 v).run Tryd.prog w = .ok (.string ⟨l.toArray⟩) w := run_conv_rd Tryd.underlying22 Tryd.underlying5 Tryd.underlying9 h
theorem grown_drewN (w : World) (n : Nat) (G : Option Nat) : w.grownBy (w.drewN n) G := ⟨rfl, rfl, rfl, Nat.le_refl _, fun _ _ _ => rfl⟩
theorem grown_drewN' {w w1 : World} {G : Option Nat} (h : w.grownBy w1 G) (n : Nat) : w.grownBy (w1.drewN n) G := ⟨h.os, h.tape, h.output, h.size, h.block⟩
theorem grown_setR {w w1 : World} {R i : Nat} {v : Value} (h : w.grownBy w1 (some R)) : w.grownBy (w1.setCell ⟨R, i, none⟩ v) (some R) :=
  ⟨h.os, h.tape, h.output, by have := h.size; simpa [World.setCell] using this, fun k hk hne => by rw [Below.heap_setCell _ _ _ _ (by show k ≠ R; exact fun e => hne (by rw [e]))]; exact h.block k hk hne⟩
theorem grown_set_new {w w1 : World} {G : Option Nat} {T i : Nat} {v : Value} (h : w.grownBy w1 G) (hT : w.heap.size ≤ T) : w.grownBy (w1.setCell ⟨T, i, none⟩ v) G :=
  ⟨h.os, h.tape, h.output, by have := h.size; simpa [World.setCell] using this, fun k hk hne => by rw [Below.heap_setCell _ _ _ _ (by show k ≠ T; omega)]; exact h.block k hk hne⟩
theorem grown_drew' {w w1 : World} {G : Option Nat} (h : w.grownBy w1 G) : w.grownBy w1.drew G := ⟨h.os, h.tape, h.output, h.size, h.block⟩
theorem grown_setT (w : World) (T i : Nat) (v : Value) : w.grownBy (w.setCell ⟨T, i, none⟩ v) (some T) :=
  ⟨rfl, rfl, rfl, by simp [World.setCell], fun k _ hne => Below.heap_setCell _ _ _ _ (by show k ≠ T; exact fun h => hne (by rw [h]))⟩
/-- []byte(s): a new block with the bytes -/
theorem run_bytes_of (s : ByteArray) (hs : s.size ≤ 1000000) (w : World) :
    ∃ cap w', (convert 9 22 (.string s)).run Tryd.prog w = .ok (.slice (some ⟨w.heap.size, 0, none⟩) s.size cap) w' ∧ Below w.heap.size w w' ∧ BtsAt w'.heap.size w' s.data.toList (.slice (some ⟨w.heap.size, 0, none⟩) s.size cap) := by
  refine ⟨_, _, Lib.run_convert_string_bytes w 9 22 5 s Tryd.underlying9 Tryd.underlying22 Tryd.underlying5, ⟨rfl, rfl, rfl, ?_, ?_⟩, ?_⟩
  · rw [Lib.bytesWorld_size]; omega
  · exact fun k hk => Lib.bytesWorld_at_old w _ s k hk
  · have h1 := grownCap_ge w s.size 0 5
    have h2 := grownCap_le_maxLen w s.size 0 5 (by unfold maxLen; omega)
    refine BtsAt.mk' (by simp) (by simpa using h1) h2 (by rw [Lib.bytesWorld_size]; omega) fun j c hj => ?_
    have hjl : j < s.size := by have := (List.getElem?_eq_some_iff.1 hj).1; simpa using this
    rw [Nat.zero_add, Lib.bytesWorld_cell w _ s j hjl]
    simp [List.getD, hj]
end Go.Proofs.YtmhmenmkgbebcaaDoor
