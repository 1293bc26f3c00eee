/- Merged: Mem Bas App Cbk Inl Gel Cmp Led Lpa. -/
import Derived.Test.YtlocilbcmcfmaaaRows
import Derived.WalkKit
import Derived.WalkSpells
import Derived.WalkLawsBesides
import Derived.Lib.Hide
import Derived.Deep.AppendLies
import Derived.Below
import Derived.Laws.BytesArg
import Derived.Lib.ConvBytes
import Derived.Deep.AppendSrc
import Derived.Lib.Overlaps
import Derived.Lib.AppendZerosOnto
import Derived.Laws.CopyRow
import Derived.Deep.RegionHeld3
import Derived.Deep.QuietTactic
import Derived.BigQuiet
import Derived.Defers
import Derived.Recover
namespace Go.Proofs.Ytlocilbcmcfmaaa
open Go.RowKit

/-- the cells of bytes -/
def bcells (l : List UInt8) : List Value := l.map fun c => .int .u8 c.toNat
theorem bcells_length (l : List UInt8) : (bcells l).length = l.length := by simp [bcells]
theorem bcells_append (a b : List UInt8) : bcells (a ++ b) = bcells a ++ bcells b := by simp [bcells]
theorem bcells_one (l : List UInt8) : ∀ u ∈ bcells l, u.oneCell' = true := by
  intro u hu; simp only [bcells, List.mem_map] at hu; obtain ⟨c, _, rfl⟩ := hu; rfl
theorem bcells_getElem (l : List UInt8) (j : Nat) (u : Value) (h : (bcells l)[j]? = some u) : ∃ c, l[j]? = some c ∧ u = .int .u8 c.toNat := by
  simp only [bcells, List.getElem?_map, Option.map_eq_some_iff] at h
  obtain ⟨c, h1, h2⟩ := h; exact ⟨c, h1, h2.symm⟩

/-- a slice of bytes that the call itself made -/
def OwnB (e : TypeId) (w : World) (base : Nat) (v : Value) (l : List UInt8) : Prop := w.ownsRow base e 1 v l.length (bcells l)
theorem OwnB.nil (e : TypeId) (w : World) (base : Nat) : OwnB e w base (.slice none 0 0) [] := World.ownsRow_nil w base e 1
theorem OwnB.alloc {e : TypeId} {w : World} {base : Nat} {v : Value} {l : List UInt8} (h : OwnB e w base v l) (o : Obj) : OwnB e (w.alloc o) base v l := World.ownsRow.alloc h o
theorem OwnB.kept {e : TypeId} {w w' : World} {base : Nat} {v : Value} {l : List UInt8} {row : Option Nat} (h : OwnB e w base v l) (hg : w.grownBy w' row) (hne : v.ownBlock = none ∨ v.ownBlock ≠ row) : OwnB e w' base v l := World.ownsRow.kept h hg hne

/-- the block of the new slice is the old one's, or new -/
def Next (w : World) (v v' : Value) : Prop := v'.ownBlock = v.ownBlock ∨ ∀ g, v'.ownBlock = some g → w.heap.size ≤ g
theorem Next.refl (w : World) (v : Value) : Next w v v := .inl rfl
theorem Next.trans {w w1 : World} {v v1 v2 : Value} (h : Next w v v1) (hs : w.heap.size ≤ w1.heap.size) (h2 : Next w1 v1 v2) : Next w v v2 := by
  rcases h2 with h2 | h2
  · rcases h with h | h
    · exact .inl (h2.trans h)
    · exact .inr fun g hg => h g (h2 ▸ hg)
  · exact .inr fun g hg => Nat.le_trans hs (h2 g hg)
theorem grown_trans {w w1 w2 : World} {G G1 : Option Nat} (h : w.grownBy w1 G) (h2 : w1.grownBy w2 G1) (hG : G1 = G ∨ ∀ g, G1 = some g → w.heap.size ≤ g) : w.grownBy w2 G :=
  ⟨h2.os.trans h.os, h2.tape.trans h.tape, h2.output.trans h.output, Nat.le_trans h.size h2.size, fun k hk hne => by
    rw [h2.block k (Nat.lt_of_lt_of_le hk h.size) (fun e => by rcases hG with hG | hG; exact hne (e.trans hG); have := hG k e.symm; omega)]
    exact h.block k hk hne⟩
theorem grown_refl (w : World) (G : Option Nat) : w.grownBy w G := ⟨rfl, rfl, rfl, Nat.le_refl _, fun _ _ _ => rfl⟩
theorem grown_alloc {w w1 : World} {G : Option Nat} (h : w.grownBy w1 G) (o : Obj) : w.grownBy (w1.alloc o) G := grown_trans h (World.grownBy_alloc w1 o G) (.inl rfl)

/-- a slice of bytes that is read -/
def RdB (w : World) (v : Value) (l : List UInt8) : Prop :=
  (v = .slice none 0 0 ∧ l = []) ∨ ∃ a cap, v = .slice (some a) l.length cap ∧ (l = [] ∨ a.spot = none) ∧ l.length ≤ cap ∧ cap ≤ maxLen ∧ ∀ j u, (bcells l)[j]? = some u → w.cell? (a.add j) = some u

section
variable {P : Program} {w : World} {ops : Array Oper} {rest : List Oper} {o : Oper} {a : Act} {Q : Exit → Act → World → Prop}

/-- append of bytes that lie at an address -/
theorem wpList_append_b {t e : TypeId} (ht : P.underlying t = some (.slice e)) (he : (P.info? e).map (fun i => (i.zero, i.size, i.bytes)) = some (some (.int .u8 0), 1, 1))
    (hgd : o.guard = none) (s x : Operand) (ho : o.op = .call { callee := .builtin .append, args := #[s, x], argTypes := #[t, t] })
    (base : Nat) (v : Value) (l : List UInt8) (hs : a.eval s = v) (hown : OwnB e w base v l)
    (ad : Addr) (c : Nat) (m : List UInt8) (hx : a.eval x = .slice (some ad) m.length c) (hm : ∀ j u, (bcells m)[j]? = some u → w.cell? (ad.add j) = some u)
    (hl : l.length + m.length ≤ 140737488355328) (hbase : base ≤ w.heap.size)
    (h : ∀ v' w', OwnB e w' base v' (l ++ m) → w.grownBy w' v.ownBlock → Next w v v' → wpList P ops Q rest (a.put o.dst v') w') : wpList P ops Q (o :: rest) a w := by
  obtain ⟨i0, hi, hz0, hz1, hz2⟩ := info_parts he
  obtain ⟨v', w', hr, h2, h3, _, h5⟩ := run_append_own_at (P := P) w base t o.type e i0 (.int .u8 0) 1 1 ht hi hz0 hz1 hz2 rfl (by decide) v l.length (bcells l) hown ad m.length c (bcells m) (by simp [bcells_length]) hm (bcells_one m) (by unfold maxLen; omega) (by omega) hbase
  refine wpList_plain hgd fun _ hK => ?_
  unfold Oper.wp execOp
  simp only [ho, resolve, invoke, builtin, Sem.run_bind, Sem.run_pure, Result.andThen_ok, List.map_toArray, List.map_cons, List.map_nil, hs, hx, hr]
  refine hK _ _ (h v' w' ?_ h3 ?_)
  · unfold OwnB; rw [bcells_append, List.length_append]; exact h2
  · rcases h5 with h5 | h5
    · exact .inl h5
    · exact .inr fun g hg => by rw [h5] at hg; cases hg; exact Nat.le_refl _
theorem step_append_b {K : Act → World → Prop} {E : Prop} {t e : TypeId} (ht : P.underlying t = some (.slice e)) (he : (P.info? e).map (fun i => (i.zero, i.size, i.bytes)) = some (some (.int .u8 0), 1, 1))
    (hgd : o.guard = none) (s x : Operand) (ho : o.op = .call { callee := .builtin .append, args := #[s, x], argTypes := #[t, t] })
    (base : Nat) (v : Value) (l : List UInt8) (hs : a.eval s = v) (hown : OwnB e w base v l)
    (ad : Addr) (c : Nat) (m : List UInt8) (hx : a.eval x = .slice (some ad) m.length c) (hm : ∀ j u, (bcells m)[j]? = some u → w.cell? (ad.add j) = some u)
    (hl : l.length + m.length ≤ 140737488355328) (hbase : base ≤ w.heap.size)
    (h : ∀ v' w', OwnB e w' base v' (l ++ m) → w.grownBy w' v.ownBlock → Next w v v' → K (a.put o.dst v') w') :
    if Region.wanted o (yielded ops a.tmps) = true then Oper.wp P o a w K Q else E := by
  have hw : Region.wanted o (yielded ops a.tmps) = true := by simp [Region.wanted, hgd]
  rw [if_pos hw]
  obtain ⟨i0, hi, hz0, hz1, hz2⟩ := info_parts he
  obtain ⟨v', w', hr, h2, h3, _, h5⟩ := run_append_own_at (P := P) w base t o.type e i0 (.int .u8 0) 1 1 ht hi hz0 hz1 hz2 rfl (by decide) v l.length (bcells l) hown ad m.length c (bcells m) (by simp [bcells_length]) hm (bcells_one m) (by unfold maxLen; omega) (by omega) hbase
  unfold Oper.wp execOp
  simp only [ho, resolve, invoke, builtin, Sem.run_bind, Sem.run_pure, Result.andThen_ok, List.map_toArray, List.map_cons, List.map_nil, hs, hx, hr]
  refine h v' w' ?_ h3 ?_
  · unfold OwnB; rw [bcells_append, List.length_append]; exact h2
  · rcases h5 with h5 | h5
    · exact .inl h5
    · exact .inr fun g hg => by rw [h5] at hg; cases hg; exact Nat.le_refl _
end

/-! numerals -/
def loDig (y : Nat) : UInt8 := y.toUInt8
def hiDig (y : Nat) : UInt8 := (y % 128 + 128).toUInt8
def numF : Nat → Nat → List UInt8
  | 0, u => [loDig u]
  | f + 1, u => if u < 128 then [loDig u] else hiDig u :: numF f (u / 128)
def num (u : Nat) : List UInt8 := numF 9 u
theorem numF_len (f u : Nat) : (numF f u).length ≤ f + 1 := by
  induction f generalizing u with
  | zero => simp [numF]
  | succ f ih => unfold numF; split <;> simp; exact ih _
theorem numF_pos (f u : Nat) : 0 < (numF f u).length := by cases f <;> simp [numF] <;> split <;> simp

theorem or128 : ∀ b : Fin 256, bits BinOp.or IntKind.u8 ((b : Nat) : Int) 128 = (((b.val % 128 + 128 : Nat)) : Int) := by decide +kernel
end Go.Proofs.Ytlocilbcmcfmaaa
/- what every chapter leans on: worlds below a bound, bytes that are read. -/
namespace Go.Proofs.Ytlocilbcmcfmaaa
open Go.RowKit

theorem below_after {w w' : World} {ob : Obj} (h : Below (w.alloc ob).heap.size (w.alloc ob) w') : Below w.heap.size w w' :=
  ((Below.refl _ w).alloc (Nat.le_refl _) ob).trans (h.mono (by simp))
theorem below_box {w w' : World} {ob : Obj} (h : Below (w.heap.size + 1) (w.alloc ob) w') : Below w.heap.size w w' :=
  ((Below.refl _ w).alloc (Nat.le_refl _) ob).trans (h.mono (by omega))
theorem below_ext {w w1 w2 : World} (h : Below w.heap.size w w1) (h2 : Below w1.heap.size w1 w2) : Below w.heap.size w w2 := h.trans (h2.mono h.size)
theorem below_undrew {B : Nat} {w w' : World} (h : Below B w.drew w') : Below B w w' := ⟨h.os, h.tape, h.output, h.size, h.block⟩
theorem cell_ext {w w' : World} (hb : Below w.heap.size w w') {p : Addr} {v : Value} (h : w.cell? p = some v) : w'.cell? p = some v := (hb.cell (World.block_lt_of_cell? w p h)).trans h
/-- bytes in blocks below B -/
def BtsAt (B : Nat) (w : World) (l : List UInt8) (v : Value) : Prop :=
  (l = [] ∧ ∃ oa cap, v = .slice oa 0 cap ∧ cap ≤ maxLen) ∨ (l ≠ [] ∧ ∃ b off cap, v = .slice (some ⟨b, off, none⟩) l.length cap ∧ l.length ≤ cap ∧ cap ≤ maxLen ∧ b < B ∧ ∀ j c, l[j]? = some c → w.cell? ⟨b, off + j, none⟩ = some (.int .u8 (c.toNat : Int)))
theorem BtsAt.keep {B B' : Nat} {w w' : World} {l : List UInt8} {v : Value} (h : BtsAt B w l v) (hB : B ≤ B') (hs : ∀ k, k < B → w'.heap[k]? = w.heap[k]?) : BtsAt B' w' l v := by
  rcases h with h | ⟨hne, b, off, cap, h1, h2, h3, h4, h5⟩
  · exact .inl h
  · exact .inr ⟨hne, b, off, cap, h1, h2, h3, Nat.lt_of_lt_of_le h4 hB, fun j c hj => by rw [World.cell?_of_block (w := w) (hs _ h4)]; exact h5 j c hj⟩

theorem BtsAt.mk' {B : Nat} {w : World} {l : List UInt8} {b off cap n : Nat} (hn : n = l.length) (h2 : l.length ≤ cap) (h3 : cap ≤ maxLen) (h4 : b < B) (h5 : ∀ j c, l[j]? = some c → w.cell? ⟨b, off + j, none⟩ = some (.int .u8 (c.toNat : Int))) : BtsAt B w l (.slice (some ⟨b, off, none⟩) n cap) := by
  subst hn
  by_cases h : l = []
  · subst h; exact .inl ⟨rfl, _, cap, rfl, h3⟩
  · exact .inr ⟨h, b, off, cap, rfl, h2, h3, h4, h5⟩
theorem BtsAt.form {B : Nat} {w : World} {l : List UInt8} {v : Value} (h : BtsAt B w l v) : ∃ oa cap, v = .slice oa l.length cap ∧ l.length ≤ cap ∧ cap ≤ maxLen := by
  rcases h with ⟨rfl, oa, cap, rfl, h⟩ | ⟨_, b, off, cap, rfl, h2, h3, _⟩
  · exact ⟨oa, cap, rfl, Nat.zero_le _, h⟩
  · exact ⟨_, cap, rfl, h2, h3⟩
theorem RdB.bts {w : World} {l : List UInt8} {v : Value} (h : RdB w v l) : BtsAt w.heap.size w l v := by
  rcases h with ⟨rfl, rfl⟩ | ⟨⟨b, off, sp⟩, cap, rfl, hs, h2, h3, h4⟩
  · exact .inl ⟨rfl, none, 0, rfl, Nat.zero_le _⟩
  · by_cases hl : l = []
    · subst hl; exact .inl ⟨rfl, _, cap, rfl, h3⟩
    · rcases hs with hs | hs
      · exact absurd hs hl
      · have hsp : sp = none := hs
        subst hsp
        have hc : ∀ j c, l[j]? = some c → w.cell? ⟨b, off + j, none⟩ = some (.int .u8 (c.toNat : Int)) := fun j c hj => by
          have := h4 j (.int .u8 (c.toNat : Int)) (by simp [bcells, hj])
          have hplain : (⟨b, off, none⟩ : Addr).add j = ⟨b, off + j, none⟩ := by unfold Addr.add; split <;> simp_all
          rw [hplain] at this; exact this
        obtain ⟨c, hc0⟩ : ∃ c, l[0]? = some c := by cases l with | nil => exact absurd rfl hl | cons c _ => exact ⟨c, rfl⟩
        exact .inr ⟨hl, b, off, cap, rfl, h2, h3, World.block_lt_of_cell? w ⟨b, off + 0, none⟩ (hc 0 c hc0), hc⟩
/-- string(b) of bytes that are read -/
theorem run_conv_rd {P : Program} {src dst e : TypeId} (hs : P.underlying src = some (.slice e)) (he : P.underlying e = some (.int .u8)) (hd : P.underlying dst = some .string) {w : World} {v : Value} {l : List UInt8} (h : RdB w v l) :
    (convert src dst v).run P w = .ok (.string ⟨l.toArray⟩) w := by
  rcases h with ⟨rfl, rfl⟩ | ⟨a, cap, rfl, _, _, _, hc⟩
  · rw [run_convert_bytes_nil w src e hs he 0 0 dst hd]; rfl
  · have hl : (loadCells a l.length).run P w = .ok ((l.map fun c => (c.toNat : Int)).map (Value.int .u8)).toArray w := by
      have := run_loadCells_list (P := P) w a (bcells l) hc
      have e : ((l.map fun c => (c.toNat : Int)).map (Value.int .u8)) = bcells l := by simp [bcells]
      rw [e]; simpa [bcells_length] using this
    have e2 : (l.map fun c => (c.toNat : Int)).map (fun n => UInt8.ofNat n.toNat) = l := by
      rw [List.map_map]
      conv => rhs; rw [← List.map_id l]
      exact List.map_congr_left fun c _ => by simp
    rw [run_convert_bytes_string w src dst e _ l.length cap hs he hd, run_bytesToString w a l.length cap _ hl, foldl_push_bytes, e2]
    simp [ByteArray.empty, ByteArray.emptyWithCapacity]
    rfl
theorem run_conv_bts {P : Program} {src dst e : TypeId} (hs : P.underlying src = some (.slice e)) (he : P.underlying e = some (.int .u8)) (hd : P.underlying dst = some .string) {B : Nat} {w : World} {v : Value} {l : List UInt8} (h : BtsAt B w l v) :
    (convert src dst v).run P w = .ok (.string ⟨l.toArray⟩) w := by
  rcases h with ⟨rfl, oa, cap, rfl, hcm⟩ | ⟨hne, b, off, cap, rfl, h2, h3, h4, h5⟩
  · cases oa with
    | none => rw [run_convert_bytes_nil w src e hs he 0 cap dst hd]; rfl
    | some a => exact run_conv_rd hs he hd (l := []) (.inr ⟨a, cap, rfl, .inl rfl, Nat.zero_le _, hcm, by simp [bcells]⟩)
  · refine run_conv_rd hs he hd (.inr ⟨⟨b, off, none⟩, cap, rfl, .inr rfl, h2, h3, fun j u hu => ?_⟩)
    obtain ⟨c, hc, rfl⟩ := bcells_getElem l j u hu
    have hplain : (⟨b, off, none⟩ : Addr).add j = ⟨b, off + j, none⟩ := by unfold Addr.add; split <;> simp_all
    rw [hplain]; exact h5 j c hc

theorem BtsAt.shape {B : Nat} {w : World} {l : List UInt8} {v : Value} (h : BtsAt B w l v) : ∃ oa cap, v = .slice oa l.length cap := by
  rcases h with ⟨rfl, oa, cap, rfl, _⟩ | ⟨_, b, off, cap, rfl, _⟩
  · exact ⟨oa, cap, rfl⟩
  · exact ⟨_, cap, rfl⟩
theorem BtsAt.ext {w w' : World} {l : List UInt8} {v : Value} (h : BtsAt w.heap.size w l v) (hb : Below w.heap.size w w') : BtsAt w'.heap.size w' l v := h.keep hb.size hb.block
theorem conv_bts {B : Nat} {w : World} {v : Value} {l : List UInt8} (h : BtsAt B w l v) : (convert 46 9 v).run Try.prog w = .ok (.string ⟨l.toArray⟩) w := run_conv_bts Try.underlying46 Try.underlying5 Try.underlying9 h
theorem conv_B {w : World} {v : Value} {l : List UInt8} (h : RdB w v l) : (convert 46 9 v).run Try.prog w = .ok (.string ⟨l.toArray⟩) w := run_conv_rd Try.underlying46 Try.underlying5 Try.underlying9 h
theorem grown_drewN (w : World) (n : Nat) (G : Option Nat) : w.grownBy (w.drewN n) G := ⟨rfl, rfl, rfl, Nat.le_refl _, fun _ _ _ => rfl⟩
theorem grown_drewN' {w w1 : World} {G : Option Nat} (h : w.grownBy w1 G) (n : Nat) : w.grownBy (w1.drewN n) G := ⟨h.os, h.tape, h.output, h.size, h.block⟩
theorem grown_setR {w w1 : World} {R i : Nat} {v : Value} (h : w.grownBy w1 (some R)) : w.grownBy (w1.setCell ⟨R, i, none⟩ v) (some R) :=
  ⟨h.os, h.tape, h.output, by have := h.size; simpa [World.setCell] using this, fun k hk hne => by rw [Below.heap_setCell _ _ _ _ (by show k ≠ R; exact fun e => hne (by rw [e]))]; exact h.block k hk hne⟩
theorem grown_set_new {w w1 : World} {G : Option Nat} {T i : Nat} {v : Value} (h : w.grownBy w1 G) (hT : w.heap.size ≤ T) : w.grownBy (w1.setCell ⟨T, i, none⟩ v) G :=
  ⟨h.os, h.tape, h.output, by have := h.size; simpa [World.setCell] using this, fun k hk hne => by rw [Below.heap_setCell _ _ _ _ (by show k ≠ T; omega)]; exact h.block k hk hne⟩
theorem grown_drew' {w w1 : World} {G : Option Nat} (h : w.grownBy w1 G) : w.grownBy w1.drew G := ⟨h.os, h.tape, h.output, h.size, h.block⟩
theorem grown_setT (w : World) (T i : Nat) (v : Value) : w.grownBy (w.setCell ⟨T, i, none⟩ v) (some T) :=
  ⟨rfl, rfl, rfl, by simp [World.setCell], fun k _ hne => Below.heap_setCell _ _ _ _ (by show k ≠ T; exact fun h => hne (by rw [h]))⟩
/-- []byte(s): a new block with the bytes -/
theorem run_bytes_of (s : ByteArray) (hs : s.size ≤ 1000000) (w : World) :
    ∃ cap w', (convert 9 46 (.string s)).run Try.prog w = .ok (.slice (some ⟨w.heap.size, 0, none⟩) s.size cap) w' ∧ Below w.heap.size w w' ∧ BtsAt w'.heap.size w' s.data.toList (.slice (some ⟨w.heap.size, 0, none⟩) s.size cap) := by
  refine ⟨_, _, Lib.run_convert_string_bytes w 9 46 5 s Try.underlying9 Try.underlying46 Try.underlying5, ⟨rfl, rfl, rfl, ?_, ?_⟩, ?_⟩
  · rw [Lib.bytesWorld_size]; omega
  · exact fun k hk => Lib.bytesWorld_at_old w _ s k hk
  · have h1 := grownCap_ge w s.size 0 5
    have h2 := grownCap_le_maxLen w s.size 0 5 (by unfold maxLen; omega)
    refine BtsAt.mk' (by simp) (by simpa using h1) h2 (by rw [Lib.bytesWorld_size]; omega) fun j c hj => ?_
    have hjl : j < s.size := by have := (List.getElem?_eq_some_iff.1 hj).1; simpa using this
    rw [Nat.zero_add, Lib.bytesWorld_cell w _ s j hjl]
    simp [List.getD, hj]
end Go.Proofs.Ytlocilbcmcfmaaa
/- append onto a slice of the call's own, from any source: one law for every element type, a slice or a string as the source. -/
namespace Go.Proofs.Ytlocilbcmcfmaaa
open Go.RowKit

section
variable {P : Program} (w : World)

theorem run_append_x (base : Nat) (t tx ty e : TypeId) (i : TypeInfo) (z : Value) (size bytes : Nat) (ht : P.underlying t = some (.slice e)) (hi : P.info? e = some i) (hz : i.zero = some z)
    (hsize : i.size = size) (hby : i.bytes = bytes) (hzs : z.cells.size = size)
    (v : Value) (n : Nat) (xs : List Value) (hown : w.ownsRow base e size v n xs) (x : Value) (m : Nat) (news : List Value) (hs : Src P size tx x m news w)
    (h63 : n + m ≤ maxLen) (hbytes : (n + m) * bytes ≤ 140737488355328) (hbase : base ≤ w.heap.size) :
    ∃ v' w', (Builtin.append_ #[t, tx] ty #[v, x]).run P w = .ok v' w' ∧ w'.ownsRow base e size v' (n + m) (xs ++ news) ∧ w.grownBy w' v.ownBlock ∧ Next w v v' := by
  subst hsize
  subst hby
  have hl := hs.newsLen
  have hsmall : n + m ≤ 9223372036854775807 := by simp only [maxLen] at h63; omega
  have hlen : (xs ++ news).length = (n + m) * i.size := by rw [List.length_append, hown.1, hl, Nat.add_mul]
  have grown : ∀ (old : Nat), old < n + m → ∀ (row : Option Nat),
      (w.drew.alloc (.cells ((xs ++ news).toArray ++ Builtin.zeroCells z.cells (grownCap w (n + m) old e - (n + m))) e)).ownsRow base e i.size
        (.slice (some ⟨w.heap.size, 0, none⟩) (n + m) (grownCap w (n + m) old e)) (n + m) (xs ++ news) ∧
      w.grownBy (w.drew.alloc (.cells ((xs ++ news).toArray ++ Builtin.zeroCells z.cells (grownCap w (n + m) old e - (n + m))) e)) row := by
    intro old ho row
    have hge := grownCap_ge w (n + m) old e
    have hcm : grownCap w (n + m) old e ≤ maxLen := grownCap_le_maxLen w (n + m) old e h63
    refine ⟨⟨hlen, .inr ⟨w.heap.size, _, _, rfl, hbase, heap_alloc_new w.drew _, hge, hcm, ?_, ?_⟩⟩, ⟨rfl, rfl, rfl, by simp, fun k hk _ => Below.heap_alloc w.drew _ k hk⟩⟩
    · simp only [Array.size_append, List.size_toArray, size_zeroCells, hzs, hlen, ← Nat.add_mul]
      congr 1
      omega
    · simp only [Array.toList_append]
      rw [← hlen]
      exact List.take_left
  have hnew : ∀ c : Nat, Next w v (.slice (some ⟨w.heap.size, 0, none⟩) (n + m) c) := fun c => .inr fun g hg => by simp [Value.ownBlock] at hg; omega
  rcases hown.2 with ⟨rfl, rfl⟩ | ⟨g, cap, cur, rfl, hbg, hg, hnc, hcm, hcs, htake⟩
  · have hx : xs = [] := List.eq_nil_of_length_eq_zero (by simpa using hown.1)
    subst hx
    by_cases hm : m = 0
    · subst hm
      have hn : news = [] := List.eq_nil_of_length_eq_zero (by simpa using hl)
      subst hn
      refine ⟨.slice none 0 0, w, ?_, World.ownsRow_nil w base e i.size, ⟨rfl, rfl, rfl, Nat.le_refl _, fun _ _ _ => rfl⟩, Next.refl _ _⟩
      have hc := hs.cells
      rcases hs.kind with ⟨e', hk⟩ | hk <;> simp [Builtin.append_, run_underlying ht, run_underlying hk, sizeOf, typeInfo, hi, hs.len, hc]
    · have hold : (Builtin.firstCells i.size 0 (.slice none 0 0)).run P w.drew = .ok ([] : List Value).toArray w.drew := run_firstCells_none w.drew i.size 0 0 0
      have hr := run_append_grow_src (P := P) w t tx ty e i z ht hi hz none 0 0 [] hold x m news hs (by omega) (by omega) (growslice_fits (by omega) (by simpa using hbytes))
      have hgr := grown 0 (by omega) (Value.ownBlock (.slice none 0 0))
      simp only [Nat.zero_add, List.nil_append] at hgr hr ⊢
      exact ⟨_, _, hr, hgr.1, hgr.2, by simpa using hnew _⟩
  · by_cases hroom : n + m ≤ cap
    · have hfit : n * i.size + news.length ≤ cur.size := by rw [hl, hcs, ← Nat.add_mul]; exact Nat.mul_le_mul_right _ hroom
      have hst := run_storeCells_at P g (n * i.size) e news 0 cur w hg (by simpa using hfit) hs.one
      simp only [Nat.add_zero] at hst
      have hr : (Builtin.append_ #[t, tx] ty #[.slice (some ⟨g, 0, none⟩) n cap, x]).run P w =
          .ok (.slice (some ⟨g, 0, none⟩) (n + m) cap) (w.setRow g (cur.toList.take (n * i.size) ++ news ++ cur.toList.drop (n * i.size + news.length)).toArray) := by
        rcases hs.kind with ⟨e', hk⟩ | hk <;> simp [Builtin.append_, run_underlying ht, run_underlying hk, sizeOf, typeInfo, hi, hs.len, hroom, hs.cells, Addr.add_lit, hst]
      refine ⟨_, _, hr, ⟨hlen, .inr ⟨g, cap, _, rfl, hbg, setRow_heap w g cur _ e _ hg, hroom, hcm, ?_, ?_⟩⟩, ⟨rfl, rfl, rfl, by simp, fun k _ hk => setRow_other w g k _ (fun e => hk (by simp [Value.ownBlock, e]))⟩, .inl rfl⟩
      · simp only [List.size_toArray, List.length_append, List.length_take, List.length_drop, Array.length_toList]
        omega
      · rw [htake, ← hlen]
        exact List.take_left
    · have holds : ∀ j u, xs[j]? = some u → w.cell? ((⟨g, 0, none⟩ : Addr).add j) = some u := hown.cells (g := g) rfl
      have hold : (Builtin.firstCells i.size n (.slice (some ⟨g, 0, none⟩) n cap)).run P w.drew = .ok xs.toArray w.drew := run_firstCells_some w.drew i.size n _ n cap xs hown.1 (by simpa using holds)
      have hr := run_append_grow_src (P := P) w t tx ty e i z ht hi hz (some ⟨g, 0, none⟩) n cap xs hold x m news hs (by omega) (by omega) (growslice_fits (by omega) hbytes)
      have hgr := grown cap (by omega) (Value.ownBlock (.slice (some ⟨g, 0, none⟩) n cap))
      exact ⟨_, _, hr, hgr.1, hgr.2, hnew _⟩
end

section
variable {P : Program} {w : World} {ops : Array Oper} {rest : List Oper} {o : Oper} {a : Act} {Q : Exit → Act → World → Prop}

theorem step_append_x {K : Act → World → Prop} {E : Prop} {t tx e : TypeId} {z : Value} {size bytes : Nat} (ht : P.underlying t = some (.slice e)) (he : (P.info? e).map (fun i => (i.zero, i.size, i.bytes)) = some (some z, size, bytes)) (hzs : z.cells.size = size)
    (hgd : o.guard = none) (s y : Operand) (ho : o.op = .call { callee := .builtin .append, args := #[s, y], argTypes := #[t, tx] })
    (base : Nat) (v : Value) (n : Nat) (xs : List Value) (hs : a.eval s = v) (hown : w.ownsRow base e size v n xs)
    (x : Value) (m : Nat) (news : List Value) (hx : a.eval y = x) (hsrc : Src P size tx x m news w)
    (h63 : n + m ≤ maxLen) (hbytes : (n + m) * bytes ≤ 140737488355328) (hbase : base ≤ w.heap.size)
    (h : ∀ v' w', w'.ownsRow base e size v' (n + m) (xs ++ news) → w.grownBy w' v.ownBlock → Next w v v' → K (a.put o.dst v') w') :
    if Region.wanted o (yielded ops a.tmps) = true then Oper.wp P o a w K Q else E := by
  have hw : Region.wanted o (yielded ops a.tmps) = true := by simp [Region.wanted, hgd]
  rw [if_pos hw]
  obtain ⟨i0, hi, hz0, hz1, hz2⟩ := info_parts he
  obtain ⟨v', w', hr, h2, h3, h4⟩ := run_append_x (P := P) w base t tx o.type e i0 z size bytes ht hi hz0 hz1 hz2 hzs v n xs hown x m news hsrc h63 hbytes hbase
  unfold Oper.wp execOp
  simp only [ho, resolve, invoke, builtin, Sem.run_bind, Sem.run_pure, Result.andThen_ok, List.map_toArray, List.map_cons, List.map_nil, hs, hx, hr]
  exact h v' w' h2 h3 h4

theorem wpList_append_x {t tx e : TypeId} {z : Value} {size bytes : Nat} (ht : P.underlying t = some (.slice e)) (he : (P.info? e).map (fun i => (i.zero, i.size, i.bytes)) = some (some z, size, bytes)) (hzs : z.cells.size = size)
    (hgd : o.guard = none) (s y : Operand) (ho : o.op = .call { callee := .builtin .append, args := #[s, y], argTypes := #[t, tx] })
    (base : Nat) (v : Value) (n : Nat) (xs : List Value) (hs : a.eval s = v) (hown : w.ownsRow base e size v n xs)
    (x : Value) (m : Nat) (news : List Value) (hx : a.eval y = x) (hsrc : Src P size tx x m news w)
    (h63 : n + m ≤ maxLen) (hbytes : (n + m) * bytes ≤ 140737488355328) (hbase : base ≤ w.heap.size)
    (h : ∀ v' w', w'.ownsRow base e size v' (n + m) (xs ++ news) → w.grownBy w' v.ownBlock → Next w v v' → wpList P ops Q rest (a.put o.dst v') w') : wpList P ops Q (o :: rest) a w := by
  refine wpList_plain hgd fun _ hK => ?_
  obtain ⟨i0, hi, hz0, hz1, hz2⟩ := info_parts he
  obtain ⟨v', w', hr, h2, h3, h4⟩ := run_append_x (P := P) w base t tx o.type e i0 z size bytes ht hi hz0 hz1 hz2 hzs v n xs hown x m news hsrc h63 hbytes hbase
  unfold Oper.wp execOp
  simp only [ho, resolve, invoke, builtin, Sem.run_bind, Sem.run_pure, Result.andThen_ok, List.map_toArray, List.map_cons, List.map_nil, hs, hx, hr]
  exact hK _ _ (h v' w' h2 h3 h4)

/-- bytes as a source of append: a slice or a string -/
def SrcB (P : Program) (tx : TypeId) (w : World) (x : Value) (m : List UInt8) : Prop := Src P 1 tx x m.length (bcells m) w
theorem SrcB.ofString {tx : TypeId} (hk : P.underlying tx = some .string) (s : ByteArray) (w : World) : SrcB P tx w (.string s) s.data.toList := by
  have h := Src.ofString (P := P) w hk s
  unfold SrcB
  rw [show s.data.toList.length = s.size from by simp]
  exact h
theorem SrcB.ofRd {tx e' : TypeId} (hk : P.underlying tx = some (.slice e')) {x : Value} {m : List UInt8} (h : RdB w x m) : SrcB P tx w x m := by
  rcases h with ⟨rfl, rfl⟩ | ⟨ad, cap, rfl, _, _, _, hc⟩
  · exact Src.ofNil (P := P) w hk 0
  · exact Src.ofSlice (P := P) w hk ad m.length cap (bcells m) (by simp [bcells_length]) hc (bcells_one m)
theorem SrcB.ofCells {tx e' : TypeId} (hk : P.underlying tx = some (.slice e')) {ad : Addr} {cap : Nat} {m : List UInt8} (hc : ∀ j u, (bcells m)[j]? = some u → w.cell? (ad.add j) = some u) : SrcB P tx w (.slice (some ad) m.length cap) m :=
  Src.ofSlice (P := P) w hk ad m.length cap (bcells m) (by simp [bcells_length]) hc (bcells_one m)
theorem OwnB.rd {e : TypeId} {base : Nat} {v : Value} {l : List UInt8} (h : OwnB e w base v l) : RdB w v l := by
  have hc := h.2
  rcases hc with ⟨rfl, h0⟩ | ⟨g, cap, cur, rfl, hb, hg, hn, hm, hcs, ht⟩
  · exact .inl ⟨rfl, List.eq_nil_of_length_eq_zero h0⟩
  · exact .inr ⟨⟨g, 0, none⟩, cap, rfl, .inr rfl, hn, hm, World.ownsRow.cells (e := e) h (g := g) rfl⟩

theorem step_append_B {K : Act → World → Prop} {E : Prop} {t tx e : TypeId} (ht : P.underlying t = some (.slice e)) (he : (P.info? e).map (fun i => (i.zero, i.size, i.bytes)) = some (some (.int .u8 0), 1, 1))
    (hgd : o.guard = none) (s y : Operand) (ho : o.op = .call { callee := .builtin .append, args := #[s, y], argTypes := #[t, tx] })
    (base : Nat) (v : Value) (l : List UInt8) (hs : a.eval s = v) (hown : OwnB e w base v l)
    (x : Value) (m : List UInt8) (hx : a.eval y = x) (hsrc : SrcB P tx w x m)
    (hl : l.length + m.length ≤ 140737488355328) (hbase : base ≤ w.heap.size)
    (h : ∀ v' w', OwnB e w' base v' (l ++ m) → w.grownBy w' v.ownBlock → Next w v v' → K (a.put o.dst v') w') :
    if Region.wanted o (yielded ops a.tmps) = true then Oper.wp P o a w K Q else E :=
  step_append_x ht he rfl hgd s y ho base v l.length (bcells l) hs hown x m.length (bcells m) hx hsrc (by unfold maxLen; omega) (by omega) hbase fun v' w' h1 h2 h3 =>
    h v' w' (by unfold OwnB; rw [bcells_append, List.length_append]; exact h1) h2 h3

theorem wpList_append_B {t tx e : TypeId} (ht : P.underlying t = some (.slice e)) (he : (P.info? e).map (fun i => (i.zero, i.size, i.bytes)) = some (some (.int .u8 0), 1, 1))
    (hgd : o.guard = none) (s y : Operand) (ho : o.op = .call { callee := .builtin .append, args := #[s, y], argTypes := #[t, tx] })
    (base : Nat) (v : Value) (l : List UInt8) (hs : a.eval s = v) (hown : OwnB e w base v l)
    (x : Value) (m : List UInt8) (hx : a.eval y = x) (hsrc : SrcB P tx w x m)
    (hl : l.length + m.length ≤ 140737488355328) (hbase : base ≤ w.heap.size)
    (h : ∀ v' w', OwnB e w' base v' (l ++ m) → w.grownBy w' v.ownBlock → Next w v v' → wpList P ops Q rest (a.put o.dst v') w') : wpList P ops Q (o :: rest) a w :=
  wpList_append_x ht he rfl hgd s y ho base v l.length (bcells l) hs hown x m.length (bcells m) hx hsrc (by unfold maxLen; omega) (by omega) hbase fun v' w' h1 h2 h3 =>
    h v' w' (by unfold OwnB; rw [bcells_append, List.length_append]; exact h1) h2 h3

theorem cells_one {w : World} {B : Nat} {c : UInt8} {x : Int} (h : w.cell? ⟨B, 0, none⟩ = some (.int .u8 x)) (hx : x = (c.toNat : Int)) : ∀ (j : Nat) (u : Value), (bcells [c])[j]? = some u → w.cell? ((⟨B, 0, none⟩ : Addr).add j) = some u := by
  subst hx
  intro j u hu
  match j, hu with
  | 0, hu => simp [bcells] at hu; subst hu; simpa [Addr.add] using h

/-- one byte, which the region has laid into a block of its own -/
theorem step_append_1 {K : Act → World → Prop} {E : Prop} {t e : TypeId} (ht : P.underlying t = some (.slice e)) (he : (P.info? e).map (fun i => (i.zero, i.size, i.bytes)) = some (some (.int .u8 0), 1, 1))
    (hgd : o.guard = none) (s y : Operand) (ho : o.op = .call { callee := .builtin .append, args := #[s, y], argTypes := #[t, t] })
    (base : Nat) (v : Value) (l : List UInt8) (hs : a.eval s = v) (hown : OwnB e w base v l)
    (B : Nat) (xi : Int) (c : UInt8) (hx : a.eval y = .slice (some ⟨B, 0, none⟩) 1 1) (hcell : w.cell? ⟨B, 0, none⟩ = some (.int .u8 xi)) (hxi : xi = (c.toNat : Int))
    (hl : l.length ≤ 140737488355000) (hbase : base ≤ w.heap.size)
    (h : ∀ v' w', OwnB e w' base v' (l ++ [c]) → w.grownBy w' v.ownBlock → Next w v v' → K (a.put o.dst v') w') :
    if Region.wanted o (yielded ops a.tmps) = true then Oper.wp P o a w K Q else E :=
  step_append_B ht he hgd s y ho base v l hs hown _ [c] hx (SrcB.ofCells ht (m := [c]) (cap := 1) (cells_one hcell hxi)) (by simp; omega) hbase h
theorem wpList_append_1 {t e : TypeId} (ht : P.underlying t = some (.slice e)) (he : (P.info? e).map (fun i => (i.zero, i.size, i.bytes)) = some (some (.int .u8 0), 1, 1))
    (hgd : o.guard = none) (s y : Operand) (ho : o.op = .call { callee := .builtin .append, args := #[s, y], argTypes := #[t, t] })
    (base : Nat) (v : Value) (l : List UInt8) (hs : a.eval s = v) (hown : OwnB e w base v l)
    (B : Nat) (xi : Int) (c : UInt8) (hx : a.eval y = .slice (some ⟨B, 0, none⟩) 1 1) (hcell : w.cell? ⟨B, 0, none⟩ = some (.int .u8 xi)) (hxi : xi = (c.toNat : Int))
    (hl : l.length ≤ 140737488355000) (hbase : base ≤ w.heap.size)
    (h : ∀ v' w', OwnB e w' base v' (l ++ [c]) → w.grownBy w' v.ownBlock → Next w v v' → wpList P ops Q rest (a.put o.dst v') w') : wpList P ops Q (o :: rest) a w :=
  wpList_append_B ht he hgd s y ho base v l hs hown _ [c] hx (SrcB.ofCells ht (m := [c]) (cap := 1) (cells_one hcell hxi)) (by simp; omega) hbase h
end
end Go.Proofs.Ytlocilbcmcfmaaa
/- blocks that are known whole. -/
namespace Go.Proofs.Ytlocilbcmcfmaaa
open Go.RowKit

/-- a block that is known whole -/
def CB (w : World) (g : Nat) (t : TypeId) (cs : List Value) : Prop := w.heap[g]? = some (.cells cs.toArray t (0, 0))
theorem CB.cell {w : World} {g : Nat} {t : TypeId} {cs : List Value} (h : CB w g t cs) (i : Nat) : w.cell? ⟨g, i, none⟩ = cs[i]? := by
  unfold CB at h; simp [World.cell?, h]
theorem CB.frozen {w : World} {g : Nat} {t : TypeId} {cs : List Value} (h : CB w g t cs) (i : Nat) : w.frozen? ⟨g, i, none⟩ = false := by
  unfold CB at h; simp [World.frozen?, h]
theorem CB.set {w : World} {g : Nat} {t : TypeId} {cs : List Value} (h : CB w g t cs) (i : Nat) (u : Value) : CB (w.setCell ⟨g, i, none⟩ u) g t (cs.set i u) := by
  unfold CB at h ⊢; simp [World.setCell, Array.getElem?_modify, h]
theorem CB.keep {w w' : World} {g : Nat} {t : TypeId} {cs : List Value} (h : CB w g t cs) (hk : w'.heap[g]? = w.heap[g]?) : CB w' g t cs := hk.trans h
theorem CB.far {w : World} {g : Nat} {t : TypeId} {cs : List Value} (h : CB w g t cs) {p : Addr} (hp : g ≠ p.block) (u : Value) : CB (w.setCell p u) g t cs := h.keep (Below.heap_setCell w p u g hp)
theorem CB.lt {w : World} {g : Nat} {t : TypeId} {cs : List Value} (h : CB w g t cs) : g < w.heap.size := by
  rcases Nat.lt_or_ge g w.heap.size with hlt | hge
  · exact hlt
  · unfold CB at h; rw [Array.getElem?_eq_none hge] at h; cases h
theorem CB.new (w : World) (t : TypeId) (cs : List Value) : CB (w.alloc (.cells cs.toArray t)) w.heap.size t cs := heap_alloc_new w _
theorem CB.alloc {w : World} {g : Nat} {t : TypeId} {cs : List Value} (h : CB w g t cs) (o : Obj) : CB (w.alloc o) g t cs := h.keep (Below.heap_alloc w o g h.lt)

theorem CB.ext {w w' : World} {g : Nat} {t : TypeId} {cs : List Value} (h : CB w g t cs) (hb : Below w.heap.size w w') : CB w' g t cs := h.keep (hb.block _ h.lt)
theorem boxN (W : World) (ns : List Int) (t : TypeId) : ∀ j y, ns[j]? = some y → (W.alloc (.cells (ns.map (Value.int .i64)).toArray t)).cell? ⟨W.heap.size, j, none⟩ = some (.int .i64 y) := by
  intro j y h
  rw [(CB.new W t (ns.map (Value.int .i64))).cell j]; simp [h]
theorem box1 (W : World) (x : Int) (t : TypeId) : ∀ j y, [x][j]? = some y → (W.alloc (.cells #[.int .i64 x] t)).cell? ⟨W.heap.size, j, none⟩ = some (.int .i64 y) := boxN W [x] t
theorem box2 (W : World) (x z : Int) (t : TypeId) : ∀ j y, [x, z][j]? = some y → (W.alloc (.cells #[.int .i64 x, .int .i64 z] t)).cell? ⟨W.heap.size, j, none⟩ = some (.int .i64 y) := boxN W [x, z] t
end Go.Proofs.Ytlocilbcmcfmaaa
/- laws for slices.Insert: a copy into a row that is known whole; where the cells lie behind two copies. -/
namespace Go.Proofs.Ytlocilbcmcfmaaa
open Go.RowKit
def putL (c : List Value) (o : Nat) (x : List Value) : List Value := c.take o ++ x ++ c.drop (o + x.length)
theorem putL_len {c x : List Value} {o : Nat} (h : o + x.length ≤ c.length) : (putL c o x).length = c.length := by
  unfold putL; simp only [List.length_append, List.length_take, List.length_drop]; omega
theorem take_len_append {a b : List Value} {n : Nat} (h : n = a.length) : (a ++ b).take n = a := by subst h; exact List.take_left
theorem drop_len_append {a b : List Value} {n : Nat} (h : n = a.length) : (a ++ b).drop n = b := by subst h; exact List.drop_left
theorem put_back {c a b d : List Value} {o : Nat} (ha : c.take o = a) (hf : o + b.length + d.length ≤ c.length) : (putL (putL c (o + b.length) d) o b).take (o + b.length + d.length) = a ++ b ++ d := by
  have hal : a.length = o := by rw [← ha, List.length_take]; omega
  have h1 : (putL c (o + b.length) d).take o = a := by
    unfold putL
    rw [List.append_assoc, List.take_append_of_le_length (by rw [List.length_take]; omega), List.take_take, Nat.min_eq_left (by omega), ha]
  have h2 : (putL c (o + b.length) d).drop (o + b.length) = d ++ c.drop (o + b.length + d.length) := by
    unfold putL
    rw [List.append_assoc, drop_len_append (by rw [List.length_take]; omega)]
  show (List.take o (putL c (o + b.length) d) ++ b ++ List.drop (o + b.length) (putL c (o + b.length) d)).take _ = _
  rw [h1, h2, ← List.append_assoc, take_len_append (by simp only [List.length_append]; omega)]
theorem put_forth {c a b d : List Value} {o : Nat} (ha : c.take o = a) (hf : o + b.length + d.length ≤ c.length) : (putL (putL c o b) (o + b.length) d).take (o + b.length + d.length) = a ++ b ++ d := by
  have hal : a.length = o := by rw [← ha, List.length_take]; omega
  have h1 : (putL c o b).take (o + b.length) = a ++ b := by
    unfold putL
    rw [ha, take_len_append (by simp only [List.length_append]; omega)]
  show (List.take (o + b.length) (putL c o b) ++ d ++ List.drop (o + b.length + d.length) (putL c o b)).take _ = _
  rw [h1, take_len_append (by simp only [List.length_append]; omega)]
section
variable {P : Program}
theorem run_copy_put (w : World) (dT sT ty e : TypeId) (size g off dLen dCap : Nat) (cur : Array Value) (a : Addr) (sLen sCap m : Nat) (cs : List Value)
    (hu : P.underlying dT = some (.slice e)) (hs : (P.info? e).map (·.size) = some size) (hm : Nat.min sLen dLen = m) (hcl : cs.length = m * size)
    (hsrc : ∀ j v, cs[j]? = some v → w.cell? (a.add j) = some v) (hg : w.heap[g]? = some (.cells cur e (0, 0))) (hfit : off + cs.length ≤ cur.size) (h1 : ∀ v ∈ cs, v.oneCell' = true) :
    (Builtin.copy_ #[dT, sT] ty #[.slice (some ⟨g, off, none⟩) dLen dCap, .slice (some a) sLen sCap]).run P w = .ok (goInt m) (w.setRow g (putL cur.toList off cs).toArray) := by
  have hl := run_loadCells_list (P := P) w a cs hsrc
  have hst := run_storeCells_at P g off e cs 0 cur w hg (by simpa using hfit) h1
  cases hq : P.info? e with
  | none => simp [hq] at hs
  | some i =>
    have hi : i.size = size := by simpa [hq] using hs
    rw [hcl] at hl
    simp only [Nat.add_zero] at hst
    simp [Builtin.copy_, run_underlying hu, Builtin.lenOf, Builtin.firstCells, sizeOf, typeInfo, hq, hi, hm, hl, hst, putL]
theorem wpList_copy_h (w : World) {ops : Array Oper} {rest : List Oper} {o : Oper} {a : Act} {Q : Exit → Act → World → Prop} (hgd : o.guard = none) (d s : Operand) (t t' : TypeId)
    (ho : o.op = .call { callee := .builtin .copy, args := #[d, s], argTypes := #[t, t'] }) (v u : Value) (hd : a.eval d = v) (hs : a.eval s = u) {v' : Value} {w' : World}
    (hr : (Builtin.copy_ #[t, t'] o.type #[v, u]).run P w = .ok v' w') (h : wpList P ops Q rest (a.put o.dst v') w') : wpList P ops Q (o :: rest) a w := by
  refine wpList_plain hgd fun _ hK => ?_
  unfold Oper.wp execOp
  simp only [ho, resolve, invoke, builtin, Sem.run_bind, Sem.run_pure, Result.andThen_ok, List.map_toArray, List.map_cons, List.map_nil, hd, hs, hr]
  exact hK _ _ h
theorem step_copy_h {ops : Array Oper} {o : Oper} {a : Act} {w : World} {K : Act → World → Prop} {Q : Exit → Act → World → Prop} {E : Prop}
    (hgd : o.guard = none) (d s : Operand) (t t' : TypeId) (ho : o.op = .call { callee := .builtin .copy, args := #[d, s], argTypes := #[t, t'] })
    (v u : Value) (hd : a.eval d = v) (hs : a.eval s = u) {v' : Value} {w' : World} (hr : (Builtin.copy_ #[t, t'] o.type #[v, u]).run P w = .ok v' w') (h : K (a.put o.dst v') w') :
    if Region.wanted o (yielded ops a.tmps) = true then Oper.wp P o a w K Q else E := by
  have hw : Region.wanted o (yielded ops a.tmps) = true := by simp [Region.wanted, hgd]
  rw [if_pos hw]
  unfold Oper.wp execOp
  simp only [ho, resolve, invoke, builtin, Sem.run_bind, Sem.run_pure, Result.andThen_ok, List.map_toArray, List.map_cons, List.map_nil, hd, hs, hr]
  exact h
theorem wpList_append_h (w : World) {ops : Array Oper} {rest : List Oper} {o : Oper} {a : Act} {Q : Exit → Act → World → Prop} (hgd : o.guard = none) (d s : Operand) (t t' : TypeId)
    (ho : o.op = .call { callee := .builtin .append, args := #[d, s], argTypes := #[t, t'] }) (v u : Value) (hd : a.eval d = v) (hs : a.eval s = u) {v' : Value} {w' : World}
    (hr : (Builtin.append_ #[t, t'] o.type #[v, u]).run P w = .ok v' w') (h : wpList P ops Q rest (a.put o.dst v') w') : wpList P ops Q (o :: rest) a w := by
  refine wpList_plain hgd fun _ hK => ?_
  unfold Oper.wp execOp
  simp only [ho, resolve, invoke, builtin, Sem.run_bind, Sem.run_pure, Result.andThen_ok, List.map_toArray, List.map_cons, List.map_nil, hd, hs, hr]
  exact hK _ _ h
end
/-- a row that is known whole, behind a setRow -/
theorem row_set {w : World} {g : Nat} {cur : Array Value} {e : TypeId} (hg : w.heap[g]? = some (.cells cur e (0, 0))) (c : Array Value) : (w.setRow g c).heap[g]? = some (.cells c e (0, 0)) := setRow_heap w g cur c e _ hg
theorem grown_setRow (w : World) (g : Nat) (c : Array Value) : w.grownBy (w.setRow g c) (some g) := ⟨rfl, rfl, rfl, by simp, fun k _ hk => setRow_other w g k _ (fun e => hk (by rw [e]))⟩
theorem grown_setRow' {w w1 : World} {g : Nat} (h : w.grownBy w1 (some g)) (c : Array Value) : w.grownBy (w1.setRow g c) (some g) := grown_trans h (grown_setRow w1 g c) (.inl rfl)
theorem grown_setRow_new {w w1 : World} {G : Option Nat} {g : Nat} (h : w.grownBy w1 G) (hg : w.heap.size ≤ g) (c : Array Value) : w.grownBy (w1.setRow g c) G := grown_trans h (grown_setRow w1 g c) (.inr fun k hk => by cases hk; exact hg)
theorem add0 (g o j : Nat) : (⟨g, o, none⟩ : Addr).add j = ⟨g, o + j, none⟩ := by unfold Addr.add; split <;> simp_all
theorem cell_row {w : World} {g : Nat} {cur : Array Value} {e : TypeId} (hg : w.heap[g]? = some (.cells cur e (0, 0))) (j : Nat) : w.cell? ⟨g, j, none⟩ = cur[j]? := cell_of_row w g j cur e (0, 0) hg
end Go.Proofs.Ytlocilbcmcfmaaa
/- elements of a fixed number of cells: lists of them that are read, or that the call owns. -/
namespace Go.Proofs.Ytlocilbcmcfmaaa
open Go.RowKit
/-- a kind of elements: how many cells one takes, and which -/
structure EK (α : Type) where
  n : Nat
  cells : α → List Value
  len : ∀ a, (cells a).length = n
  one : ∀ a, ∀ u ∈ cells a, u.oneCell' = true
  pos : 0 < n
section
variable {α : Type} (K : EK α)
def EK.flat (l : List α) : List Value := l.flatMap K.cells
theorem EK.flat_nil : K.flat [] = [] := rfl
theorem EK.flat_cons (a : α) (l : List α) : K.flat (a :: l) = K.cells a ++ K.flat l := by unfold EK.flat; rw [List.flatMap_cons]
theorem EK.flat_append (a b : List α) : K.flat (a ++ b) = K.flat a ++ K.flat b := by unfold EK.flat; rw [List.flatMap_append]
theorem EK.flat_len : ∀ l : List α, (K.flat l).length = l.length * K.n
  | [] => by simp [EK.flat]
  | a :: l => by rw [EK.flat_cons, List.length_append, EK.flat_len l, K.len, List.length_cons, Nat.add_mul, Nat.one_mul, Nat.add_comm]
theorem EK.flat_one (l : List α) : ∀ u ∈ K.flat l, u.oneCell' = true := by
  intro u hu
  obtain ⟨a, _, h⟩ := List.mem_flatMap.1 hu
  exact K.one a u h
theorem EK.flat_take {l : List α} {i : Nat} (h : i ≤ l.length) : (K.flat l).take (i * K.n) = K.flat (l.take i) := by
  conv => lhs; rw [← List.take_append_drop i l]
  rw [K.flat_append, take_len_append (by rw [K.flat_len, List.length_take, Nat.min_eq_left h])]
theorem EK.flat_drop {l : List α} {i : Nat} (h : i ≤ l.length) {j : Nat} {u : Value} (hu : (K.flat (l.drop i))[j]? = some u) : (K.flat l)[i * K.n + j]? = some u := by
  have htl : (K.flat (l.take i)).length = i * K.n := by rw [K.flat_len, List.length_take, Nat.min_eq_left h]
  conv => lhs; rw [← List.take_append_drop i l]
  rw [K.flat_append, List.getElem?_append_right (by omega), htl, Nat.add_sub_cancel_left]; exact hu
/-- one element at an address -/
def ElAt (w : World) (b o : Nat) (a : α) : Prop := ∀ j u, (K.cells a)[j]? = some u → w.cell? ⟨b, o + j, none⟩ = some u
variable {K}
theorem ElAt.keep {w w' : World} {b o : Nat} {a : α} (h : ElAt K w b o a) (hk : w'.heap[b]? = w.heap[b]?) : ElAt K w' b o a := fun j u hu => by rw [World.cell?_of_block (w := w) hk]; exact h j u hu
theorem ElAt.ext {w w' : World} {b o : Nat} {a : α} (h : ElAt K w b o a) (hb : Below w.heap.size w w') : ElAt K w' b o a := fun j u hu => cell_ext hb (h j u hu)
theorem ElAt.of_cb {w : World} {g : Nat} {t : TypeId} {a : α} (h : CB w g t (K.cells a)) : ElAt K w g 0 a := fun j u hu => by rw [Nat.zero_add, h.cell]; exact hu
variable (K)
/-- elements that are read -/
def LsAt (B : Nat) (w : World) (l : List α) (v : Value) : Prop :=
  (l = [] ∧ ∃ oa cap, v = .slice oa 0 cap) ∨ (∃ b off cap, v = .slice (some ⟨b, off, none⟩) l.length cap ∧ l.length ≤ cap ∧ cap ≤ maxLen ∧ b < B ∧ ∀ j a, l[j]? = some a → ElAt K w b (off + j * K.n) a)
variable {K}
theorem LsAt.keep {B B' : Nat} {w w' : World} {l : List α} {v : Value} (h : LsAt K B w l v) (hB : B ≤ B') (hs : ∀ k, k < B → w'.heap[k]? = w.heap[k]?) : LsAt K B' w' l v := by
  rcases h with h | ⟨b, off, cap, h1, h2, h3, h4, h5⟩
  · exact .inl h
  · exact .inr ⟨b, off, cap, h1, h2, h3, Nat.lt_of_lt_of_le h4 hB, fun j a hj => (h5 j a hj).keep (hs _ h4)⟩
theorem LsAt.ext {w w' : World} {l : List α} {v : Value} (h : LsAt K w.heap.size w l v) (hb : Below w.heap.size w w') : LsAt K w'.heap.size w' l v := h.keep hb.size hb.block
theorem LsAt.nil (B : Nat) (w : World) (oa : Option Addr) (cap : Nat) : LsAt K B w ([] : List α) (.slice oa 0 cap) := .inl ⟨rfl, _, _, rfl⟩
theorem LsAt.shape {B : Nat} {w : World} {l : List α} {v : Value} (h : LsAt K B w l v) : ∃ oa cap, v = .slice oa l.length cap ∧ l.length ≤ 9223372036854775807 := by
  rcases h with ⟨rfl, oa, cap, rfl⟩ | ⟨b, off, cap, rfl, h2, h3, _⟩
  · exact ⟨oa, cap, rfl, by simp⟩
  · exact ⟨_, cap, rfl, by unfold maxLen at h3; omega⟩
theorem LsAt.shape2 {B : Nat} {w : World} {l : List α} {v : Value} (h : LsAt K B w l v) : ∃ oa cap, v = .slice oa l.length cap ∧ l.length ≤ cap ∧ l.length ≤ 9223372036854775807 := by
  rcases h with ⟨rfl, oa, cap, rfl⟩ | ⟨b, off, cap, rfl, h2, h3, _⟩
  · exact ⟨oa, cap, rfl, by simp, by simp⟩
  · exact ⟨_, cap, rfl, h2, by unfold maxLen at h3; omega⟩
theorem LsAt.at {B : Nat} {w : World} {l : List α} {oa : Option Addr} {cap k : Nat} (h : LsAt K B w l (.slice oa l.length cap)) (hk : k < l.length) :
    ∃ b off, oa = some ⟨b, off, none⟩ ∧ b < B ∧ ∀ j a, l[j]? = some a → ElAt K w b (off + j * K.n) a := by
  rcases h with ⟨rfl, _⟩ | ⟨b, off, cp, h1, _, _, h4, h5⟩
  · simp at hk
  · injection h1 with h1 _ _
    exact ⟨b, off, h1, h4, h5⟩
theorem flat_at : ∀ (l : List α) (w : World) (b off : Nat), (∀ j a, l[j]? = some a → ElAt K w b (off + j * K.n) a) → ∀ j u, (K.flat l)[j]? = some u → w.cell? ⟨b, off + j, none⟩ = some u
  | [], _, _, _, _, j, u, h => by simp [EK.flat] at h
  | a :: r, w, b, off, hat, j, u, h => by
    rw [K.flat_cons] at h
    by_cases hj : j < K.n
    · rw [List.getElem?_append_left (by rw [K.len]; exact hj)] at h
      have := hat 0 a rfl
      rw [Nat.zero_mul, Nat.add_zero] at this
      exact this j u h
    · rw [List.getElem?_append_right (by rw [K.len]; omega), K.len] at h
      have := flat_at r w b (off + K.n) (fun k x hx => by
        have := hat (k + 1) x (by simpa using hx)
        rw [show off + K.n + k * K.n = off + (k + 1) * K.n by rw [Nat.add_mul, Nat.one_mul]; omega]; exact this) (j - K.n) u h
      rw [show off + j = off + K.n + (j - K.n) by omega]; exact this
theorem at_flat : ∀ (l : List α) (w : World) (b off : Nat), (∀ j u, (K.flat l)[j]? = some u → w.cell? ⟨b, off + j, none⟩ = some u) → ∀ j a, l[j]? = some a → ElAt K w b (off + j * K.n) a := by
  intro l w b off h j a hj i u hu
  have hjl := (List.getElem?_eq_some_iff.1 hj).1
  rw [Nat.add_assoc]
  refine h _ u (K.flat_drop (by omega) (i := j) ?_)
  obtain ⟨h1, h2⟩ := List.getElem?_eq_some_iff.1 hj
  rw [List.drop_eq_getElem_cons h1, h2, K.flat_cons, List.getElem?_append_left (List.getElem?_eq_some_iff.1 hu).1]; exact hu
variable (K)
/-- a row of elements of the own -/
def OwnK (e : TypeId) (w : World) (base : Nat) (v : Value) (l : List α) : Prop := w.ownsRow base e K.n v l.length (K.flat l)
variable {K}
theorem OwnK.nil (e : TypeId) (w : World) (base : Nat) : OwnK K e w base (.slice none 0 0) [] := World.ownsRow_nil w base e K.n
theorem OwnK.lt {e : TypeId} {w : World} {base : Nat} {v : Value} {l : List α} (h : OwnK K e w base v l) (g : Nat) (hg : v.ownBlock = some g) : base ≤ g ∧ g < w.heap.size := World.ownsRow.lt h g hg
theorem OwnK.rd {e : TypeId} {w : World} {base : Nat} {v : Value} {l : List α} (h : OwnK K e w base v l) : LsAt K w.heap.size w l v := by
  have hlt := h.lt
  rcases h.2 with ⟨rfl, h0⟩ | ⟨g, cap, cur, rfl, hb, hg, hn, hm, hcs, ht⟩
  · exact .inl ⟨List.eq_nil_of_length_eq_zero h0, _, _, rfl⟩
  · have hc := World.ownsRow.cells (e := e) h (g := g) rfl
    refine .inr ⟨g, 0, cap, rfl, hn, hm, (hlt g rfl).2, at_flat l w g 0 fun j u hu => ?_⟩
    have := hc j u hu
    rwa [add0] at this
theorem OwnK.made (e : TypeId) (base : Nat) (w : World) (h : base ≤ w.heap.size) : OwnK K e (w.alloc (.cells #[] e)) base (.slice (some ⟨w.heap.size, 0, none⟩) 0 0) [] :=
  World.ownsRow_made (e := e) (base := base) (size := K.n) w #[] 0 h (Nat.zero_le _) (by simp)
theorem OwnK.mk {e : TypeId} {w : World} {base g cap n : Nat} {cur : Array Value} {x : List α} (hl : x.length = n) (hb : base ≤ g) (hg : w.heap[g]? = some (.cells cur e (0, 0))) (hn : n ≤ cap) (hm : cap ≤ maxLen) (hcs : cur.size = cap * K.n) (ht : cur.toList.take (n * K.n) = K.flat x) :
    OwnK K e w base (.slice (some ⟨g, 0, none⟩) n cap) x := by
  subst hl
  exact ⟨K.flat_len x, .inr ⟨g, cap, cur, rfl, hb, hg, hn, hm, hcs, ht⟩⟩
theorem OwnK.alloc {e : TypeId} {w : World} {base : Nat} {v : Value} {l : List α} (h : OwnK K e w base v l) (o : Obj) : OwnK K e (w.alloc o) base v l := World.ownsRow.alloc h o
theorem OwnK.below {e : TypeId} {w0 w w' : World} {base : Nat} {v : Value} {l : List α} (hb : Below w0.heap.size w0 w) (hv : OwnK K e w base v l) (hg : w.grownBy w' v.ownBlock) (h : w0.heap.size ≤ base) : Below w0.heap.size w0 w' :=
  hb.trans ⟨hg.os, hg.tape, hg.output, hg.size, fun k hk => hg.block k (Nat.lt_of_lt_of_le hk hb.size) (fun e => by have := (hv.lt k e.symm).1; omega)⟩
theorem OwnK.append {e : TypeId} {w : World} {base n : Nat} {v : Value} {a b : List α} (h : w.ownsRow base e K.n v n (K.flat a ++ K.flat b)) (hn : n = a.length + b.length) : OwnK K e w base v (a ++ b) := by
  unfold OwnK
  rw [List.length_append, ← hn, K.flat_append]; exact h
section
variable {P : Program} {tx e' : TypeId}
theorem src_none (hk : P.underlying tx = some (.slice e')) (x : Option Addr) (c n : Nat) (W : World) : Src P n tx (.slice x 0 c) 0 [] W := by
  cases x with
  | none => exact Src.ofNil W hk c
  | some a => exact Src.ofSlice W hk a 0 c [] (by simp) (fun j u h => by simp at h) (fun u h => by cases h)
theorem LsAt.src (hk : P.underlying tx = some (.slice e')) {l : List α} {oa : Option Addr} {cap : Nat} {W : World} (h : LsAt K W.heap.size W l (.slice oa l.length cap)) : Src P K.n tx (.slice oa l.length cap) l.length (K.flat l) W := by
  by_cases h0 : l = []
  · subst h0; exact src_none hk _ _ _ _
  obtain ⟨b, off, rfl, _, hat⟩ := h.at (k := 0) (by cases l <;> simp_all)
  refine Src.ofSlice W hk _ _ cap _ (K.flat_len l) (fun j u hu => ?_) (K.flat_one _)
  rw [add0]; exact flat_at l W b off hat j u hu
theorem src_el (hk : P.underlying tx = some (.slice e')) {a : α} {W : World} {g : Nat} {t : TypeId} (h : CB W g t (K.cells a)) : Src P K.n tx (.slice (some ⟨g, 0, none⟩) 1 1) 1 (K.flat [a]) W :=
  Src.ofSlice W hk ⟨g, 0, none⟩ 1 1 _ (K.flat_len [a]) (fun j u hu => by rw [K.flat_cons, K.flat_nil, List.append_nil] at hu; rw [add0, Nat.zero_add, h.cell]; exact hu) (K.flat_one _)
theorem LsAt.src_take (hk : P.underlying tx = some (.slice e')) {l : List α} {oa : Option Addr} {cap n : Nat} {W : World} (h : LsAt K W.heap.size W l (.slice oa l.length cap)) (hn : n ≤ l.length) : Src P K.n tx (.slice oa n cap) n (K.flat (l.take n)) W := by
  by_cases h0 : n = 0
  · subst h0; exact src_none hk _ _ _ _
  obtain ⟨b, off, rfl, _, hat⟩ := h.at (k := 0) (by omega)
  refine Src.ofSlice W hk _ n cap _ (by rw [K.flat_len, List.length_take, Nat.min_eq_left hn]) (fun j u hu => ?_) (K.flat_one _)
  rw [add0]
  refine flat_at (l.take n) W b off (fun k x hx => ?_) j u hu
  rw [List.getElem?_take] at hx
  split at hx
  · exact hat k x hx
  · cases hx
theorem LsAt.src_drop (hk : P.underlying tx = some (.slice e')) {l : List α} {oa oa' : Option Addr} {cap n m : Nat} (c : Nat) {W : World} (h : LsAt K W.heap.size W l (.slice oa l.length cap)) (hn : n ≤ l.length) (hm : m = l.length - n) (ho : oa' = if cap = n then oa else Option.map (fun x => x.add (n * K.n)) oa) (hc : l.length ≤ cap) : Src P K.n tx (.slice oa' m c) m (K.flat (l.drop n)) W := by
  by_cases h0 : l.length - n = 0
  · rw [h0] at hm; subst hm; rw [List.drop_of_length_le (by omega)]; exact src_none hk _ _ _ _
  obtain ⟨b, off, rfl, _, hat⟩ := h.at (k := 0) (by omega)
  rw [if_neg (by omega)] at ho
  subst ho hm
  refine Src.ofSlice W hk _ _ _ _ (by rw [K.flat_len, List.length_drop]) (fun j u hu => ?_) (K.flat_one _)
  show W.cell? ((Addr.add ⟨b, off, none⟩ (n * K.n)).add j) = _
  rw [add0, add0]
  refine flat_at (l.drop n) W b (off + n * K.n) (fun k x hx => ?_) j u hu
  have := hat (n + k) x (by rw [List.getElem?_drop] at hx; exact hx)
  rw [show off + n * K.n + k * K.n = off + (n + k) * K.n by rw [Nat.add_mul]; omega]; exact this
end
end
end Go.Proofs.Ytlocilbcmcfmaaa
/- order of two ints (cmp.Compare); small steps between worlds. -/
namespace Go.Proofs.Ytlocilbcmcfmaaa
open Go.RowKit
theorem cb_two (w : World) (o : Obj) (t : TypeId) (cs : List Value) : CB ((w.alloc o).alloc (.cells cs.toArray t)) (w.heap.size + 1) t cs := by
  have h := CB.new (w.alloc o) t cs
  rw [World.size_alloc] at h
  exact h
theorem below_drewN'' {B : Nat} {w0 w : World} (h : Below B w0 w) (n : Nat) : Below B w0 (w.drewN n) := h.trans ⟨rfl, rfl, rfl, Nat.le_refl _, fun _ _ => rfl⟩
theorem below_undrew' {B : Nat} {w w' : World} (h : Below B w.drew w') : Below B w w' := ⟨h.os, h.tape, h.output, h.size, h.block⟩
theorem eql_nil {P : Program} (w : World) (t e : TypeId) (a : Option Addr) (l c : Nat) (h : P.underlying t = some (.slice e)) : (binOp .eql t (.slice a l c) (.slice none 0 0)).run P w = .ok (.bool a.isNone) w := by
  simp only [binOp]
  simp [run_equal_slice_nil w t e a l c h]
/-- order of two ints -/
def cmpZ (a b : Int) : Int := if a < b then -1 else if b < a then 1 else 0
theorem cmpZ_lt {a b : Int} (h : a < b) : cmpZ a b = -1 := by unfold cmpZ; rw [if_pos h]
theorem cmpZ_gt {a b : Int} (h : b < a) : cmpZ a b = 1 := by unfold cmpZ; rw [if_neg (by omega), if_pos h]
theorem cmpZ_eq (a : Int) : cmpZ a a = 0 := by unfold cmpZ; rw [if_neg (by omega), if_neg (by omega)]
theorem cell_alloc' {w : World} {o : Obj} {p : Addr} {v : Value} (h : w.cell? p = some v) : (w.alloc o).drew.cell? p = some v := cell_ext ((Below.refl w.heap.size w).alloc (Nat.le_refl _) o) h
theorem isnan_any (a : Int) (w : World) : Calls Try.prog 57 #[.int .i64 a] w fun e w' => e = .returned (.bool false) ∧ w = w' := by
  go_enter Try.func57, Try.ntmps57
  go_wp2
  go_ret
  exact ⟨by simp, rfl⟩
theorem compare_any (a b : Int) (w : World) : Calls Try.prog 50 #[.int .i64 a, .int .i64 b] w fun e w' => e = .returned (.int .i64 (cmpZ a b)) ∧ w = w' := by
  rcases (by omega : a < b ∨ b < a ∨ a = b) with h | h | h
  · have Hc := Lib.hid (cmpZ_lt h)
    have t1 : decide (a < b) = true := decide_eq_true h
    clear h
    go_enter Try.func50, Try.ntmps50
    go_wp2_with (go_at_call 57; refine (isnan_any _ _).mono ?_; rintro e w' ⟨rfl, rfl⟩)
    go_ret
    exact ⟨by rw [Hc.out]; rfl, rfl⟩
  · have Hc := Lib.hid (cmpZ_gt h)
    have t1 : decide (a < b) = false := decide_eq_false (by omega)
    have t2 : decide (b < a) = true := decide_eq_true h
    clear h
    go_enter Try.func50, Try.ntmps50
    go_wp2_with (go_at_call 57; refine (isnan_any _ _).mono ?_; rintro e w' ⟨rfl, rfl⟩)
    go_ret
    exact ⟨by rw [Hc.out]; rfl, rfl⟩
  · subst h
    have Hc := Lib.hid (cmpZ_eq a)
    have t1 : decide (a < a) = false := decide_eq_false (by omega)
    go_enter Try.func50, Try.ntmps50
    go_wp2_with (go_at_call 57; refine (isnan_any _ _).mono ?_; rintro e w' ⟨rfl, rfl⟩)
    go_ret
    exact ⟨by rw [Hc.out]; rfl, rfl⟩
end Go.Proofs.Ytlocilbcmcfmaaa
/- leases as data. -/
namespace Go.Proofs.Ytlocilbcmcfmaaa
open Go.RowKit
/-- a lease -/
structure Le where
  sl : Int
  ai : Int
  fl : Int
  tk : Int
  us : Bool
deriving DecidableEq
def Le.cells (x : Le) : List Value := [.int .i64 x.sl, .int .i64 x.ai, .int .i64 x.fl, .int .i64 x.tk, .bool x.us]
def Le.v (x : Le) : Value := .agg x.cells.toArray
def leK : EK Le := ⟨5, Le.cells, fun _ => rfl, fun x u hu => by simp only [Le.cells, List.mem_cons, List.not_mem_nil, or_false] at hu; rcases hu with rfl | rfl | rfl | rfl | rfl <;> rfl, by decide⟩
def leZ : Le := ⟨0, 0, 0, 0, false⟩
/-- the cells of a lease in memory -/
def Five (w : World) (b o : Nat) (x : Le) : Prop := w.cell? ⟨b, o, none⟩ = some (.int .i64 x.sl) ∧ w.cell? ⟨b, o + 1, none⟩ = some (.int .i64 x.ai) ∧ w.cell? ⟨b, o + 2, none⟩ = some (.int .i64 x.fl) ∧ w.cell? ⟨b, o + 3, none⟩ = some (.int .i64 x.tk) ∧ w.cell? ⟨b, o + 4, none⟩ = some (.bool x.us)
theorem five_of {w : World} {b o : Nat} {x : Le} (h : ElAt leK w b o x) : Five w b o x := ⟨h 0 _ rfl, h 1 _ rfl, h 2 _ rfl, h 3 _ rfl, h 4 _ rfl⟩
theorem Five.ext {w w' : World} {b o : Nat} {x : Le} (h : Five w b o x) (hb : Below w.heap.size w w') : Five w' b o x := ⟨cell_ext hb h.1, cell_ext hb h.2.1, cell_ext hb h.2.2.1, cell_ext hb h.2.2.2.1, cell_ext hb h.2.2.2.2⟩
theorem le_info : (Try.prog.info? 36).map (fun i => (i.zero, i.size, i.bytes)) = some (some (.agg #[.int .i64 0, .int .i64 0, .int .i64 0, .int .i64 0, .bool false]), 5, 40) := by kernel_rfl
theorem le_size : (Try.prog.info? 36).map (·.size) = some 5 := by kernel_rfl
theorem le_sizeOf (w : World) : (Go.sizeOf 36).run Try.prog w = .ok 5 w := by kernel_rfl
/-- leases read, leases of the own -/
abbrev LesAt (B : Nat) (w : World) (l : List Le) (v : Value) : Prop := LsAt leK B w l v
abbrev OwnLe (w : World) (base : Nat) (v : Value) (l : List Le) : Prop := OwnK leK 36 w base v l
/-- a list with an element put in -/
def insG {α : Type} (l : List α) (i : Nat) (r : α) : List α := l.take i ++ r :: l.drop i
theorem insG_len {α : Type} {l : List α} {i : Nat} (r : α) (h : i ≤ l.length) : (insG l i r).length = l.length + 1 := by
  unfold insG; simp only [List.length_append, List.length_cons, List.length_take, List.length_drop]; omega
theorem insG_cells {α : Type} (K : EK α) (l : List α) (i : Nat) (r : α) : K.flat (insG l i r) = K.flat (l.take i) ++ K.cells r ++ K.flat (l.drop i) := by
  unfold insG; rw [K.flat_append, K.flat_cons, List.append_assoc]
theorem insG_end {α : Type} (l : List α) (r : α) : insG l l.length r = l ++ [r] := by
  unfold insG; rw [List.take_of_length_le (Nat.le_refl _), List.drop_of_length_le (Nat.le_refl _)]
theorem cur_takeG {α : Type} (K : EK α) {l : List α} {i : Nat} {cur : Array Value} (hi : i ≤ l.length) (ht : cur.toList.take (l.length * K.n) = K.flat l) : cur.toList.take (i * K.n) = K.flat (l.take i) := by
  have h1 : (cur.toList.take (l.length * K.n)).take (i * K.n) = cur.toList.take (i * K.n) := by rw [List.take_take, Nat.min_eq_left (Nat.mul_le_mul_right _ hi)]
  rw [← h1, ht, K.flat_take hi]
set_option maxRecDepth 100000 in
set_option maxHeartbeats 2000000 in
theorem lclone_any (l : List Le) (v : Value) (w : World) (hl : LesAt w.heap.size w l v) (hlen : l.length ≤ 2000) :
    Calls Try.prog 28 #[v] w fun e w' => ∃ v', e = .returned v' ∧ OwnLe w' w.heap.size v' l ∧ Below w.heap.size w w' := by
  obtain ⟨oa, cap, rfl, hlm⟩ := hl.shape
  clear hlm
  cases oa with
  | none =>
    have h0 : l = [] := by
      rcases hl with ⟨h, _⟩ | ⟨b, off, cp, h1, _⟩
      · exact h
      · cases h1
    subst h0
    clear hl hlen
    have q1 : ∀ w : World, (binOp .eql 24 (.slice none 0 cap) (.slice none 0 0)).run Try.prog w = .ok (.bool true) w := fun w => eql_nil w _ _ none 0 cap Try.underlying24
    go_enter Try.func28, Try.ntmps28
    go_wp2
    go_ret
    exact ⟨_, rfl, OwnK.nil _ _ _, Below.refl _ _⟩
  | some ad =>
    have hsrc : Hid (Src Try.prog 5 24 (.slice (some ad) l.length cap) l.length (leK.flat l) (w.alloc (.cells #[] 36))) :=
      (hl.ext ((Below.refl w.heap.size w).alloc (Nat.le_refl _) (.cells #[] 36))).src Try.underlying24
    have hO : Hid (OwnLe (w.alloc (.cells #[] 36)) w.heap.size (.slice (some ⟨w.heap.size, 0, none⟩) 0 0) []) := OwnK.made _ _ w (Nat.le_refl _)
    have hb0 := Lib.hid ((Below.refl w.heap.size w).alloc (Nat.le_refl _) (.cells #[] 36))
    have Hlen : Hid (l.length ≤ 2000) := hlen
    clear hl hlen
    have q1 : ∀ w : World, (binOp .eql 24 (.slice (some ad) l.length cap) (.slice none 0 0)).run Try.prog w = .ok (.bool false) w := fun w => eql_nil w _ _ (some ad) l.length cap Try.underlying24
    go_enter Try.func28, Try.ntmps28
    go_wp2_with (at_builtin; refine wpList_append_x (e := 36) (z := (.agg #[.int .i64 0, .int .i64 0, .int .i64 0, .int .i64 0, .bool false])) (size := 5) (bytes := 40) Try.underlying24 le_info rfl rfl _ _ rfl w.heap.size _ 0 [] rfl hO.out _ l.length (leK.flat l) rfl hsrc.out (by have := Hlen.out; unfold maxLen; omega) (by have := Hlen.out; omega) hb0.out.size ?_; intro v5 w5 ho5 hg5 hn5)
    have HO5 : Hid (OwnLe w5 w.heap.size v5 l) := OwnK.append (K := leK) (a := []) (by rw [leK.flat_nil]; exact ho5) (by simp)
    have HB5 := Lib.hid (hO.out.below hb0.out hg5 (Nat.le_refl _))
    clear ho5 hg5 hn5
    go_wp2_with fail
    go_ret
    exact ⟨_, rfl, HO5.out, HB5.out⟩
end Go.Proofs.Ytlocilbcmcfmaaa
/- lease: demand, caught, the deferred closure of Do. -/
namespace Go.Proofs.Ytlocilbcmcfmaaa
open Go.RowKit
def failV (e : Int) : Value := .iface 85 (.agg #[.int .i64 e])
def failChain (e : Int) : List PanicEntry := [{ v := failV e, recovered := false }]
def failDone (e : Int) : List PanicEntry := [{ v := failV e, recovered := true }]
theorem demand_true (e : Int) (w : World) : Calls Try.prog 27 #[.bool true, .int .i64 e] w fun r w' => r = .returned (.tuple #[]) ∧ w = w' := by
  go_enter Try.func27, Try.ntmps27
  go_wp2
  go_end0
  exact ⟨rfl, rfl⟩
set_option maxHeartbeats 1000000 in
theorem demand_false (e : Int) (w : World) : Calls Try.prog 27 #[.bool false, .int .i64 e] w fun r w' => r = .panicked (failChain e) ∧ w = w' := by
  go_enter Try.func27, Try.ntmps27
  go_wp2
  exact ⟨rfl, rfl, rfl⟩
theorem caught_nil (p : Value) (w : World) : Calls Try.prog 23 #[.nilIface, p] w fun r w' => r = .returned (.tuple #[]) ∧ w = w' := by
  go_enter Try.func23, Try.ntmps23
  go_wp2
  go_end0
  exact ⟨rfl, rfl⟩
theorem assert_fail (xT : TypeId) (v : Value) (w : World) : (Instr.typeAssert (.iface 85 v) xT 85 true).run Try.prog w = .ok (.tuple #[v, .bool true]) w := by kernel_rfl
def CaughtW (E : Nat) (e : Int) (w w' : World) : Prop := w'.cell? ⟨E, 0, none⟩ = some (.int .i64 e) ∧ w'.frozen? ⟨E, 0, none⟩ = false ∧ w.grownBy w' (some E)
set_option maxHeartbeats 1000000 in
theorem caught_fail (e : Int) (E : Nat) (x : Value) (w : World) (he : w.cell? ⟨E, 0, none⟩ = some x) (hz : w.frozen? ⟨E, 0, none⟩ = false) :
    Calls Try.prog 23 #[failV e, .pointer (some ⟨E, 0, none⟩)] w fun r w' => r = .returned (.tuple #[]) ∧ CaughtW E e w w' := by
  have hta := assert_fail
  have hEl := World.block_lt_of_cell? w _ he
  unfold failV
  go_enter Try.func23, Try.ntmps23
  go_wp2
  go_end0
  refine ⟨rfl, cell_ext ((Below.refl (w.setCell ⟨E, 0, none⟩ (.int .i64 e)).heap.size _).alloc (Nat.le_refl _) _) (by simp [go_sem, he]), ?_, ?_⟩
  · refine (World.frozen?_of_block (w := w.setCell ⟨E, 0, none⟩ (.int .i64 e)) (Below.heap_alloc _ _ E (by simpa using hEl))).trans ?_
    simp [go_sem, hz]
  · exact grown_alloc (grown_setT w E 0 _) _
set_option maxHeartbeats 1000000 in
theorem do1_idle (E : Nat) (w : World) :
    CallsD Try.prog 22 #[.pointer (some ⟨E, 0, none⟩)] .returning w fun e u' w' => e = .returned (.tuple #[]) ∧ u' = .returning ∧ w' = w := by
  refine callsD_of_wpS Try.func22 rfl fun c₀ cs hu => ?_
  apply wpS_region
  simp [wpOpsS, go_sem, recoverD, hu, Try.ntmps22]
  refine (caught_nil _ w).mono ?_
  rintro e w' ⟨rfl, rfl⟩
  cases c₀
  simp_all [bodyPostS, results, Try.results22]
set_option maxHeartbeats 1000000 in
theorem do1_panicking (e : Int) (E : Nat) (x : Value) (w : World) (he : w.cell? ⟨E, 0, none⟩ = some x) (hz : w.frozen? ⟨E, 0, none⟩ = false) :
    CallsD Try.prog 22 #[.pointer (some ⟨E, 0, none⟩)] (.panicking (failChain e)) w fun r u' w' => r = .returned (.tuple #[]) ∧ u' = .panicking (failDone e) ∧ CaughtW E e w w' := by
  refine callsD_of_wpS Try.func22 rfl fun c₀ cs hu => ?_
  apply wpS_region
  unfold failChain at hu
  simp [wpOpsS, go_sem, recoverD, hu, Try.ntmps22]
  refine (caught_fail e E x w he hz).mono ?_
  rintro r w' ⟨rfl, hc⟩
  cases c₀
  simp_all [bodyPostS, results, failDone, Try.results22]
end Go.Proofs.Ytlocilbcmcfmaaa
