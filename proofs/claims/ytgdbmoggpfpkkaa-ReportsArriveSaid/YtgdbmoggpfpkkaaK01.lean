/- Merged: Mem Bas Num Val Form Chk App Enc Wri Wr2. -/
import Derived.Test.YtgdbmoggpfpkkaaRows
import Derived.WalkKit
import Derived.WalkSpells
import Derived.WalkLawsBesides
import Derived.Lib.Hide
import Derived.Deep.AppendLies
import Derived.Below
import Derived.Laws.BytesArg
import Derived.Lib.ConvBytes
import Derived.Deep.DeepCutAuto
import Derived.Deep.AppendSrc
import Derived.Deep.RegionHeld3
namespace Go.Proofs.Ytgdbmoggpfpkkaa
open Go.RowKit

/-- the cells of bytes -/
def bcells (l : List UInt8) : List Value := l.map fun c => .int .u8 c.toNat
theorem bcells_length (l : List UInt8) : (bcells l).length = l.length := by simp [bcells]
theorem bcells_append (a b : List UInt8) : bcells (a ++ b) = bcells a ++ bcells b := by simp [bcells]
theorem bcells_one (l : List UInt8) : ∀ u ∈ bcells l, u.oneCell' = true := by
  intro u hu; simp only [bcells, List.mem_map] at hu; obtain ⟨c, _, rfl⟩ := hu; rfl
theorem bcells_getElem (l : List UInt8) (j : Nat) (u : Value) (h : (bcells l)[j]? = some u) : ∃ c, l[j]? = some c ∧ u = .int .u8 c.toNat := by
  simp only [bcells, List.getElem?_map, Option.map_eq_some_iff] at h
  obtain ⟨c, h1, h2⟩ := h; exact ⟨c, h1, h2.symm⟩

/-- a slice of bytes that the call itself made -/
def OwnB (e : TypeId) (w : World) (base : Nat) (v : Value) (l : List UInt8) : Prop := w.ownsRow base e 1 v l.length (bcells l)
theorem OwnB.nil (e : TypeId) (w : World) (base : Nat) : OwnB e w base (.slice none 0 0) [] := World.ownsRow_nil w base e 1
theorem OwnB.alloc {e : TypeId} {w : World} {base : Nat} {v : Value} {l : List UInt8} (h : OwnB e w base v l) (o : Obj) : OwnB e (w.alloc o) base v l := World.ownsRow.alloc h o
theorem OwnB.kept {e : TypeId} {w w' : World} {base : Nat} {v : Value} {l : List UInt8} {row : Option Nat} (h : OwnB e w base v l) (hg : w.grownBy w' row) (hne : v.ownBlock = none ∨ v.ownBlock ≠ row) : OwnB e w' base v l := World.ownsRow.kept h hg hne

/-- the block of the new slice is the old one's, or new -/
def Next (w : World) (v v' : Value) : Prop := v'.ownBlock = v.ownBlock ∨ ∀ g, v'.ownBlock = some g → w.heap.size ≤ g
theorem Next.refl (w : World) (v : Value) : Next w v v := .inl rfl
theorem Next.trans {w w1 : World} {v v1 v2 : Value} (h : Next w v v1) (hs : w.heap.size ≤ w1.heap.size) (h2 : Next w1 v1 v2) : Next w v v2 := by
  rcases h2 with h2 | h2
  · rcases h with h | h
    · exact .inl (h2.trans h)
    · exact .inr fun g hg => h g (h2 ▸ hg)
  · exact .inr fun g hg => Nat.le_trans hs (h2 g hg)
theorem grown_trans {w w1 w2 : World} {G G1 : Option Nat} (h : w.grownBy w1 G) (h2 : w1.grownBy w2 G1) (hG : G1 = G ∨ ∀ g, G1 = some g → w.heap.size ≤ g) : w.grownBy w2 G :=
  ⟨h2.os.trans h.os, h2.tape.trans h.tape, h2.output.trans h.output, Nat.le_trans h.size h2.size, fun k hk hne => by
    rw [h2.block k (Nat.lt_of_lt_of_le hk h.size) (fun e => by rcases hG with hG | hG; exact hne (e.trans hG); have := hG k e.symm; omega)]
    exact h.block k hk hne⟩
theorem grown_refl (w : World) (G : Option Nat) : w.grownBy w G := ⟨rfl, rfl, rfl, Nat.le_refl _, fun _ _ _ => rfl⟩
theorem grown_alloc {w w1 : World} {G : Option Nat} (h : w.grownBy w1 G) (o : Obj) : w.grownBy (w1.alloc o) G := grown_trans h (World.grownBy_alloc w1 o G) (.inl rfl)

/-- a slice of bytes that is read -/
def RdB (w : World) (v : Value) (l : List UInt8) : Prop :=
  (v = .slice none 0 0 ∧ l = []) ∨ ∃ a cap, v = .slice (some a) l.length cap ∧ (l = [] ∨ a.spot = none) ∧ l.length ≤ cap ∧ cap ≤ maxLen ∧ ∀ j u, (bcells l)[j]? = some u → w.cell? (a.add j) = some u

section
variable {P : Program} {w : World} {ops : Array Oper} {rest : List Oper} {o : Oper} {a : Act} {Q : Exit → Act → World → Prop}

/-- append of bytes that lie at an address -/
theorem wpList_append_b {t e : TypeId} (ht : P.underlying t = some (.slice e)) (he : (P.info? e).map (fun i => (i.zero, i.size, i.bytes)) = some (some (.int .u8 0), 1, 1))
    (hgd : o.guard = none) (s x : Operand) (ho : o.op = .call { callee := .builtin .append, args := #[s, x], argTypes := #[t, t] })
    (base : Nat) (v : Value) (l : List UInt8) (hs : a.eval s = v) (hown : OwnB e w base v l)
    (ad : Addr) (c : Nat) (m : List UInt8) (hx : a.eval x = .slice (some ad) m.length c) (hm : ∀ j u, (bcells m)[j]? = some u → w.cell? (ad.add j) = some u)
    (hl : l.length + m.length ≤ 140737488355328) (hbase : base ≤ w.heap.size)
    (h : ∀ v' w', OwnB e w' base v' (l ++ m) → w.grownBy w' v.ownBlock → Next w v v' → wpList P ops Q rest (a.put o.dst v') w') : wpList P ops Q (o :: rest) a w := by
  obtain ⟨i0, hi, hz0, hz1, hz2⟩ := info_parts he
  obtain ⟨v', w', hr, h2, h3, _, h5⟩ := run_append_own_at (P := P) w base t o.type e i0 (.int .u8 0) 1 1 ht hi hz0 hz1 hz2 rfl (by decide) v l.length (bcells l) hown ad m.length c (bcells m) (by simp [bcells_length]) hm (bcells_one m) (by unfold maxLen; omega) (by omega) hbase
  refine wpList_plain hgd fun _ hK => ?_
  unfold Oper.wp execOp
  simp only [ho, resolve, invoke, builtin, Sem.run_bind, Sem.run_pure, Result.andThen_ok, List.map_toArray, List.map_cons, List.map_nil, hs, hx, hr]
  refine hK _ _ (h v' w' ?_ h3 ?_)
  · unfold OwnB; rw [bcells_append, List.length_append]; exact h2
  · rcases h5 with h5 | h5
    · exact .inl h5
    · exact .inr fun g hg => by rw [h5] at hg; cases hg; exact Nat.le_refl _
theorem step_append_b {K : Act → World → Prop} {E : Prop} {t e : TypeId} (ht : P.underlying t = some (.slice e)) (he : (P.info? e).map (fun i => (i.zero, i.size, i.bytes)) = some (some (.int .u8 0), 1, 1))
    (hgd : o.guard = none) (s x : Operand) (ho : o.op = .call { callee := .builtin .append, args := #[s, x], argTypes := #[t, t] })
    (base : Nat) (v : Value) (l : List UInt8) (hs : a.eval s = v) (hown : OwnB e w base v l)
    (ad : Addr) (c : Nat) (m : List UInt8) (hx : a.eval x = .slice (some ad) m.length c) (hm : ∀ j u, (bcells m)[j]? = some u → w.cell? (ad.add j) = some u)
    (hl : l.length + m.length ≤ 140737488355328) (hbase : base ≤ w.heap.size)
    (h : ∀ v' w', OwnB e w' base v' (l ++ m) → w.grownBy w' v.ownBlock → Next w v v' → K (a.put o.dst v') w') :
    if Region.wanted o (yielded ops a.tmps) = true then Oper.wp P o a w K Q else E := by
  have hw : Region.wanted o (yielded ops a.tmps) = true := by simp [Region.wanted, hgd]
  rw [if_pos hw]
  obtain ⟨i0, hi, hz0, hz1, hz2⟩ := info_parts he
  obtain ⟨v', w', hr, h2, h3, _, h5⟩ := run_append_own_at (P := P) w base t o.type e i0 (.int .u8 0) 1 1 ht hi hz0 hz1 hz2 rfl (by decide) v l.length (bcells l) hown ad m.length c (bcells m) (by simp [bcells_length]) hm (bcells_one m) (by unfold maxLen; omega) (by omega) hbase
  unfold Oper.wp execOp
  simp only [ho, resolve, invoke, builtin, Sem.run_bind, Sem.run_pure, Result.andThen_ok, List.map_toArray, List.map_cons, List.map_nil, hs, hx, hr]
  refine h v' w' ?_ h3 ?_
  · unfold OwnB; rw [bcells_append, List.length_append]; exact h2
  · rcases h5 with h5 | h5
    · exact .inl h5
    · exact .inr fun g hg => by rw [h5] at hg; cases hg; exact Nat.le_refl _
end

/-! numerals -/
def loDig (y : Nat) : UInt8 := y.toUInt8
def hiDig (y : Nat) : UInt8 := (y % 128 + 128).toUInt8
def numF : Nat → Nat → List UInt8
  | 0, u => [loDig u]
  | f + 1, u => if u < 128 then [loDig u] else hiDig u :: numF f (u / 128)
def num (u : Nat) : List UInt8 := numF 9 u
theorem numF_len (f u : Nat) : (numF f u).length ≤ f + 1 := by
  induction f generalizing u with
  | zero => simp [numF]
  | succ f ih => unfold numF; split <;> simp; exact ih _
theorem numF_pos (f u : Nat) : 0 < (numF f u).length := by cases f <;> simp [numF] <;> split <;> simp

theorem or128 : ∀ b : Fin 256, bits BinOp.or IntKind.u8 ((b : Nat) : Int) 128 = (((b.val % 128 + 128 : Nat)) : Int) := by decide +kernel
end Go.Proofs.Ytgdbmoggpfpkkaa
/- what every chapter leans on: worlds below a bound, bytes that are read. -/
namespace Go.Proofs.Ytgdbmoggpfpkkaa
open Go.RowKit

theorem below_after {w w' : World} {ob : Obj} (h : Below (w.alloc ob).heap.size (w.alloc ob) w') : Below w.heap.size w w' :=
  ((Below.refl _ w).alloc (Nat.le_refl _) ob).trans (h.mono (by simp))
theorem below_box {w w' : World} {ob : Obj} (h : Below (w.heap.size + 1) (w.alloc ob) w') : Below w.heap.size w w' :=
  ((Below.refl _ w).alloc (Nat.le_refl _) ob).trans (h.mono (by omega))
theorem below_ext {w w1 w2 : World} (h : Below w.heap.size w w1) (h2 : Below w1.heap.size w1 w2) : Below w.heap.size w w2 := h.trans (h2.mono h.size)
theorem below_undrew {B : Nat} {w w' : World} (h : Below B w.drew w') : Below B w w' := ⟨h.os, h.tape, h.output, h.size, h.block⟩
theorem cell_ext {w w' : World} (hb : Below w.heap.size w w') {p : Addr} {v : Value} (h : w.cell? p = some v) : w'.cell? p = some v := (hb.cell (World.block_lt_of_cell? w p h)).trans h
/-- bytes in blocks below B -/
def BtsAt (B : Nat) (w : World) (l : List UInt8) (v : Value) : Prop :=
  (l = [] ∧ ∃ oa cap, v = .slice oa 0 cap ∧ cap ≤ maxLen) ∨ (l ≠ [] ∧ ∃ b off cap, v = .slice (some ⟨b, off, none⟩) l.length cap ∧ l.length ≤ cap ∧ cap ≤ maxLen ∧ b < B ∧ ∀ j c, l[j]? = some c → w.cell? ⟨b, off + j, none⟩ = some (.int .u8 (c.toNat : Int)))
theorem BtsAt.keep {B B' : Nat} {w w' : World} {l : List UInt8} {v : Value} (h : BtsAt B w l v) (hB : B ≤ B') (hs : ∀ k, k < B → w'.heap[k]? = w.heap[k]?) : BtsAt B' w' l v := by
  rcases h with h | ⟨hne, b, off, cap, h1, h2, h3, h4, h5⟩
  · exact .inl h
  · exact .inr ⟨hne, b, off, cap, h1, h2, h3, Nat.lt_of_lt_of_le h4 hB, fun j c hj => by rw [World.cell?_of_block (w := w) (hs _ h4)]; exact h5 j c hj⟩

theorem BtsAt.mk' {B : Nat} {w : World} {l : List UInt8} {b off cap n : Nat} (hn : n = l.length) (h2 : l.length ≤ cap) (h3 : cap ≤ maxLen) (h4 : b < B) (h5 : ∀ j c, l[j]? = some c → w.cell? ⟨b, off + j, none⟩ = some (.int .u8 (c.toNat : Int))) : BtsAt B w l (.slice (some ⟨b, off, none⟩) n cap) := by
  subst hn
  by_cases h : l = []
  · subst h; exact .inl ⟨rfl, _, cap, rfl, h3⟩
  · exact .inr ⟨h, b, off, cap, rfl, h2, h3, h4, h5⟩
theorem BtsAt.form {B : Nat} {w : World} {l : List UInt8} {v : Value} (h : BtsAt B w l v) : ∃ oa cap, v = .slice oa l.length cap ∧ l.length ≤ cap ∧ cap ≤ maxLen := by
  rcases h with ⟨rfl, oa, cap, rfl, h⟩ | ⟨_, b, off, cap, rfl, h2, h3, _⟩
  · exact ⟨oa, cap, rfl, Nat.zero_le _, h⟩
  · exact ⟨_, cap, rfl, h2, h3⟩
theorem RdB.bts {w : World} {l : List UInt8} {v : Value} (h : RdB w v l) : BtsAt w.heap.size w l v := by
  rcases h with ⟨rfl, rfl⟩ | ⟨⟨b, off, sp⟩, cap, rfl, hs, h2, h3, h4⟩
  · exact .inl ⟨rfl, none, 0, rfl, Nat.zero_le _⟩
  · by_cases hl : l = []
    · subst hl; exact .inl ⟨rfl, _, cap, rfl, h3⟩
    · rcases hs with hs | hs
      · exact absurd hs hl
      · have hsp : sp = none := hs
        subst hsp
        have hc : ∀ j c, l[j]? = some c → w.cell? ⟨b, off + j, none⟩ = some (.int .u8 (c.toNat : Int)) := fun j c hj => by
          have := h4 j (.int .u8 (c.toNat : Int)) (by simp [bcells, hj])
          have hplain : (⟨b, off, none⟩ : Addr).add j = ⟨b, off + j, none⟩ := by unfold Addr.add; split <;> simp_all
          rw [hplain] at this; exact this
        obtain ⟨c, hc0⟩ : ∃ c, l[0]? = some c := by cases l with | nil => exact absurd rfl hl | cons c _ => exact ⟨c, rfl⟩
        exact .inr ⟨hl, b, off, cap, rfl, h2, h3, World.block_lt_of_cell? w ⟨b, off + 0, none⟩ (hc 0 c hc0), hc⟩
/-- string(b) of bytes that are read -/
theorem run_conv_rd {P : Program} {src dst e : TypeId} (hs : P.underlying src = some (.slice e)) (he : P.underlying e = some (.int .u8)) (hd : P.underlying dst = some .string) {w : World} {v : Value} {l : List UInt8} (h : RdB w v l) :
    (convert src dst v).run P w = .ok (.string ⟨l.toArray⟩) w := by
  rcases h with ⟨rfl, rfl⟩ | ⟨a, cap, rfl, _, _, _, hc⟩
  · rw [run_convert_bytes_nil w src e hs he 0 0 dst hd]; rfl
  · have hl : (loadCells a l.length).run P w = .ok ((l.map fun c => (c.toNat : Int)).map (Value.int .u8)).toArray w := by
      have := run_loadCells_list (P := P) w a (bcells l) hc
      have e : ((l.map fun c => (c.toNat : Int)).map (Value.int .u8)) = bcells l := by simp [bcells]
      rw [e]; simpa [bcells_length] using this
    have e2 : (l.map fun c => (c.toNat : Int)).map (fun n => UInt8.ofNat n.toNat) = l := by
      rw [List.map_map]
      conv => rhs; rw [← List.map_id l]
      exact List.map_congr_left fun c _ => by simp
    rw [run_convert_bytes_string w src dst e _ l.length cap hs he hd, run_bytesToString w a l.length cap _ hl, foldl_push_bytes, e2]
    simp [ByteArray.empty, ByteArray.emptyWithCapacity]
    rfl
theorem run_conv_bts {P : Program} {src dst e : TypeId} (hs : P.underlying src = some (.slice e)) (he : P.underlying e = some (.int .u8)) (hd : P.underlying dst = some .string) {B : Nat} {w : World} {v : Value} {l : List UInt8} (h : BtsAt B w l v) :
    (convert src dst v).run P w = .ok (.string ⟨l.toArray⟩) w := by
  rcases h with ⟨rfl, oa, cap, rfl, hcm⟩ | ⟨hne, b, off, cap, rfl, h2, h3, h4, h5⟩
  · cases oa with
    | none => rw [run_convert_bytes_nil w src e hs he 0 cap dst hd]; rfl
    | some a => exact run_conv_rd hs he hd (l := []) (.inr ⟨a, cap, rfl, .inl rfl, Nat.zero_le _, hcm, by simp [bcells]⟩)
  · refine run_conv_rd hs he hd (.inr ⟨⟨b, off, none⟩, cap, rfl, .inr rfl, h2, h3, fun j u hu => ?_⟩)
    obtain ⟨c, hc, rfl⟩ := bcells_getElem l j u hu
    have hplain : (⟨b, off, none⟩ : Addr).add j = ⟨b, off + j, none⟩ := by unfold Addr.add; split <;> simp_all
    rw [hplain]; exact h5 j c hc

theorem BtsAt.shape {B : Nat} {w : World} {l : List UInt8} {v : Value} (h : BtsAt B w l v) : ∃ oa cap, v = .slice oa l.length cap := by
  rcases h with ⟨rfl, oa, cap, rfl, _⟩ | ⟨_, b, off, cap, rfl, _⟩
  · exact ⟨oa, cap, rfl⟩
  · exact ⟨_, cap, rfl⟩
theorem BtsAt.ext {w w' : World} {l : List UInt8} {v : Value} (h : BtsAt w.heap.size w l v) (hb : Below w.heap.size w w') : BtsAt w'.heap.size w' l v := h.keep hb.size hb.block
theorem conv_bts {B : Nat} {w : World} {v : Value} {l : List UInt8} (h : BtsAt B w l v) : (convert 33 9 v).run Try.prog w = .ok (.string ⟨l.toArray⟩) w := run_conv_bts Try.underlying33 Try.underlying5 Try.underlying9 h
theorem conv_B {w : World} {v : Value} {l : List UInt8} (h : RdB w v l) : (convert 33 9 v).run Try.prog w = .ok (.string ⟨l.toArray⟩) w := run_conv_rd Try.underlying33 Try.underlying5 Try.underlying9 h
theorem grown_drewN (w : World) (n : Nat) (G : Option Nat) : w.grownBy (w.drewN n) G := ⟨rfl, rfl, rfl, Nat.le_refl _, fun _ _ _ => rfl⟩
theorem grown_drewN' {w w1 : World} {G : Option Nat} (h : w.grownBy w1 G) (n : Nat) : w.grownBy (w1.drewN n) G := ⟨h.os, h.tape, h.output, h.size, h.block⟩
theorem grown_setR {w w1 : World} {R i : Nat} {v : Value} (h : w.grownBy w1 (some R)) : w.grownBy (w1.setCell ⟨R, i, none⟩ v) (some R) :=
  ⟨h.os, h.tape, h.output, by have := h.size; simpa [World.setCell] using this, fun k hk hne => by rw [Below.heap_setCell _ _ _ _ (by show k ≠ R; exact fun e => hne (by rw [e]))]; exact h.block k hk hne⟩
theorem grown_set_new {w w1 : World} {G : Option Nat} {T i : Nat} {v : Value} (h : w.grownBy w1 G) (hT : w.heap.size ≤ T) : w.grownBy (w1.setCell ⟨T, i, none⟩ v) G :=
  ⟨h.os, h.tape, h.output, by have := h.size; simpa [World.setCell] using this, fun k hk hne => by rw [Below.heap_setCell _ _ _ _ (by show k ≠ T; omega)]; exact h.block k hk hne⟩
theorem grown_drew' {w w1 : World} {G : Option Nat} (h : w.grownBy w1 G) : w.grownBy w1.drew G := ⟨h.os, h.tape, h.output, h.size, h.block⟩
theorem grown_setT (w : World) (T i : Nat) (v : Value) : w.grownBy (w.setCell ⟨T, i, none⟩ v) (some T) :=
  ⟨rfl, rfl, rfl, by simp [World.setCell], fun k _ hne => Below.heap_setCell _ _ _ _ (by show k ≠ T; exact fun h => hne (by rw [h]))⟩
/-- []byte(s): a new block with the bytes -/
theorem run_bytes_of (s : ByteArray) (hs : s.size ≤ 1000000) (w : World) :
    ∃ cap w', (convert 9 33 (.string s)).run Try.prog w = .ok (.slice (some ⟨w.heap.size, 0, none⟩) s.size cap) w' ∧ Below w.heap.size w w' ∧ BtsAt w'.heap.size w' s.data.toList (.slice (some ⟨w.heap.size, 0, none⟩) s.size cap) := by
  refine ⟨_, _, Lib.run_convert_string_bytes w 9 33 5 s Try.underlying9 Try.underlying33 Try.underlying5, ⟨rfl, rfl, rfl, ?_, ?_⟩, ?_⟩
  · rw [Lib.bytesWorld_size]; omega
  · exact fun k hk => Lib.bytesWorld_at_old w _ s k hk
  · have h1 := grownCap_ge w s.size 0 5
    have h2 := grownCap_le_maxLen w s.size 0 5 (by unfold maxLen; omega)
    refine BtsAt.mk' (by simp) (by simpa using h1) h2 (by rw [Lib.bytesWorld_size]; omega) fun j c hj => ?_
    have hjl : j < s.size := by have := (List.getElem?_eq_some_iff.1 hj).1; simpa using this
    rw [Nat.zero_add, Lib.bytesWorld_cell w _ s j hjl]
    simp [List.getD, hj]
end Go.Proofs.Ytgdbmoggpfpkkaa
/- codec.numeral appends the digits of a number to a slice of bytes of the call's own. -/
namespace Go.Proofs.Ytgdbmoggpfpkkaa
open Go.RowKit

theorem lo_cast (x : Nat) : ((loDig x).toNat : Int) = ((x % 256 : Nat) : Int) := by simp [loDig, Nat.toUInt8]
theorem hi_cast (x : Nat) : ((hiDig x).toNat : Int) = (((x % 128 + 128) % 256 : Nat) : Int) := by simp [hiDig, Nat.toUInt8]
theorem low_or (y : Nat) : bits BinOp.or IntKind.u8 ((y : Int) % 256) 128 = ((hiDig y).toNat : Int) := by
  have h := or128 ⟨y % 256, Nat.mod_lt _ (by decide)⟩
  simp only at h
  rw [hi_cast]
  have e : ((y : Int) % 256) = ((y % 256 : Nat) : Int) := by omega
  rw [e, h]; congr 1; omega
theorem cell_alloc_one (w : World) (v : Value) (t : TypeId) (l : List Value) (hl : l = [v]) : ∀ (j : Nat) (u : Value), l[j]? = some u → (w.alloc (.cells #[v] t)).cell? ((⟨w.heap.size, 0, none⟩ : Addr).add j) = some u := by
  subst hl
  intro j u hu
  match j, hu with
  | 0, hu => simp at hu; subst hu; simp [Addr.add]
theorem numF_more (f y : Nat) (h : ¬ y < 128) : numF (f + 1) y = [hiDig y] ++ numF f (y / 128) := by simp [numF, h]
theorem numF_end (f y : Nat) (h : y < 128) : numF f y = [loDig y] := by cases f <;> simp [numF, h]
theorem bcells_sing (c : UInt8) (x : Int) (h : x = (c.toNat : Int)) : bcells [c] = [Value.int .u8 x] := by subst h; rfl

/-- the post of numeral -/
def NumPost (base : Nat) (v : Value) (l : List UInt8) (w : World) (e : Ending) (w' : World) : Prop := ∃ v', e = .returned v' ∧ OwnB 5 w' base v' l ∧ w.grownBy w' v.ownBlock ∧ Next w v v'
/-- the relation of numeral's loop -/
def NumRel (base : Nat) (v0 : Value) (out : List UInt8) (w : World) (b x : Value) (wr : World) : Prop :=
  ∃ (k : Nat) (pr : List UInt8) (y : Nat), y < 128 ^ (k + 1) ∧ x = .int .u64 y ∧ OwnB 5 wr base b pr ∧ out = pr ++ numF k y ∧ pr.length + k ≤ 100000000020 ∧ w.grownBy wr v0.ownBlock ∧ Next w v0 b ∧ base ≤ wr.heap.size

set_option maxRecDepth 100000 in
set_option maxHeartbeats 400000 in
theorem numeral_any (base : Nat) (v : Value) (pre : List UInt8) (u : Nat) (hu : Hid (u < 18446744073709551616)) (w : World) (hown : OwnB 5 w base v pre) (hsz : pre.length ≤ 100000000000) (hbase : base ≤ w.heap.size) :
    Calls Try.prog 71 #[v, .int .u64 u] w (NumPost base v (pre ++ num u) w) := by
  go_enter Try.func71, Try.ntmps71
  go_wp2
  go_loopw [0, 1] (fun b x wr => NumRel base v (pre ++ num u) w b x wr) (fun _ x _ => (intOf x).toNat)
  case atStart => exact ⟨9, pre, u, Nat.lt_of_lt_of_le hu.out (by decide), rfl, hown, rfl, by omega, grown_refl _ _, Next.refl _ _, hbase⟩
  case round =>
    obtain ⟨k, pr, y, hy, rfl, hown', heq, hlen, hg, hn, hb⟩ := hrel
    have Heq := Lib.hid heq; have Hy := Lib.hid hy; clear heq hy
    by_cases h : y < 128
    · go_wp2_with (at_builtin; refine wpList_append_b (e := 5) Try.underlying33 (by kernel_rfl) rfl _ _ rfl base _ pr rfl (hown'.alloc _) ⟨wr.heap.size, 0, none⟩ 1 [loDig y] rfl ?c1 ?c2 ?c3 ?_)
      case c1 => refine cell_alloc_one _ _ _ _ (bcells_sing _ _ ?_); rw [lo_cast]; omega
      case c2 => simp; omega
      case c3 => simp; omega
      intro v' w1 ho2 hg2 hn2
      go_wp2
      go_ret
      refine ⟨_, rfl, ?_, grown_trans (grown_alloc hg _) hg2 hn, hn.trans (grown_alloc hg _).size hn2⟩
      rw [Heq.out, numF_end _ _ h]; exact ho2
    · go_wp2_with (at_builtin; refine wpList_append_b (e := 5) Try.underlying33 (by kernel_rfl) rfl _ _ rfl base _ pr rfl (hown'.alloc _) ⟨wr.heap.size, 0, none⟩ 1 [hiDig y] rfl ?c1 ?c2 ?c3 ?_)
      case c1 => exact cell_alloc_one _ _ _ _ (bcells_sing _ _ (low_or y))
      case c2 => simp; omega
      case c3 => simp; omega
      intro v' w1 ho2 hg2 hn2
      go_wp2
      go_roundw
      case rel =>
        obtain ⟨k', rfl⟩ : ∃ k', k = k' + 1 := ⟨k - 1, by
          rcases k with _ | k
          · have := Hy.out; simp at this; omega
          · rfl⟩
        refine ⟨k', _, y / 128, ?_, ?_, ho2, ?_, ?_, grown_trans (grown_alloc hg _) hg2 hn, hn.trans (grown_alloc hg _).size hn2, ?_⟩
        · have := Hy.out; rw [Nat.pow_succ] at this; exact Nat.div_lt_of_lt_mul (by omega)
        · go_num
        · rw [Heq.out, numF_more _ _ h, List.append_assoc]
        · simp; omega
        · have := hg2.size; simp at this; omega
      case measure => simp [intOf]; omega
end Go.Proofs.Ytgdbmoggpfpkkaa
/- api.Value as a Lean type, how a value lies in memory, and that it stays so while memory grows. -/
namespace Go.Proofs.Ytgdbmoggpfpkkaa
open Go.RowKit

inductive V where
  | mk (kind n : Int) (s : ByteArray) (l : List V)
def V.kind : V → Int | .mk k _ _ _ => k
def V.n : V → Int | .mk _ n _ _ => n
def V.s : V → ByteArray | .mk _ _ s _ => s
def V.l : V → List V | .mk _ _ _ l => l

/-- a number of 64 bits -/
def I64 (n : Int) : Prop := -9223372036854775808 ≤ n ∧ n ≤ 9223372036854775807

mutual
/-- the cells of a value at an address, all in blocks below B -/
def V.at (B : Nat) (w : World) : V → Nat → Nat → Prop
  | .mk k n s l, b, off => b < B ∧ I64 k ∧ I64 n ∧ s.size ≤ maxLen ∧ w.cell? ⟨b, off, none⟩ = some (.int .i64 k) ∧ w.cell? ⟨b, off + 1, none⟩ = some (.int .i64 n) ∧ w.cell? ⟨b, off + 2, none⟩ = some (.string s) ∧
      ∃ lv, w.cell? ⟨b, off + 3, none⟩ = some lv ∧ ((l = [] ∧ ∃ oa cap, lv = .slice oa 0 cap) ∨ (l ≠ [] ∧ ∃ c o cap, lv = .slice (some ⟨c, o, none⟩) l.length cap ∧ l.length ≤ maxLen ∧ V.ats B w l c o))
def V.ats (B : Nat) (w : World) : List V → Nat → Nat → Prop
  | [], _, _ => True
  | x :: r, b, off => V.at B w x b off ∧ V.ats B w r b (off + 4)
end

/-- the list of a value, as a slice -/
def SlV (B : Nat) (w : World) (l : List V) (lv : Value) : Prop :=
  (l = [] ∧ ∃ oa cap, lv = .slice oa 0 cap) ∨ (l ≠ [] ∧ ∃ c o cap, lv = .slice (some ⟨c, o, none⟩) l.length cap ∧ l.length ≤ maxLen ∧ V.ats B w l c o)

/-- a value in hand -/
def RdV (B : Nat) (w : World) (x : V) (v : Value) : Prop :=
  I64 x.kind ∧ I64 x.n ∧ x.s.size ≤ maxLen ∧ ∃ lv, v = .agg #[.int .i64 x.kind, .int .i64 x.n, .string x.s, lv] ∧ SlV B w x.l lv

theorem SlV.form {B : Nat} {w : World} {l : List V} {lv : Value} (h : SlV B w l lv) : ∃ oa cap, lv = .slice oa l.length cap := by
  rcases h with ⟨rfl, oa, cap, rfl⟩ | ⟨_, c, o, cap, rfl, _⟩
  · exact ⟨oa, cap, rfl⟩
  · exact ⟨_, cap, rfl⟩
theorem V.at_def {B : Nat} {w : World} {x : V} {b off : Nat} (h : V.at B w x b off) :
    b < B ∧ w.cell? ⟨b, off, none⟩ = some (.int .i64 x.kind) ∧ w.cell? ⟨b, off + 1, none⟩ = some (.int .i64 x.n) ∧ w.cell? ⟨b, off + 2, none⟩ = some (.string x.s) ∧
      ∃ oa cap, w.cell? ⟨b, off + 3, none⟩ = some (.slice oa x.l.length cap) ∧ RdV B w x (.agg #[.int .i64 x.kind, .int .i64 x.n, .string x.s, .slice oa x.l.length cap]) := by
  obtain ⟨k, n, s, l⟩ := x
  simp only [V.at] at h
  obtain ⟨h0, h1, h2, h3, h4, h5, h6, lv, h7, h8⟩ := h
  obtain ⟨oa, cap, rfl⟩ := SlV.form (B := B) (w := w) (l := l) h8
  exact ⟨h0, h4, h5, h6, oa, cap, h7, h1, h2, h3, _, rfl, h8⟩
theorem RdV.form {B : Nat} {w : World} {x : V} {v : Value} (h : RdV B w x v) : ∃ oa cap, v = .agg #[.int .i64 x.kind, .int .i64 x.n, .string x.s, .slice oa x.l.length cap] ∧ SlV B w x.l (.slice oa x.l.length cap) := by
  obtain ⟨_, _, _, lv, rfl, h8⟩ := h
  obtain ⟨oa, cap, rfl⟩ := h8.form
  exact ⟨oa, cap, rfl, h8⟩

theorem V.ats_get {B : Nat} {w : World} : ∀ {l : List V} {b off : Nat} (_ : V.ats B w l b off) (k : Nat) (x : V), l[k]? = some x → V.at B w x b (off + k * 4)
  | [], _, _, _, _, _, h => by simp at h
  | y :: r, b, off, h, 0, x, hx => by simp at hx; subst hx; simp only [V.ats] at h; simpa using h.1
  | y :: r, b, off, h, k + 1, x, hx => by
    simp only [V.ats] at h
    have := V.ats_get h.2 k x (by simpa using hx)
    rw [show off + (k + 1) * 4 = off + 4 + k * 4 from by omega]; exact this

mutual
theorem V.at_keep {B B' : Nat} {w w' : World} (hB : B ≤ B') (hs : ∀ k, k < B → w'.heap[k]? = w.heap[k]?) : ∀ (x : V) (b off : Nat), V.at B w x b off → V.at B' w' x b off
  | .mk k n s l, b, off, h => by
    simp only [V.at] at h ⊢
    obtain ⟨h0, h1, h2, h3, h4, h5, h6, lv, h7, h8⟩ := h
    have hc : ∀ o, w'.cell? ⟨b, o, none⟩ = w.cell? ⟨b, o, none⟩ := fun o => World.cell?_of_block (w := w) (hs b h0)
    refine ⟨Nat.lt_of_lt_of_le h0 hB, h1, h2, h3, (hc _).trans h4, (hc _).trans h5, (hc _).trans h6, lv, (hc _).trans h7, ?_⟩
    rcases h8 with h8 | ⟨hne, c, o, cap, he, hl, ha⟩
    · exact .inl h8
    · exact .inr ⟨hne, c, o, cap, he, hl, V.ats_keep hB hs l c o ha⟩
theorem V.ats_keep {B B' : Nat} {w w' : World} (hB : B ≤ B') (hs : ∀ k, k < B → w'.heap[k]? = w.heap[k]?) : ∀ (l : List V) (b off : Nat), V.ats B w l b off → V.ats B' w' l b off
  | [], _, _, _ => by simp [V.ats]
  | x :: r, b, off, h => by
    simp only [V.ats] at h ⊢
    exact ⟨V.at_keep hB hs x b off h.1, V.ats_keep hB hs r b (off + 4) h.2⟩
end

theorem SlV.keep {B B' : Nat} {w w' : World} {l : List V} {lv : Value} (h : SlV B w l lv) (hB : B ≤ B') (hs : ∀ k, k < B → w'.heap[k]? = w.heap[k]?) : SlV B' w' l lv := by
  rcases h with h | ⟨hne, c, o, cap, he, hl, ha⟩
  · exact .inl h
  · exact .inr ⟨hne, c, o, cap, he, hl, V.ats_keep hB hs l c o ha⟩
theorem RdV.keep {B B' : Nat} {w w' : World} {x : V} {v : Value} (h : RdV B w x v) (hB : B ≤ B') (hs : ∀ k, k < B → w'.heap[k]? = w.heap[k]?) : RdV B' w' x v := by
  obtain ⟨h1, h2, h3, lv, h4, h5⟩ := h
  exact ⟨h1, h2, h3, lv, h4, h5.keep hB hs⟩
theorem RdV.below {B : Nat} {w w' : World} {x : V} {v : Value} (h : RdV B w x v) (hb : Below B w w') : RdV B w' x v := h.keep (Nat.le_refl _) hb.block

mutual
/-- all numbers and lengths of a value are in range -/
def okV : V → Prop
  | .mk k n s l => I64 k ∧ I64 n ∧ s.size ≤ maxLen ∧ l.length ≤ maxLen ∧ okVs l
def okVs : List V → Prop
  | [] => True
  | x :: r => okV x ∧ okVs r
end
mutual
theorem V.at_ok {B : Nat} {w : World} : ∀ (x : V) (b off : Nat), V.at B w x b off → okV x
  | .mk k n s l, b, off, h => by
    simp only [V.at] at h
    obtain ⟨h0, h1, h2, h3, h4, h5, h6, lv, h7, h8⟩ := h
    simp only [okV]
    rcases h8 with ⟨rfl, _⟩ | ⟨hne, c, o, cap, he, hl, ha⟩
    · exact ⟨h1, h2, h3, by simp, by simp [okVs]⟩
    · exact ⟨h1, h2, h3, hl, V.ats_ok l c o ha⟩
theorem V.ats_ok {B : Nat} {w : World} : ∀ (l : List V) (b off : Nat), V.ats B w l b off → okVs l
  | [], _, _, _ => by simp [okVs]
  | x :: r, b, off, h => by
    simp only [V.ats] at h
    simp only [okVs]
    exact ⟨V.at_ok x b off h.1, V.ats_ok r b (off + 4) h.2⟩
end
theorem SlV.ok {B : Nat} {w : World} {l : List V} {v : Value} (h : SlV B w l v) : okVs l ∧ l.length ≤ maxLen := by
  rcases h with ⟨rfl, _⟩ | ⟨hne, c, o, cap, he, hl, ha⟩
  · simp [okVs]
  · exact ⟨V.ats_ok l c o ha, hl⟩
theorem RdV.ok {B : Nat} {w : World} {x : V} {v : Value} (h : RdV B w x v) : okV x := by
  obtain ⟨k, n, s, l⟩ := x
  obtain ⟨h1, h2, h3, lv, h4, h5⟩ := h
  exact ⟨h1, h2, h3, h5.ok.2, h5.ok.1⟩
theorem okVs_get : ∀ {l : List V} {i : Nat} {x : V}, okVs l → l[i]? = some x → okV x
  | [], _, _, _, h => by simp at h
  | y :: r, 0, x, h, hx => by simp at hx; subst hx; exact h.1
  | y :: r, i + 1, x, h, hx => okVs_get (l := r) (i := i) h.2 (by simpa using hx)
theorem okVs_mem {l : List V} {x : V} (h : okVs l) (hx : x ∈ l) : okV x := by
  obtain ⟨i, hi⟩ := List.mem_iff_getElem?.1 hx; exact okVs_get h hi

/-! ## The plain functions -/
mutual
/-- is a value well-formed? -/
def fm : V → Bool
  | .mk k n s l => if k = 1 then s.toList.isEmpty && l.isEmpty else if k = 2 then n == 0 && l.isEmpty else if k = 3 then n == 0 && s.toList.isEmpty && fms l else false
def fms : List V → Bool
  | [] => true
  | x :: r => fm x && fms r
end
mutual
/-- the depth of a value -/
def dp : V → Nat
  | .mk k _ _ l => if k = 3 then dps l + 1 else 0
def dps : List V → Nat
  | [] => 0
  | x :: r => max (dp x) (dps r)
end
mutual
/-- a bound on the length of an encoding -/
def sz : V → Nat
  | .mk _ _ s l => 24 + s.size + szs l
def szs : List V → Nat
  | [] => 0
  | x :: r => sz x + szs r
end
end Go.Proofs.Ytgdbmoggpfpkkaa
/- codec.formed tells whether a value is well-formed, and its depth. -/
namespace Go.Proofs.Ytgdbmoggpfpkkaa
open Go.RowKit

def FormPost (x : V) (w : World) (e : Ending) (w' : World) : Prop := e = .returned (.tuple #[.int .i64 (if fm x then dp x else 0), .bool (fm x)]) ∧ Below w.heap.size w w'

theorem szs_get : ∀ {l : List V} {i : Nat} {x : V}, l[i]? = some x → sz x ≤ szs l
  | [], _, _, h => by simp at h
  | y :: r, 0, x, h => by simp at h; subst h; simp [szs]
  | y :: r, i + 1, x, h => by simp only [szs]; have := szs_get (l := r) (i := i) (x := x) (by simpa using h); omega
theorem fms_take {l : List V} {i : Nat} {x : V} (h : l[i]? = some x) : fms (l.take (i + 1)) = (fms (l.take i) && fm x) := by
  induction l generalizing i with
  | nil => simp at h
  | cons y r ih => cases i with
    | zero => simp at h; subst h; simp [fms]
    | succ i => simp only [List.take_succ_cons, fms]; rw [ih (by simpa using h), Bool.and_assoc]
theorem dps_take {l : List V} {i : Nat} {x : V} (h : l[i]? = some x) : dps (l.take (i + 1)) = max (dps (l.take i)) (dp x) := by
  induction l generalizing i with
  | nil => simp at h
  | cons y r ih => cases i with
    | zero => simp at h; subst h; simp [dps]
    | succ i => simp only [List.take_succ_cons, dps]; rw [ih (by simpa using h), Nat.max_assoc]
theorem fms_false {l : List V} {i : Nat} {x : V} (h : l[i]? = some x) (hf : fm x = false) : fms l = false := by
  induction l generalizing i with
  | nil => simp at h
  | cons y r ih => cases i with
    | zero => simp at h; subst h; simp [fms, hf]
    | succ i => simp only [fms, ih (by simpa using h), Bool.and_false]
theorem szs_len : ∀ l : List V, l.length ≤ szs l
  | [] => by simp
  | x :: r => by obtain ⟨k, n, s, l⟩ := x; have := szs_len r; simp only [szs, sz, List.length_cons]; omega
mutual
theorem dp_sz : ∀ x : V, dp x ≤ sz x
  | .mk k _ s l => by have := dps_szs l; simp only [dp, sz]; split <;> omega
theorem dps_szs : ∀ l : List V, dps l ≤ szs l
  | [] => by simp [dps]
  | x :: r => by have := dp_sz x; have := dps_szs r; simp only [dps, szs]; omega
end

/-- what the table of formed says -/
def FormTab (k n : Int) (s : ByteArray) (lv : Value) (bn bs le : Bool) (w : World) (v : Value) (wx : World) : Prop :=
  v = .pointer (some ⟨w.heap.size + 1, 0, none⟩) ∧ wx = (w.alloc (.cells #[.int .i64 k, .int .i64 n, .string s, lv] 57)).alloc (.cells #[.bool false, .bool (bs && le), .bool (bn && le), .bool (bn && bs)] 116)

theorem fm_bad (k n : Int) (s : ByteArray) (l : List V) (h : k < 1 ∨ 3 < k) : fm (.mk k n s l) = false := by
  rw [fm, if_neg (by omega), if_neg (by omega), if_neg (by omega)]
theorem fm_1 (n : Int) (s : ByteArray) (l : List V) (bs : Bool) (h : s.toList.isEmpty = bs) : fm (.mk 1 n s l) = (bs && l.isEmpty) := by simp [fm, h]
theorem fm_2 (n : Int) (s : ByteArray) (l : List V) (bn : Bool) (h : (n == 0) = bn) : fm (.mk 2 n s l) = (bn && l.isEmpty) := by simp [fm, h]
theorem fm_3 (n : Int) (s : ByteArray) (l : List V) (bn bs : Bool) (h : (n == 0) = bn) (h' : s.toList.isEmpty = bs) : fm (.mk 3 n s l) = (bn && bs && fms l) := by simp [fm, h, h']
theorem dp_3 (n : Int) (s : ByteArray) (l : List V) : dp (.mk 3 n s l) = dps l + 1 := by simp [dp]
theorem dp_1 (n : Int) (s : ByteArray) (l : List V) : dp (.mk 1 n s l) = 0 := by simp [dp]
theorem dp_2 (n : Int) (s : ByteArray) (l : List V) : dp (.mk 2 n s l) = 0 := by simp [dp]

def FormRel (B : Nat) (w : World) (l : List V) (i d : Value) (wr : World) : Prop :=
  ∃ k : Nat, k ≤ l.length ∧ i = .int .i64 k ∧ d = .int .i64 (dps (l.take k)) ∧ fms (l.take k) = true ∧ dps (l.take k) ≤ 1000000000 ∧ Below B w wr

set_option maxRecDepth 100000 in
set_option maxHeartbeats 1000000 in
theorem formed_any (N : Nat) (hN : N ≤ 1000000000) : ∀ (x : V) (_ : sz x ≤ N) (v : Value) (w : World) (_ : RdV w.heap.size w x v), Calls Try.prog 69 #[v] w (FormPost x w) := by
  induction N with
  | zero => intro x hx; obtain ⟨k, n, s, l⟩ := x; simp [sz] at hx
  | succ N ih =>
  have IH := Lib.hid (ih (by omega)); clear ih
  intro x hx v w hr
  obtain ⟨k, n, s, l⟩ := x
  obtain ⟨oa, cap, rfl, hl⟩ := hr.form
  clear hr
  simp only [V.kind, V.n, V.s, V.l] at *
  have HL := Lib.hid hl; clear hl
  obtain ⟨le, hle⟩ : ∃ b, (((l.length : Nat) : Int) == 0) = b := ⟨_, rfl⟩
  have Hle : Hid (l.isEmpty = le) := by
    show l.isEmpty = le
    rw [← hle]; cases l <;> simp <;> omega
  obtain ⟨bn, hbn⟩ : ∃ b, (n == 0) = b := ⟨_, rfl⟩
  obtain ⟨bs, hbs⟩ : ∃ b, s.toList.isEmpty = b := ⟨_, rfl⟩
  go_enter Try.func69, Try.ntmps69
  go_upto_region 1 with fail
  go_cut [4] (fun v wx => FormTab k n s (.slice oa l.length cap) bn bs le w v wx)
  case first =>
    cases bn <;> cases bs <;> cases le
    all_goals go_wp2
    all_goals go_meet
    all_goals exact ⟨rfl, rfl⟩
  case rest =>
    obtain ⟨rfl, rfl⟩ := hcut
    have Hn := Lib.hid hbn; have Hs := Lib.hid hbs; clear hbn hbs
    by_cases hok : k = 3 ∧ bn = true ∧ bs = true
    case neg =>
      have hc : k = 1 ∨ k = 2 ∨ k = 3 ∨ k < 1 ∨ 3 < k := by omega
      rcases hc with rfl | rfl | rfl | hc | hc
      · have HF := Lib.hid (fm_1 n s l bs Hs.out)
        cases bs <;> cases le
        all_goals go_wp2
        all_goals go_ret2
        all_goals exact ⟨by rw [HF.out, Hle.out, dp_1]; rfl, by repeat (first | exact Below.refl _ _ | refine Below.alloc ?_ (by simp) _)⟩
      · have HF := Lib.hid (fm_2 n s l bn Hn.out)
        cases bn <;> cases le
        all_goals go_wp2
        all_goals go_ret2
        all_goals exact ⟨by rw [HF.out, Hle.out, dp_2]; rfl, by repeat (first | exact Below.refl _ _ | refine Below.alloc ?_ (by simp) _)⟩
      · have HF := Lib.hid (fm_3 n s l bn bs Hn.out Hs.out)
        obtain ⟨bb, hbb, rfl⟩ : ∃ bb, (bn && bs) = bb ∧ bb = false := ⟨_, rfl, by simpa using hok⟩
        clear hok
        go_wp2
        go_ret2
        exact ⟨by rw [HF.out, hbb]; rfl, by repeat (first | exact Below.refl _ _ | refine Below.alloc ?_ (by simp) _)⟩
      all_goals
        have HF := Lib.hid (fm_bad k n s l (by omega))
        clear hok
        go_wp2
        go_ret2
        exact ⟨by rw [HF.out]; rfl, by repeat (first | exact Below.refl _ _ | refine Below.alloc ?_ (by simp) _)⟩
    case pos =>
      obtain ⟨rfl, rfl, rfl⟩ := hok
      have hszl : szs l ≤ N := by have := hx; simp only [sz] at this; omega
      have hll : l.length ≤ 1000000000 := by have := szs_len l; omega
      go_wp2
      go_loopw [2, 57] (fun d i wr => FormRel w.heap.size w l i d wr) (fun _ i _ => l.length - (intOf i).toNat)
      case atStart => exact ⟨0, Nat.zero_le _, rfl, rfl, rfl, by simp [dps], by repeat (first | exact Below.refl _ _ | refine Below.alloc ?_ (by simp) _)⟩
      case round =>
        obtain ⟨k, hkl, rfl, rfl, hfm, hdp, hb⟩ := hrel
        have Hfm := Lib.hid hfm; clear hfm
        by_cases hlt : k < l.length
        case neg =>
          have HF := Lib.hid (fm_3 n s l true true Hn.out Hs.out)
          have hkk : Hid (l.take k = l) := List.take_of_length_le (by omega)
          go_wp2
          go_ret2
          have hfl : fms l = true := hkk.out ▸ Hfm.out
          exact ⟨by rw [HF.out, hfl, dp_3, hkk.out]; simp, hb⟩
        case pos =>
          obtain ⟨x, hx'⟩ : ∃ x, l[k]? = some x := ⟨l[k], by simp [hlt]⟩
          have Hx := Lib.hid hx'; clear hx'
          rcases HL.out with ⟨rfl, _⟩ | ⟨_, c, o, cap', he, hlm, hat⟩
          · simp at hlt
          injection he with he1 he2 he3
          subst he1
          have hv := V.at_keep (Nat.le_refl _) hb.block x c (o + k * 4) (V.ats_get hat k x Hx.out)
          obtain ⟨hcb, c0, c1, c2, xo, xc, c3, hrd⟩ := V.at_def hv
          have hrd' : ∀ ob, RdV (wr.alloc ob).heap.size (wr.alloc ob) x (.agg #[.int .i64 x.kind, .int .i64 x.n, .string x.s, .slice xo x.l.length xc]) := fun ob =>
            hrd.keep (by have := hb.size; simp; omega) ((Below.refl _ wr).alloc hb.size ob).block
          have hsx := szs_get Hx.out
          have hdx := dp_sz x
          clear hat hv hrd he2 he3
          have hb2 : ∀ ob w', Below (wr.alloc ob).heap.size (wr.alloc ob) w' → Below w.heap.size w w' := fun ob w' hb' => (hb.alloc hb.size ob).trans (hb'.mono (by have := hb.size; simp; omega))
          rcases Bool.eq_false_or_eq_true (fm x) with hfx | hfx
          · go_wp2_with (go_at_call 69; refine (IH.out x (by omega) _ _ (hrd' _)).mono ?_; rintro e w' ⟨rfl, hb'⟩)
            go_roundw
            case rel =>
              refine ⟨k + 1, by omega, by go_num, ?_, ?_, ?_, hb2 _ _ hb'⟩
              · rw [dps_take Hx.out]; congr 1; split <;> omega
              · rw [fms_take Hx.out, Hfm.out, hfx]; rfl
              · rw [dps_take Hx.out]; omega
            case measure => simp [intOf]; omega
          · go_wp2_with (go_at_call 69; refine (IH.out x (by omega) _ _ (hrd' _)).mono ?_; rintro e w' ⟨rfl, hb'⟩)
            have HF := Lib.hid (fm_3 n s l true true Hn.out Hs.out)
            have hfl := fms_false Hx.out hfx
            go_ret2
            exact ⟨by rw [HF.out, hfl]; rfl, hb2 _ _ hb'⟩
end Go.Proofs.Ytgdbmoggpfpkkaa
/- codec.Check; the reference's Formed, Depth, Check; the makers of values. -/
namespace Go.Proofs.Ytgdbmoggpfpkkaa
open Go.RowKit

theorem RdV.alloc {w : World} {x : V} {v : Value} (h : RdV w.heap.size w x v) (ob : Obj) : RdV (w.alloc ob).heap.size (w.alloc ob) x v :=
  h.keep (by simp) ((Below.refl _ w).alloc (Nat.le_refl _) ob).block
theorem SlV.alloc {w : World} {x : List V} {v : Value} (h : SlV w.heap.size w x v) (ob : Obj) : SlV (w.alloc ob).heap.size (w.alloc ob) x v :=
  h.keep (by simp) ((Below.refl _ w).alloc (Nat.le_refl _) ob).block
theorem RdV.ext {w w' : World} {x : V} {v : Value} (h : RdV w.heap.size w x v) (hb : Below w.heap.size w w') : RdV w'.heap.size w' x v := h.keep hb.size hb.block
theorem SlV.ext {w w' : World} {x : List V} {v : Value} (h : SlV w.heap.size w x v) (hb : Below w.heap.size w w') : SlV w'.heap.size w' x v := h.keep hb.size hb.block

theorem SlV.elem {B : Nat} {w wr : World} {l : List V} {oa : Option Addr} {cap : Nat} (h : SlV B w l (.slice oa l.length cap)) (hs : ∀ k, k < B → wr.heap[k]? = w.heap[k]?) (hB : B ≤ wr.heap.size) {k : Nat} {x : V} (hx : l[k]? = some x) :
    ∃ c o xo xc, oa = some ⟨c, o, none⟩ ∧ c < B ∧ wr.cell? ⟨c, o + k * 4, none⟩ = some (.int .i64 x.kind) ∧ wr.cell? ⟨c, o + k * 4 + 1, none⟩ = some (.int .i64 x.n) ∧ wr.cell? ⟨c, o + k * 4 + 2, none⟩ = some (.string x.s) ∧
      wr.cell? ⟨c, o + k * 4 + 3, none⟩ = some (.slice xo x.l.length xc) ∧ RdV wr.heap.size wr x (.agg #[.int .i64 x.kind, .int .i64 x.n, .string x.s, .slice xo x.l.length xc]) := by
  rcases h with ⟨rfl, _⟩ | ⟨_, c, o, cap', he, hlm, hat⟩
  · simp at hx
  injection he with he1 he2 he3
  have hv := V.at_keep (Nat.le_refl _) hs x c (o + k * 4) (V.ats_get hat k x hx)
  obtain ⟨hcb, c0, c1, c2, xo, xc, c3, hrd⟩ := V.at_def hv
  exact ⟨c, o, xo, xc, he1, hcb, c0, c1, c2, c3, hrd.keep hB (fun _ _ => rfl)⟩

/-- what Check answers -/
def ck (x : V) : Int := if fm x then (if 16 < dp x then 2 else 0) else 1
def IntPost (n : Int) (w : World) (e : Ending) (w' : World) : Prop := e = .returned (.int .i64 n) ∧ Below w.heap.size w w'
def BoolPost (b : Bool) (w : World) (e : Ending) (w' : World) : Prop := e = .returned (.bool b) ∧ Below w.heap.size w w'

set_option maxRecDepth 100000 in
set_option maxHeartbeats 1000000 in
theorem check_any (x : V) (hx : sz x ≤ 100000000) (v : Value) (w : World) (hr : RdV w.heap.size w x v) : Calls Try.prog 54 #[v] w (IntPost (ck x) w) := by
  have HR := Lib.hid (fun ob => hr.alloc ob)
  obtain ⟨oa, cap, rfl, hl⟩ := hr.form
  have hd := dp_sz x
  clear hr hl
  rcases Bool.eq_false_or_eq_true (fm x) with hfx | hfx
  · by_cases h16 : 16 < dp x
    all_goals
      have hck := Lib.hid (show ck x = (if 16 < dp x then 2 else 0) from by simp [ck, hfx])
      go_enter Try.func54, Try.ntmps54
      go_wp2_with (go_at_call 69; refine (formed_any 100000000 (by decide) x hx _ _ (HR.out _)).mono ?_; rintro e w' ⟨rfl, hb'⟩)
      go_ret
      exact ⟨by rw [hck.out]; first | rw [if_pos h16]; rfl | rw [if_neg h16]; rfl, below_after hb'⟩
  · have hck := Lib.hid (show ck x = 1 from by simp [ck, hfx])
    go_enter Try.func54, Try.ntmps54
    go_wp2_with (go_at_call 69; refine (formed_any 100000000 (by decide) x hx _ _ (HR.out _)).mono ?_; rintro e w' ⟨rfl, hb'⟩)
    go_ret
    exact ⟨by rw [hck.out]; rfl, below_after hb'⟩

set_option maxHeartbeats 1000000 in
theorem rInt_any (n : Int) (w : World) : Calls Try.prog 34 #[.int .i64 n] w fun e w' => e = .returned (.agg #[.int .i64 1, .int .i64 n, .string ⟨#[]⟩, .slice none 0 0]) ∧ Below w.heap.size w w' := by
  go_enter Try.func34, Try.ntmps34
  go_wp2
  refine bodyPost_ret (v := .agg #[.int .i64 1, .int .i64 n, .string ⟨#[]⟩, .slice none 0 0]) (by simp [results, Try.results34, go_sem]) rfl ⟨rfl, by repeat (first | exact Below.refl _ _ | refine Below.alloc ?_ (by simp) _)⟩
set_option maxHeartbeats 1000000 in
theorem rText_any (s : ByteArray) (w : World) : Calls Try.prog 35 #[.string s] w fun e w' => e = .returned (.agg #[.int .i64 2, .int .i64 0, .string s, .slice none 0 0]) ∧ Below w.heap.size w w' := by
  go_enter Try.func35, Try.ntmps35
  go_wp2
  refine bodyPost_ret (v := .agg #[.int .i64 2, .int .i64 0, .string s, .slice none 0 0]) (by simp [results, Try.results35, go_sem]) rfl ⟨rfl, by repeat (first | exact Below.refl _ _ | refine Below.alloc ?_ (by simp) _)⟩
set_option maxHeartbeats 1000000 in
theorem rList_any (oa : Option Addr) (n cap : Nat) (w : World) : Calls Try.prog 33 #[.slice oa n cap] w fun e w' => e = .returned (.agg #[.int .i64 3, .int .i64 0, .string ⟨#[]⟩, .slice oa n cap]) ∧ Below w.heap.size w w' := by
  go_enter Try.func33, Try.ntmps33
  go_wp2
  refine bodyPost_ret (v := .agg #[.int .i64 3, .int .i64 0, .string ⟨#[]⟩, .slice oa n cap]) (by simp [results, Try.results33, go_sem]) rfl ⟨rfl, by repeat (first | exact Below.refl _ _ | refine Below.alloc ?_ (by simp) _)⟩
end Go.Proofs.Ytgdbmoggpfpkkaa
/- append onto a slice of the call's own, from any source: one law for every element type, a slice or a string as the source. -/
namespace Go.Proofs.Ytgdbmoggpfpkkaa
open Go.RowKit

section
variable {P : Program} (w : World)

theorem run_append_x (base : Nat) (t tx ty e : TypeId) (i : TypeInfo) (z : Value) (size bytes : Nat) (ht : P.underlying t = some (.slice e)) (hi : P.info? e = some i) (hz : i.zero = some z)
    (hsize : i.size = size) (hby : i.bytes = bytes) (hzs : z.cells.size = size)
    (v : Value) (n : Nat) (xs : List Value) (hown : w.ownsRow base e size v n xs) (x : Value) (m : Nat) (news : List Value) (hs : Src P size tx x m news w)
    (h63 : n + m ≤ maxLen) (hbytes : (n + m) * bytes ≤ 140737488355328) (hbase : base ≤ w.heap.size) :
    ∃ v' w', (Builtin.append_ #[t, tx] ty #[v, x]).run P w = .ok v' w' ∧ w'.ownsRow base e size v' (n + m) (xs ++ news) ∧ w.grownBy w' v.ownBlock ∧ Next w v v' := by
  subst hsize
  subst hby
  have hl := hs.newsLen
  have hsmall : n + m ≤ 9223372036854775807 := by simp only [maxLen] at h63; omega
  have hlen : (xs ++ news).length = (n + m) * i.size := by rw [List.length_append, hown.1, hl, Nat.add_mul]
  have grown : ∀ (old : Nat), old < n + m → ∀ (row : Option Nat),
      (w.drew.alloc (.cells ((xs ++ news).toArray ++ Builtin.zeroCells z.cells (grownCap w (n + m) old e - (n + m))) e)).ownsRow base e i.size
        (.slice (some ⟨w.heap.size, 0, none⟩) (n + m) (grownCap w (n + m) old e)) (n + m) (xs ++ news) ∧
      w.grownBy (w.drew.alloc (.cells ((xs ++ news).toArray ++ Builtin.zeroCells z.cells (grownCap w (n + m) old e - (n + m))) e)) row := by
    intro old ho row
    have hge := grownCap_ge w (n + m) old e
    have hcm : grownCap w (n + m) old e ≤ maxLen := grownCap_le_maxLen w (n + m) old e h63
    refine ⟨⟨hlen, .inr ⟨w.heap.size, _, _, rfl, hbase, heap_alloc_new w.drew _, hge, hcm, ?_, ?_⟩⟩, ⟨rfl, rfl, rfl, by simp, fun k hk _ => Below.heap_alloc w.drew _ k hk⟩⟩
    · simp only [Array.size_append, List.size_toArray, size_zeroCells, hzs, hlen, ← Nat.add_mul]
      congr 1
      omega
    · simp only [Array.toList_append]
      rw [← hlen]
      exact List.take_left
  have hnew : ∀ c : Nat, Next w v (.slice (some ⟨w.heap.size, 0, none⟩) (n + m) c) := fun c => .inr fun g hg => by simp [Value.ownBlock] at hg; omega
  rcases hown.2 with ⟨rfl, rfl⟩ | ⟨g, cap, cur, rfl, hbg, hg, hnc, hcm, hcs, htake⟩
  · have hx : xs = [] := List.eq_nil_of_length_eq_zero (by simpa using hown.1)
    subst hx
    by_cases hm : m = 0
    · subst hm
      have hn : news = [] := List.eq_nil_of_length_eq_zero (by simpa using hl)
      subst hn
      refine ⟨.slice none 0 0, w, ?_, World.ownsRow_nil w base e i.size, ⟨rfl, rfl, rfl, Nat.le_refl _, fun _ _ _ => rfl⟩, Next.refl _ _⟩
      have hc := hs.cells
      rcases hs.kind with ⟨e', hk⟩ | hk <;> simp [Builtin.append_, run_underlying ht, run_underlying hk, sizeOf, typeInfo, hi, hs.len, hc]
    · have hold : (Builtin.firstCells i.size 0 (.slice none 0 0)).run P w.drew = .ok ([] : List Value).toArray w.drew := run_firstCells_none w.drew i.size 0 0 0
      have hr := run_append_grow_src (P := P) w t tx ty e i z ht hi hz none 0 0 [] hold x m news hs (by omega) (by omega) (growslice_fits (by omega) (by simpa using hbytes))
      have hgr := grown 0 (by omega) (Value.ownBlock (.slice none 0 0))
      simp only [Nat.zero_add, List.nil_append] at hgr hr ⊢
      exact ⟨_, _, hr, hgr.1, hgr.2, by simpa using hnew _⟩
  · by_cases hroom : n + m ≤ cap
    · have hfit : n * i.size + news.length ≤ cur.size := by rw [hl, hcs, ← Nat.add_mul]; exact Nat.mul_le_mul_right _ hroom
      have hst := run_storeCells_at P g (n * i.size) e news 0 cur w hg (by simpa using hfit) hs.one
      simp only [Nat.add_zero] at hst
      have hr : (Builtin.append_ #[t, tx] ty #[.slice (some ⟨g, 0, none⟩) n cap, x]).run P w =
          .ok (.slice (some ⟨g, 0, none⟩) (n + m) cap) (w.setRow g (cur.toList.take (n * i.size) ++ news ++ cur.toList.drop (n * i.size + news.length)).toArray) := by
        rcases hs.kind with ⟨e', hk⟩ | hk <;> simp [Builtin.append_, run_underlying ht, run_underlying hk, sizeOf, typeInfo, hi, hs.len, hroom, hs.cells, Addr.add_lit, hst]
      refine ⟨_, _, hr, ⟨hlen, .inr ⟨g, cap, _, rfl, hbg, setRow_heap w g cur _ e _ hg, hroom, hcm, ?_, ?_⟩⟩, ⟨rfl, rfl, rfl, by simp, fun k _ hk => setRow_other w g k _ (fun e => hk (by simp [Value.ownBlock, e]))⟩, .inl rfl⟩
      · simp only [List.size_toArray, List.length_append, List.length_take, List.length_drop, Array.length_toList]
        omega
      · rw [htake, ← hlen]
        exact List.take_left
    · have holds : ∀ j u, xs[j]? = some u → w.cell? ((⟨g, 0, none⟩ : Addr).add j) = some u := hown.cells (g := g) rfl
      have hold : (Builtin.firstCells i.size n (.slice (some ⟨g, 0, none⟩) n cap)).run P w.drew = .ok xs.toArray w.drew := run_firstCells_some w.drew i.size n _ n cap xs hown.1 (by simpa using holds)
      have hr := run_append_grow_src (P := P) w t tx ty e i z ht hi hz (some ⟨g, 0, none⟩) n cap xs hold x m news hs (by omega) (by omega) (growslice_fits (by omega) hbytes)
      have hgr := grown cap (by omega) (Value.ownBlock (.slice (some ⟨g, 0, none⟩) n cap))
      exact ⟨_, _, hr, hgr.1, hgr.2, hnew _⟩
end

section
variable {P : Program} {w : World} {ops : Array Oper} {rest : List Oper} {o : Oper} {a : Act} {Q : Exit → Act → World → Prop}

theorem step_append_x {K : Act → World → Prop} {E : Prop} {t tx e : TypeId} {z : Value} {size bytes : Nat} (ht : P.underlying t = some (.slice e)) (he : (P.info? e).map (fun i => (i.zero, i.size, i.bytes)) = some (some z, size, bytes)) (hzs : z.cells.size = size)
    (hgd : o.guard = none) (s y : Operand) (ho : o.op = .call { callee := .builtin .append, args := #[s, y], argTypes := #[t, tx] })
    (base : Nat) (v : Value) (n : Nat) (xs : List Value) (hs : a.eval s = v) (hown : w.ownsRow base e size v n xs)
    (x : Value) (m : Nat) (news : List Value) (hx : a.eval y = x) (hsrc : Src P size tx x m news w)
    (h63 : n + m ≤ maxLen) (hbytes : (n + m) * bytes ≤ 140737488355328) (hbase : base ≤ w.heap.size)
    (h : ∀ v' w', w'.ownsRow base e size v' (n + m) (xs ++ news) → w.grownBy w' v.ownBlock → Next w v v' → K (a.put o.dst v') w') :
    if Region.wanted o (yielded ops a.tmps) = true then Oper.wp P o a w K Q else E := by
  have hw : Region.wanted o (yielded ops a.tmps) = true := by simp [Region.wanted, hgd]
  rw [if_pos hw]
  obtain ⟨i0, hi, hz0, hz1, hz2⟩ := info_parts he
  obtain ⟨v', w', hr, h2, h3, h4⟩ := run_append_x (P := P) w base t tx o.type e i0 z size bytes ht hi hz0 hz1 hz2 hzs v n xs hown x m news hsrc h63 hbytes hbase
  unfold Oper.wp execOp
  simp only [ho, resolve, invoke, builtin, Sem.run_bind, Sem.run_pure, Result.andThen_ok, List.map_toArray, List.map_cons, List.map_nil, hs, hx, hr]
  exact h v' w' h2 h3 h4

theorem wpList_append_x {t tx e : TypeId} {z : Value} {size bytes : Nat} (ht : P.underlying t = some (.slice e)) (he : (P.info? e).map (fun i => (i.zero, i.size, i.bytes)) = some (some z, size, bytes)) (hzs : z.cells.size = size)
    (hgd : o.guard = none) (s y : Operand) (ho : o.op = .call { callee := .builtin .append, args := #[s, y], argTypes := #[t, tx] })
    (base : Nat) (v : Value) (n : Nat) (xs : List Value) (hs : a.eval s = v) (hown : w.ownsRow base e size v n xs)
    (x : Value) (m : Nat) (news : List Value) (hx : a.eval y = x) (hsrc : Src P size tx x m news w)
    (h63 : n + m ≤ maxLen) (hbytes : (n + m) * bytes ≤ 140737488355328) (hbase : base ≤ w.heap.size)
    (h : ∀ v' w', w'.ownsRow base e size v' (n + m) (xs ++ news) → w.grownBy w' v.ownBlock → Next w v v' → wpList P ops Q rest (a.put o.dst v') w') : wpList P ops Q (o :: rest) a w := by
  refine wpList_plain hgd fun _ hK => ?_
  obtain ⟨i0, hi, hz0, hz1, hz2⟩ := info_parts he
  obtain ⟨v', w', hr, h2, h3, h4⟩ := run_append_x (P := P) w base t tx o.type e i0 z size bytes ht hi hz0 hz1 hz2 hzs v n xs hown x m news hsrc h63 hbytes hbase
  unfold Oper.wp execOp
  simp only [ho, resolve, invoke, builtin, Sem.run_bind, Sem.run_pure, Result.andThen_ok, List.map_toArray, List.map_cons, List.map_nil, hs, hx, hr]
  exact hK _ _ (h v' w' h2 h3 h4)

/-- bytes as a source of append: a slice or a string -/
def SrcB (P : Program) (tx : TypeId) (w : World) (x : Value) (m : List UInt8) : Prop := Src P 1 tx x m.length (bcells m) w
theorem SrcB.ofString {tx : TypeId} (hk : P.underlying tx = some .string) (s : ByteArray) (w : World) : SrcB P tx w (.string s) s.data.toList := by
  have h := Src.ofString (P := P) w hk s
  unfold SrcB
  rw [show s.data.toList.length = s.size from by simp]
  exact h
theorem SrcB.ofRd {tx e' : TypeId} (hk : P.underlying tx = some (.slice e')) {x : Value} {m : List UInt8} (h : RdB w x m) : SrcB P tx w x m := by
  rcases h with ⟨rfl, rfl⟩ | ⟨ad, cap, rfl, _, _, _, hc⟩
  · exact Src.ofNil (P := P) w hk 0
  · exact Src.ofSlice (P := P) w hk ad m.length cap (bcells m) (by simp [bcells_length]) hc (bcells_one m)
theorem SrcB.ofCells {tx e' : TypeId} (hk : P.underlying tx = some (.slice e')) {ad : Addr} {cap : Nat} {m : List UInt8} (hc : ∀ j u, (bcells m)[j]? = some u → w.cell? (ad.add j) = some u) : SrcB P tx w (.slice (some ad) m.length cap) m :=
  Src.ofSlice (P := P) w hk ad m.length cap (bcells m) (by simp [bcells_length]) hc (bcells_one m)
theorem OwnB.rd {e : TypeId} {base : Nat} {v : Value} {l : List UInt8} (h : OwnB e w base v l) : RdB w v l := by
  have hc := h.2
  rcases hc with ⟨rfl, h0⟩ | ⟨g, cap, cur, rfl, hb, hg, hn, hm, hcs, ht⟩
  · exact .inl ⟨rfl, List.eq_nil_of_length_eq_zero h0⟩
  · exact .inr ⟨⟨g, 0, none⟩, cap, rfl, .inr rfl, hn, hm, World.ownsRow.cells (e := e) h (g := g) rfl⟩

theorem step_append_B {K : Act → World → Prop} {E : Prop} {t tx e : TypeId} (ht : P.underlying t = some (.slice e)) (he : (P.info? e).map (fun i => (i.zero, i.size, i.bytes)) = some (some (.int .u8 0), 1, 1))
    (hgd : o.guard = none) (s y : Operand) (ho : o.op = .call { callee := .builtin .append, args := #[s, y], argTypes := #[t, tx] })
    (base : Nat) (v : Value) (l : List UInt8) (hs : a.eval s = v) (hown : OwnB e w base v l)
    (x : Value) (m : List UInt8) (hx : a.eval y = x) (hsrc : SrcB P tx w x m)
    (hl : l.length + m.length ≤ 140737488355328) (hbase : base ≤ w.heap.size)
    (h : ∀ v' w', OwnB e w' base v' (l ++ m) → w.grownBy w' v.ownBlock → Next w v v' → K (a.put o.dst v') w') :
    if Region.wanted o (yielded ops a.tmps) = true then Oper.wp P o a w K Q else E :=
  step_append_x ht he rfl hgd s y ho base v l.length (bcells l) hs hown x m.length (bcells m) hx hsrc (by unfold maxLen; omega) (by omega) hbase fun v' w' h1 h2 h3 =>
    h v' w' (by unfold OwnB; rw [bcells_append, List.length_append]; exact h1) h2 h3

theorem wpList_append_B {t tx e : TypeId} (ht : P.underlying t = some (.slice e)) (he : (P.info? e).map (fun i => (i.zero, i.size, i.bytes)) = some (some (.int .u8 0), 1, 1))
    (hgd : o.guard = none) (s y : Operand) (ho : o.op = .call { callee := .builtin .append, args := #[s, y], argTypes := #[t, tx] })
    (base : Nat) (v : Value) (l : List UInt8) (hs : a.eval s = v) (hown : OwnB e w base v l)
    (x : Value) (m : List UInt8) (hx : a.eval y = x) (hsrc : SrcB P tx w x m)
    (hl : l.length + m.length ≤ 140737488355328) (hbase : base ≤ w.heap.size)
    (h : ∀ v' w', OwnB e w' base v' (l ++ m) → w.grownBy w' v.ownBlock → Next w v v' → wpList P ops Q rest (a.put o.dst v') w') : wpList P ops Q (o :: rest) a w :=
  wpList_append_x ht he rfl hgd s y ho base v l.length (bcells l) hs hown x m.length (bcells m) hx hsrc (by unfold maxLen; omega) (by omega) hbase fun v' w' h1 h2 h3 =>
    h v' w' (by unfold OwnB; rw [bcells_append, List.length_append]; exact h1) h2 h3

theorem cells_one {w : World} {B : Nat} {c : UInt8} {x : Int} (h : w.cell? ⟨B, 0, none⟩ = some (.int .u8 x)) (hx : x = (c.toNat : Int)) : ∀ (j : Nat) (u : Value), (bcells [c])[j]? = some u → w.cell? ((⟨B, 0, none⟩ : Addr).add j) = some u := by
  subst hx
  intro j u hu
  match j, hu with
  | 0, hu => simp [bcells] at hu; subst hu; simpa [Addr.add] using h

/-- one byte, which the region has laid into a block of its own -/
theorem step_append_1 {K : Act → World → Prop} {E : Prop} {t e : TypeId} (ht : P.underlying t = some (.slice e)) (he : (P.info? e).map (fun i => (i.zero, i.size, i.bytes)) = some (some (.int .u8 0), 1, 1))
    (hgd : o.guard = none) (s y : Operand) (ho : o.op = .call { callee := .builtin .append, args := #[s, y], argTypes := #[t, t] })
    (base : Nat) (v : Value) (l : List UInt8) (hs : a.eval s = v) (hown : OwnB e w base v l)
    (B : Nat) (xi : Int) (c : UInt8) (hx : a.eval y = .slice (some ⟨B, 0, none⟩) 1 1) (hcell : w.cell? ⟨B, 0, none⟩ = some (.int .u8 xi)) (hxi : xi = (c.toNat : Int))
    (hl : l.length ≤ 140737488355000) (hbase : base ≤ w.heap.size)
    (h : ∀ v' w', OwnB e w' base v' (l ++ [c]) → w.grownBy w' v.ownBlock → Next w v v' → K (a.put o.dst v') w') :
    if Region.wanted o (yielded ops a.tmps) = true then Oper.wp P o a w K Q else E :=
  step_append_B ht he hgd s y ho base v l hs hown _ [c] hx (SrcB.ofCells ht (m := [c]) (cap := 1) (cells_one hcell hxi)) (by simp; omega) hbase h
theorem wpList_append_1 {t e : TypeId} (ht : P.underlying t = some (.slice e)) (he : (P.info? e).map (fun i => (i.zero, i.size, i.bytes)) = some (some (.int .u8 0), 1, 1))
    (hgd : o.guard = none) (s y : Operand) (ho : o.op = .call { callee := .builtin .append, args := #[s, y], argTypes := #[t, t] })
    (base : Nat) (v : Value) (l : List UInt8) (hs : a.eval s = v) (hown : OwnB e w base v l)
    (B : Nat) (xi : Int) (c : UInt8) (hx : a.eval y = .slice (some ⟨B, 0, none⟩) 1 1) (hcell : w.cell? ⟨B, 0, none⟩ = some (.int .u8 xi)) (hxi : xi = (c.toNat : Int))
    (hl : l.length ≤ 140737488355000) (hbase : base ≤ w.heap.size)
    (h : ∀ v' w', OwnB e w' base v' (l ++ [c]) → w.grownBy w' v.ownBlock → Next w v v' → wpList P ops Q rest (a.put o.dst v') w') : wpList P ops Q (o :: rest) a w :=
  wpList_append_B ht he hgd s y ho base v l hs hown _ [c] hx (SrcB.ofCells ht (m := [c]) (cap := 1) (cells_one hcell hxi)) (by simp; omega) hbase h
end
end Go.Proofs.Ytgdbmoggpfpkkaa
/- The encoding as a Lean function; codec.unsigned and the reference's unsigned. -/
namespace Go.Proofs.Ytgdbmoggpfpkkaa
open Go.RowKit

theorem OwnB.drew {e : TypeId} {w : World} {base : Nat} {v : Value} {l : List UInt8} (h : OwnB e w base v l) : OwnB e w.drew base v l := h
theorem grown_drew {w w1 : World} {G : Option Nat} (h : w.grownBy w1 G) : w.grownBy w1.drew G := ⟨h.os, h.tape, h.output, h.size, h.block⟩
theorem cell_grown {w w' : World} {row : Option Nat} (hg : w.grownBy w' row) {a : Addr} {v : Value} (h : w.cell? a = some v) (hne : some a.block ≠ row) : w'.cell? a = some v := hg.cell h hne
/-- the unsigned form of a number -/
def uns (n : Int) : Nat := if 0 ≤ n then (2 * n).toNat else (2 * (-(n + 1)) + 1).toNat
theorem uns_lt (n : Int) (h : I64 n) : uns n < 18446744073709551616 := by unfold I64 at h; unfold uns; split <;> omega
/-- the bytes of a text -/
def sbytes (s : ByteArray) : List UInt8 := s.toList
mutual
/-- the encoding of a value -/
def enc : V → List UInt8
  | .mk k n s l => if k = 1 then 1 :: num (uns n) else if k = 2 then 2 :: (num s.size ++ s.data.toList) else 3 :: (num l.length ++ encs l)
def encs : List V → List UInt8
  | [] => []
  | x :: r => enc x ++ encs r
end
theorem enc_1 (n : Int) (s : ByteArray) (l : List V) : enc (.mk 1 n s l) = [1] ++ num (uns n) := by simp [enc]
theorem enc_2 (n : Int) (s : ByteArray) (l : List V) : enc (.mk 2 n s l) = [2] ++ num s.size ++ s.data.toList := by simp [enc]
theorem enc_3 (n : Int) (s : ByteArray) (l : List V) : enc (.mk 3 n s l) = [3] ++ num l.length ++ encs l := by simp [enc]
mutual
theorem enc_sz : ∀ x : V, (enc x).length ≤ sz x
  | .mk k n s l => by
    have h1 := numF_len 9 (uns n); have h2 := numF_len 9 s.size; have h3 := numF_len 9 l.length; have h4 := encs_sz l
    have h5 : s.data.toList.length = s.size := by simp
    simp only [enc, sz]
    split
    · simp only [List.length_cons, num]; omega
    · split
      · simp only [List.length_cons, List.length_append, num, h5]; omega
      · simp only [List.length_cons, List.length_append, num]; omega
theorem encs_sz : ∀ l : List V, (encs l).length ≤ szs l
  | [] => by simp [encs]
  | x :: r => by have := enc_sz x; have := encs_sz r; simp only [encs, szs, List.length_append]; omega
end
theorem encs_take {l : List V} {i : Nat} {x : V} (h : l[i]? = some x) : encs (l.take (i + 1)) = encs (l.take i) ++ enc x := by
  induction l generalizing i with
  | nil => simp at h
  | cons y r ih => cases i with
    | zero => simp at h; subst h; simp [encs]
    | succ i => simp only [List.take_succ_cons, encs]; rw [ih (by simpa using h), List.append_assoc]

theorem uns_pos (n : Int) (h0 : 0 ≤ n) (hn : I64 n) : bits BinOp.xor IntKind.u64 (IntKind.u64.wrap (IntKind.u64.wrap n * 2)) (IntKind.u64.wrap (n / 9223372036854775808)) = (uns n : Int) := by
  unfold I64 at hn
  obtain ⟨m, rfl⟩ := Int.eq_ofNat_of_zero_le h0
  rw [IntKind.wrap_u64, IntKind.wrap_u64, IntKind.wrap_u64]
  rw [show (m : Int) % 18446744073709551616 * 2 % 18446744073709551616 = ((2 * m : Nat) : Int) from by omega, show (m : Int) / 9223372036854775808 % 18446744073709551616 = ((0 : Nat) : Int) from by omega,
    bits_xor_u64_nat _ _ (by omega) (by omega), Nat.xor_zero]
  unfold uns; rw [if_pos h0]; omega
theorem xor_ones (a : Nat) (h : a < 18446744073709551616) : a ^^^ 18446744073709551615 = 18446744073709551615 - a := by
  have h1 : (BitVec.ofNat 64 a ^^^ BitVec.allOnes 64).toNat = (~~~ BitVec.ofNat 64 a).toNat := by rw [BitVec.xor_allOnes]
  rw [BitVec.toNat_xor, BitVec.toNat_not, BitVec.toNat_allOnes, BitVec.toNat_ofNat, Nat.mod_eq_of_lt (by simpa using h)] at h1
  simpa using h1
theorem uns_neg (n : Int) (h0 : n < 0) (hn : I64 n) : bits BinOp.xor IntKind.u64 (IntKind.u64.wrap (IntKind.u64.wrap n * 2)) (IntKind.u64.wrap (n / 9223372036854775808)) = (uns n : Int) := by
  unfold I64 at hn
  rw [IntKind.wrap_u64, IntKind.wrap_u64, IntKind.wrap_u64]
  obtain ⟨m, rfl⟩ : ∃ m : Nat, n = -(m : Int) - 1 := ⟨(-n - 1).toNat, by omega⟩
  rw [show (-(m : Int) - 1) % 18446744073709551616 * 2 % 18446744073709551616 = ((18446744073709551614 - 2 * m : Nat) : Int) from by omega, show (-(m : Int) - 1) / 9223372036854775808 % 18446744073709551616 = ((18446744073709551615 : Nat) : Int) from by omega,
    bits_xor_u64_nat _ _ (by omega) (by omega), xor_ones _ (by omega)]
  unfold uns; rw [if_neg (by omega)]; omega

set_option maxHeartbeats 1000000 in
theorem unsigned_any (n : Int) (hn : Hid (I64 n)) (w : World) : Calls Try.prog 72 #[.int .i64 n] w fun e w' => e = .returned (.int .u64 (uns n)) ∧ w = w' := by
  go_enter Try.func72, Try.ntmps72
  go_wp2
  go_ret
  refine ⟨?_, rfl⟩
  rcases Int.lt_or_le n 0 with h | h
  · exact congrArg (fun z => Ending.returned (.int .u64 z)) (uns_neg n h hn.out)
  · exact congrArg (fun z => Ending.returned (.int .u64 z)) (uns_pos n h hn.out)

set_option maxHeartbeats 1000000 in
theorem runsigned_any (n : Int) (hn : Hid (I64 n)) (w : World) : Calls Try.prog 78 #[.int .i64 n] w fun e w' => e = .returned (.int .u64 (uns n)) ∧ w = w' := by
  go_enter Try.func78, Try.ntmps78
  go_wp2
  all_goals go_ret
  all_goals refine ⟨?_, rfl⟩
  all_goals
    have h := hn.out; unfold I64 at h
    refine congrArg (fun z => Ending.returned (.int .u64 z)) ?_
  · have h0 : 0 ≤ n := by assumption
    simp only [IntKind.wrap_u64, uns, if_pos h0]; omega
  · have h0 : n < 0 := by assumption
    simp only [IntKind.wrap_u64, uns, if_neg (show ¬ 0 ≤ n by omega), wrap64]; omega
end Go.Proofs.Ytgdbmoggpfpkkaa
/- codec's writers. -/
namespace Go.Proofs.Ytgdbmoggpfpkkaa
open Go.RowKit

set_option maxRecDepth 100000 in
set_option maxHeartbeats 1000000 in
theorem write1_any (base : Nat) (b : Value) (pre : List UInt8) (n : Int) (hn : Hid (I64 n)) (s : ByteArray) (lv : Value) (w : World) (hown : OwnB 5 w base b pre) (hsz : pre.length ≤ 10000000000) (hbase : base ≤ w.heap.size) (out : List UInt8) (hout : Hid (out = pre ++ ([1] ++ num (uns n)))) :
    Calls Try.prog 70 #[b, .agg #[.int .i64 1, .int .i64 n, .string s, lv]] w (NumPost base b out w) := by
  go_enter Try.func70, Try.ntmps70
  go_wp2
  have hb0 : ∀ g, b.ownBlock = some g → g < w.heap.size := fun g hg => (hown.lt g hg).2
  have hown1 := hown.alloc (.cells #[.int .i64 1, .int .i64 n, .string s, lv] 57)
  have hne : some w.heap.size ≠ b.ownBlock := fun h => by have := hb0 _ h.symm; omega
  go_region_held3 (fun w' => w'.cell? ⟨w.heap.size, 1, none⟩ = some (.int .i64 n)) (first | go_keep | exact cell_grown (row := b.ownBlock) (by assumption) (by simp) hne)
    (first
     | (refine step_append_1 (e := 5) Try.underlying33 (by kernel_rfl) rfl _ _ rfl base b pre rfl ?own _ 1 1 rfl ?c1 rfl ?c2 ?c3 ?_
        case own => exact (hown1.alloc _).drew
        case c1 => simp
        case c2 => omega
        case c3 => simp; omega
        intro v' w1 ho2 hg2 hn2)
     | (go_at_call 72; refine (unsigned_any n hn _).mono ?_; rintro e w' ⟨rfl, rfl⟩)
     | (go_at_call 71; refine (numeral_any base v' (pre ++ [1]) (uns n) (uns_lt n hn.out) _ ho2 ?d1 ?d2).mono ?_
        case d1 => simp; omega
        case d2 => have := hg2.size; simp at this; omega
        rintro e w2 ⟨v2, rfl, ho3, hg3, hn3⟩
        have hg4 := grown_trans hg2 hg3 hn2))
  go_wp2
  go_ret
  refine ⟨v2, rfl, ?_, grown_trans (grown_drew (grown_alloc (grown_alloc (grown_refl w _) _) _)) hg4 (.inl rfl), ?_⟩
  · rw [hout.out, ← List.append_assoc]; exact ho3
  · exact Next.trans (Next.trans (Next.refl w b) (by simp; omega) hn2) (by have := hg2.size; simp at this; omega) hn3
end Go.Proofs.Ytgdbmoggpfpkkaa
/- codec's writer of texts. -/
namespace Go.Proofs.Ytgdbmoggpfpkkaa
open Go.RowKit

set_option maxRecDepth 100000 in
set_option maxHeartbeats 200000 in
theorem write2_any (base : Nat) (b : Value) (pre : List UInt8) (n : Int) (s : ByteArray) (lv : Value) (w : World) (hown : OwnB 5 w base b pre) (hsz : pre.length ≤ 10000000000) (hss : s.size ≤ 50000000) (hbase : base ≤ w.heap.size) (out : List UInt8) (hout : Hid (out = pre ++ ([2] ++ num s.size ++ s.data.toList))) :
    Calls Try.prog 73 #[b, .agg #[.int .i64 2, .int .i64 n, .string s, lv]] w (NumPost base b out w) := by
  have hb0 : ∀ g, b.ownBlock = some g → g < w.heap.size := fun g hg => (hown.lt g hg).2
  have hown1 := hown.alloc (.cells #[.int .i64 2, .int .i64 n, .string s, lv] 57)
  have hne : some w.heap.size ≠ b.ownBlock := fun h => by have := hb0 _ h.symm; omega
  have hsd : s.data.toList.length = s.size := by simp
  have Hsd := Lib.hid hsd; clear hsd
  have hw : IntKind.u64.wrap (s.size : Int) = (s.size : Int) := by rw [IntKind.wrap_u64]; omega
  go_enter Try.func73, Try.ntmps73
  go_wp2
  go_region_held3 (fun w' => w'.cell? ⟨w.heap.size, 2, none⟩ = some (.string s)) (first | go_keep | exact cell_grown (row := b.ownBlock) (by assumption) (by simp) hne)
    (first
     | (go_at_call 71; refine (numeral_any base v' (pre ++ [2]) s.size ?d0 _ ho2 ?d1 ?d2).mono ?_
        case d0 => show s.size < _; omega
        case d1 => simp; omega
        case d2 => have := hg2.size; simp at this; omega
        rintro e w2 ⟨v2, rfl, ho3, hg3, hn3⟩
        have hg4 := grown_trans hg2 hg3 hn2)
     | (refine step_append_1 (e := 5) Try.underlying33 (by kernel_rfl) rfl _ _ rfl base b pre rfl ?own _ 2 2 rfl ?c1 rfl ?c2 ?c3 ?_
        case own => exact (hown1.alloc _).drew
        case c1 => simp
        case c2 => omega
        case c3 => simp; omega
        intro v' w1 ho2 hg2 hn2)
     | (refine step_append_B (e := 5) Try.underlying33 (by kernel_rfl) rfl _ _ rfl base _ (pre ++ [2] ++ num s.size) rfl ?own _ s.data.toList rfl ?c1 ?c2 ?c3 ?_
        case own => exact ho3
        case c1 => exact SrcB.ofString Try.underlying9 s _
        case c2 => have h9 := numF_len 9 s.size; rw [Hsd.out]; simp [num]; omega
        case c3 => have h8 := hg2.size; have h9 := hg3.size; simp at h8; omega
        intro v3 w3 ho4 hg5 hn4
        have hg6 := grown_trans hg4 hg5 (Next.trans hn2 hg2.size hn3)))
  go_wp2
  go_ret
  refine ⟨v3, rfl, ?_, grown_trans (grown_drew (grown_alloc (grown_alloc (grown_refl w _) _) _)) hg6 (.inl rfl), ?_⟩
  · rw [hout.out, ← List.append_assoc, ← List.append_assoc]; exact ho4
  · have h8 := hg2.size; have h9 := hg3.size; simp at h8
    exact Next.trans (Next.trans (Next.trans (Next.refl w b) (by simp; omega) hn2) (by omega) hn3) (by omega) hn4
end Go.Proofs.Ytgdbmoggpfpkkaa
