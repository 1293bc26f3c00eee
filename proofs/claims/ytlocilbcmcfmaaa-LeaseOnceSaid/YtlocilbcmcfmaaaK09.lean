/- Merged: Rdl Vd Rdv Rdw Rdx Rdy Rdz Dec. -/
import Derived.Test.YtlocilbcmcfmaaaK01
import Derived.Test.YtlocilbcmcfmaaaK08
import Derived.Laws.DeepNot64
import Derived.Deep.RegionHeld3
import Derived.Deep.RegionLaw
import Derived.Defers
import Derived.Recover
import Derived.Laws.EntriesVeiled
/- codec.reader: length; codec.signed. -/
namespace Go.Proofs.Ytlocilbcmcfmaaa
open Go.RowKit

/-- a length that is read: no more than there are bytes left -/
def rdLen (l : List UInt8) : Option (Nat × List UInt8) :=
  match rdNum 0 0 l with
  | some (n, r) => if n ≤ r.length then some (n, r) else none
  | none => none
theorem rdNum_len : ∀ (l : List UInt8) (k x n : Nat) (r : List UInt8), rdNum k x l = some (n, r) → r.length < l.length
  | [], _, _, _, _, h => by simp [rdNum] at h
  | c :: t, k, x, n, r, h => by
    rw [rdNum] at h
    split at h
    · split at h
      · simp at h; obtain ⟨_, rfl⟩ := h; simp
      · have := rdNum_len t _ _ n r h; simp; omega
    · cases h
theorem rdNum_lt : ∀ (l : List UInt8) (k x n : Nat) (r : List UInt8), k ≤ 9 → x < 2 ^ (7 * k) → rdNum k x l = some (n, r) → n < 18446744073709551616
  | [], _, _, _, _, _, _, h => by simp [rdNum] at h
  | c :: t, k, x, n, r, hk, hx, h => by
    rw [rdNum] at h
    split at h
    · rename_i hg
      split at h
      · simp at h; obtain ⟨rfl, _⟩ := h
        by_cases h9 : k = 9
        · subst h9; have := hg.2; have h1 : c.toNat ≤ 1 := by omega
          have h2 : c.toNat * 2 ^ (7 * 9) ≤ 1 * 2 ^ (7 * 9) := Nat.mul_le_mul_right _ h1
          simp at hx h2 ⊢; omega
        · have h2 : (2 : Nat) ^ (7 * k) ≤ 2 ^ 56 := Nat.pow_le_pow_right (by decide) (by omega)
          have h3 : c.toNat * 2 ^ (7 * k) ≤ 255 * 2 ^ 56 := Nat.mul_le_mul (by have := c.toNat_lt; omega) h2
          omega
      · rename_i hc
        have := c.toNat_lt
        have h1 : (c.toNat - 128) * 2 ^ (7 * k) ≤ 127 * 2 ^ (7 * k) := Nat.mul_le_mul_right _ (by omega)
        have h2 : (2 : Nat) ^ (7 * (k + 1)) = 128 * 2 ^ (7 * k) := by rw [show 7 * (k + 1) = 7 + 7 * k from by omega, Nat.pow_add]
        exact rdNum_lt t (k + 1) _ n r (by have := hg.2; omega) (by omega) h
    · cases h

set_option maxRecDepth 100000 in
set_option maxHeartbeats 1000000 in
theorem length_any (B R : Nat) (l : List UInt8) (hl : l.length ≤ 1000000) (w : World) (hr : RdrAt B w R l) :
    Calls Try.prog 56 #[.pointer (some ⟨R, 0, none⟩)] w (ReadPost B R ((rdLen l).map fun p => (.int .i64 (p.1 : Int), p.2)) w) := by
  cases hN : rdNum 0 0 l with
  | none =>
    have hn : Hid (rdLen l = none) := by show _ = _; unfold rdLen; rw [hN]
    have HN := Lib.hid hN; clear hN
    go_enter Try.func56, Try.ntmps56
    go_wp2_with fail
    refine (number_any B R l hl w hr).mono ?_
    rw [HN.out]
    rintro e w1 ⟨rfl, hg⟩
    exact ⟨rfl, by rw [hn.out]; exact And.intro rfl hg⟩
  | some p =>
    obtain ⟨n, r⟩ := p
    have hn64 := Lib.hid (rdNum_lt l 0 0 n r (by decide) (by simp) hN)
    have hlen := rdNum_len l 0 0 n r hN
    have HN := Lib.hid hN; clear hN
    have hwr : IntKind.u64.wrap (r.length : Int) = (r.length : Int) := by rw [IntKind.wrap_u64]; omega
    by_cases hnr : n ≤ r.length
    · have hn : Hid (rdLen l = some (n, r)) := by show _ = _; unfold rdLen; rw [HN.out]; simp [hnr]
      go_enter Try.func56, Try.ntmps56
      go_wp2_with fail
      refine (number_any B R l hl w hr).mono ?_
      rw [HN.out]
      rintro e w1 ⟨rfl, hrd, hg⟩
      obtain ⟨hle, hfr, v, hv, hb⟩ := id hrd
      obtain ⟨oa, cap, rfl, hlc, hcm⟩ := hb.form
      clear hb hlc hcm
      go_wp2_with (go_at_call 40; refine (want_true _ _).mono ?_; rintro e w' ⟨rfl, rfl⟩)
      go_ret
      rw [hn.out]
      exact And.intro rfl (And.intro hrd hg)
    · have hn : Hid (rdLen l = none) := by show _ = _; unfold rdLen; rw [HN.out]; simp [hnr]
      have hd : decide (n ≤ r.length) = false := by simpa using hnr
      go_enter Try.func56, Try.ntmps56
      go_wp2_with fail
      refine (number_any B R l hl w hr).mono ?_
      rw [HN.out]
      rintro e w1 ⟨rfl, hrd, hg⟩
      obtain ⟨hle, hfr, v, hv, hb⟩ := id hrd
      obtain ⟨oa, cap, rfl, hlc, hcm⟩ := hb.form
      clear hb hlc hcm
      go_wp2_with (go_at_call 40; refine (want_false _ _).mono ?_; rintro e w' ⟨rfl, rfl⟩)
      exact ⟨rfl, by rw [hn.out]; exact And.intro rfl hg⟩

/-- the integer with an unsigned form -/
def sgn (u : Nat) : Int := if u % 2 = 0 then ((u / 2 : Nat) : Int) else -((u / 2 : Nat) : Int) - 1
theorem xor_comm_i64 (x y : Int) : bits BinOp.xor IntKind.i64 x y = bits BinOp.xor IntKind.i64 y x := by
  show IntKind.i64.wrap _ = IntKind.i64.wrap _
  simp only [BitVec.xor_comm]
theorem xor_zero_i64 (a : Nat) (ha : a < 9223372036854775808) : bits BinOp.xor IntKind.i64 (a : Int) 0 = (a : Int) := by
  show IntKind.i64.wrap ((BitVec.ofInt 64 (a : Int) ^^^ BitVec.ofInt 64 0).toNat : Int) = _
  have h1 : (BitVec.ofInt 64 (a : Int)).toNat = a := by
    rw [BitVec.ofInt_natCast, BitVec.toNat_ofNat]; exact Nat.mod_eq_of_lt (by omega)
  have h2 : BitVec.ofInt 64 0 = 0#64 := by decide
  rw [h2, BitVec.xor_zero, h1, IntKind.wrap_i64]; omega
theorem sgn_eq (u : Nat) (hu : u < 18446744073709551616) : bits BinOp.xor IntKind.i64 (wrap64 ((u : Int) / 2)) (wrap64 (-wrap64 (bits BinOp.and IntKind.u64 (u : Int) 1))) = sgn u := by
  have h1 : bits BinOp.and IntKind.u64 (u : Int) 1 = ((u % 2 : Nat) : Int) := by
    have := bits_and_u64_nat u 1 hu (by omega)
    rw [show ((1 : Nat) : Int) = 1 from rfl] at this
    rw [this, Nat.and_one_is_mod]
  have h2 : wrap64 ((u : Int) / 2) = ((u / 2 : Nat) : Int) := by unfold wrap64; omega
  rw [h1, h2]
  unfold sgn
  rcases Nat.mod_two_eq_zero_or_one u with h | h
  · rw [h, if_pos rfl]
    rw [show wrap64 (-wrap64 ((0 : Nat) : Int)) = 0 from by unfold wrap64; omega]
    exact xor_zero_i64 _ (by omega)
  · rw [h, if_neg (by omega)]
    rw [show wrap64 (-wrap64 ((1 : Nat) : Int)) = -1 from by unfold wrap64; omega, xor_comm_i64, i64_not _ (by omega)]
    omega
set_option maxHeartbeats 1000000 in
theorem signed_any (u : Nat) (hu : Hid (u < 18446744073709551616)) (w : World) : Calls Try.prog 54 #[.int .u64 u] w fun e w' => e = .returned (.int .i64 (sgn u)) ∧ w = w' := by
  go_enter Try.func54, Try.ntmps54
  go_wp2
  go_ret
  refine ⟨congrArg (fun z => Ending.returned (.int .i64 z)) (sgn_eq u hu.out), rfl⟩
end Go.Proofs.Ytlocilbcmcfmaaa
/- values whose memory lies in a given set of blocks; a list of values that the call itself makes. -/
namespace Go.Proofs.Ytlocilbcmcfmaaa
open Go.RowKit

mutual
def V.atD (D : Nat → Prop) (w : World) : V → Nat → Nat → Prop
  | .mk k n s l, b, off => D b ∧ I64 k ∧ I64 n ∧ s.size ≤ maxLen ∧ w.cell? ⟨b, off, none⟩ = some (.int .i64 k) ∧ w.cell? ⟨b, off + 1, none⟩ = some (.int .i64 n) ∧ w.cell? ⟨b, off + 2, none⟩ = some (.string s) ∧
      ∃ lv, w.cell? ⟨b, off + 3, none⟩ = some lv ∧ ((l = [] ∧ ∃ oa cap, lv = .slice oa 0 cap) ∨ (l ≠ [] ∧ ∃ c o cap, lv = .slice (some ⟨c, o, none⟩) l.length cap ∧ l.length ≤ maxLen ∧ V.atsD D w l c o))
def V.atsD (D : Nat → Prop) (w : World) : List V → Nat → Nat → Prop
  | [], _, _ => True
  | x :: r, b, off => V.atD D w x b off ∧ V.atsD D w r b (off + 4)
end
def SlVD (D : Nat → Prop) (w : World) (l : List V) (lv : Value) : Prop :=
  (l = [] ∧ ∃ oa cap, lv = .slice oa 0 cap) ∨ (l ≠ [] ∧ ∃ c o cap, lv = .slice (some ⟨c, o, none⟩) l.length cap ∧ l.length ≤ maxLen ∧ V.atsD D w l c o)
def RdVD (D : Nat → Prop) (w : World) (x : V) (v : Value) : Prop :=
  I64 x.kind ∧ I64 x.n ∧ x.s.size ≤ maxLen ∧ ∃ lv, v = .agg #[.int .i64 x.kind, .int .i64 x.n, .string x.s, lv] ∧ SlVD D w x.l lv

mutual
theorem V.atD_keep {D D' : Nat → Prop} {w w' : World} (hB : ∀ k, D k → D' k) (hs : ∀ k, D k → w'.heap[k]? = w.heap[k]?) : ∀ (x : V) (b off : Nat), V.atD D w x b off → V.atD D' w' x b off
  | .mk k n s l, b, off, h => by
    simp only [V.atD] at h ⊢
    obtain ⟨h0, h1, h2, h3, h4, h5, h6, lv, h7, h8⟩ := h
    have hc : ∀ o, w'.cell? ⟨b, o, none⟩ = w.cell? ⟨b, o, none⟩ := fun o => World.cell?_of_block (w := w) (hs b h0)
    refine ⟨hB _ h0, h1, h2, h3, (hc _).trans h4, (hc _).trans h5, (hc _).trans h6, lv, (hc _).trans h7, ?_⟩
    rcases h8 with h8 | ⟨hne, c, o, cap, he, hl, ha⟩
    · exact .inl h8
    · exact .inr ⟨hne, c, o, cap, he, hl, V.atsD_keep hB hs l c o ha⟩
theorem V.atsD_keep {D D' : Nat → Prop} {w w' : World} (hB : ∀ k, D k → D' k) (hs : ∀ k, D k → w'.heap[k]? = w.heap[k]?) : ∀ (l : List V) (b off : Nat), V.atsD D w l b off → V.atsD D' w' l b off
  | [], _, _, _ => by simp [V.atsD]
  | x :: r, b, off, h => by
    simp only [V.atsD] at h ⊢
    exact ⟨V.atD_keep hB hs x b off h.1, V.atsD_keep hB hs r b (off + 4) h.2⟩
end
theorem SlVD.keep {D D' : Nat → Prop} {w w' : World} {l : List V} {lv : Value} (h : SlVD D w l lv) (hB : ∀ k, D k → D' k) (hs : ∀ k, D k → w'.heap[k]? = w.heap[k]?) : SlVD D' w' l lv := by
  rcases h with h | ⟨hne, c, o, cap, he, hl, ha⟩
  · exact .inl h
  · exact .inr ⟨hne, c, o, cap, he, hl, V.atsD_keep hB hs l c o ha⟩
theorem RdVD.keep {D D' : Nat → Prop} {w w' : World} {x : V} {v : Value} (h : RdVD D w x v) (hB : ∀ k, D k → D' k) (hs : ∀ k, D k → w'.heap[k]? = w.heap[k]?) : RdVD D' w' x v := by
  obtain ⟨h1, h2, h3, lv, h4, h5⟩ := h
  exact ⟨h1, h2, h3, lv, h4, h5.keep hB hs⟩
mutual
theorem V.atD_at {D : Nat → Prop} {B : Nat} {w : World} (hB : ∀ k, D k → k < B) : ∀ (x : V) (b off : Nat), V.atD D w x b off → V.at B w x b off
  | .mk k n s l, b, off, h => by
    simp only [V.atD, V.at] at h ⊢
    obtain ⟨h0, h1, h2, h3, h4, h5, h6, lv, h7, h8⟩ := h
    refine ⟨hB _ h0, h1, h2, h3, h4, h5, h6, lv, h7, ?_⟩
    rcases h8 with h8 | ⟨hne, c, o, cap, he, hl, ha⟩
    · exact .inl h8
    · exact .inr ⟨hne, c, o, cap, he, hl, V.atsD_ats hB l c o ha⟩
theorem V.atsD_ats {D : Nat → Prop} {B : Nat} {w : World} (hB : ∀ k, D k → k < B) : ∀ (l : List V) (b off : Nat), V.atsD D w l b off → V.ats B w l b off
  | [], _, _, _ => by simp [V.ats]
  | x :: r, b, off, h => by
    simp only [V.atsD, V.ats] at h ⊢
    exact ⟨V.atD_at hB x b off h.1, V.atsD_ats hB r b (off + 4) h.2⟩
end
theorem SlVD.sl {D : Nat → Prop} {B : Nat} {w : World} {l : List V} {lv : Value} (h : SlVD D w l lv) (hB : ∀ k, D k → k < B) : SlV B w l lv := by
  rcases h with h | ⟨hne, c, o, cap, he, hl, ha⟩
  · exact .inl h
  · exact .inr ⟨hne, c, o, cap, he, hl, V.atsD_ats hB l c o ha⟩
theorem RdVD.rd {D : Nat → Prop} {B : Nat} {w : World} {x : V} {v : Value} (h : RdVD D w x v) (hB : ∀ k, D k → k < B) : RdV B w x v := by
  obtain ⟨h1, h2, h3, lv, h4, h5⟩ := h
  exact ⟨h1, h2, h3, lv, h4, h5.sl hB⟩

/-- the cells of a list of values, given the values of the lists within -/
def vcells : List V → List Value → List Value
  | x :: r, lv :: s => [.int .i64 x.kind, .int .i64 x.n, .string x.s, lv] ++ vcells r s
  | _, _ => []
theorem vcells_len : ∀ (l : List V) (lvs : List Value), l.length = lvs.length → (vcells l lvs).length = l.length * 4
  | [], [], _ => rfl
  | x :: r, lv :: s, h => by simp only [vcells, List.length_append, List.length_cons, List.length_nil, vcells_len r s (by simpa using h)]; omega
  | [], _ :: _, h => by simp at h
  | _ :: _, [], h => by simp at h
theorem vcells_append : ∀ (l : List V) (lvs : List Value) (x : V) (lv : Value), l.length = lvs.length → vcells (l ++ [x]) (lvs ++ [lv]) = vcells l lvs ++ [.int .i64 x.kind, .int .i64 x.n, .string x.s, lv]
  | [], [], _, _, _ => rfl
  | y :: r, lv :: s, x, l', h => by simp only [List.cons_append, vcells, vcells_append r s x l' (by simpa using h), List.append_assoc]
  | [], _ :: _, _, _, h => by simp at h
  | _ :: _, [], _, _, h => by simp at h
/-- each element is in range, and its list lies in D -/
def velems (D : Nat → Prop) (w : World) : List V → List Value → Prop
  | x :: r, lv :: s => (I64 x.kind ∧ I64 x.n ∧ x.s.size ≤ maxLen ∧ SlVD D w x.l lv) ∧ velems D w r s
  | [], [] => True
  | _, _ => False
theorem velems_keep {D D' : Nat → Prop} {w w' : World} (hB : ∀ k, D k → D' k) (hs : ∀ k, D k → w'.heap[k]? = w.heap[k]?) : ∀ (l : List V) (lvs : List Value), velems D w l lvs → velems D' w' l lvs
  | [], [], _ => trivial
  | _ :: r, _ :: s, h => ⟨⟨h.1.1, h.1.2.1, h.1.2.2.1, h.1.2.2.2.keep hB hs⟩, velems_keep hB hs r s h.2⟩
  | [], _ :: _, h => h.elim
  | _ :: _, [], h => h.elim
theorem velems_len {D : Nat → Prop} {w : World} : ∀ (l : List V) (lvs : List Value), velems D w l lvs → l.length = lvs.length
  | [], [], _ => rfl
  | _ :: r, _ :: s, h => by simp [velems_len r s h.2]
  | [], _ :: _, h => h.elim
  | _ :: _, [], h => h.elim
theorem velems_append {D : Nat → Prop} {w : World} : ∀ (l : List V) (lvs : List Value) (x : V) (lv : Value), velems D w l lvs → (I64 x.kind ∧ I64 x.n ∧ x.s.size ≤ maxLen ∧ SlVD D w x.l lv) → velems D w (l ++ [x]) (lvs ++ [lv])
  | [], [], _, _, _, h => ⟨h, trivial⟩
  | _ :: r, _ :: s, y, l', h, h' => ⟨h.1, velems_append r s y l' h.2 h'⟩
  | [], _ :: _, _, _, h, _ => h.elim
  | _ :: _, [], _, _, h, _ => h.elim

/-- a list of values that the call itself made -/
def OwnV (e : TypeId) (D : Nat → Prop) (w : World) (base : Nat) (v : Value) (l : List V) : Prop :=
  ∃ lvs, w.ownsRow base e 4 v l.length (vcells l lvs) ∧ velems D w l lvs ∧ l.length ≤ maxLen ∧ ∀ k, D k → some k ≠ v.ownBlock
theorem OwnV.nil (e : TypeId) (D : Nat → Prop) (w : World) (base : Nat) : OwnV e D w base (.slice none 0 0) [] :=
  ⟨[], World.ownsRow_nil w base e 4, trivial, by simp, by simp [Value.ownBlock]⟩
theorem OwnV.kept {e : TypeId} {D : Nat → Prop} {w w' : World} {base : Nat} {v : Value} {l : List V} {row : Option Nat} (h : OwnV e D w base v l) (hg : w.grownBy w' row) (hne : v.ownBlock = none ∨ v.ownBlock ≠ row) (hD : ∀ k, D k → some k ≠ row) (hlt : ∀ k, D k → k < w.heap.size) : OwnV e D w' base v l := by
  obtain ⟨lvs, h1, h2, h3, h4⟩ := h
  exact ⟨lvs, h1.kept hg hne, velems_keep (fun _ h => h) (fun k hk => hg.block k (hlt k hk) (hD k hk)) l lvs h2, h3, h4⟩

theorem atsD_of_cells {D : Nat → Prop} {w : World} {g : Nat} (hg : D g) : ∀ (l : List V) (lvs : List Value) (off : Nat), velems D w l lvs → (∀ j u, (vcells l lvs)[j]? = some u → w.cell? ⟨g, off + j, none⟩ = some u) → V.atsD D w l g off
  | [], [], _, _, _ => trivial
  | x :: r, lv :: s, off, h, hc => by
    obtain ⟨k, n, st, l⟩ := x
    obtain ⟨⟨h1, h2, h3, h4⟩, h5⟩ := h
    simp only [V.atsD, V.atD]
    refine ⟨⟨hg, h1, h2, h3, hc 0 _ rfl, hc 1 _ rfl, hc 2 _ rfl, lv, hc 3 _ rfl, h4⟩, atsD_of_cells hg r s (off + 4) h5 fun j u hj => ?_⟩
    rw [Nat.add_assoc]
    refine hc (4 + j) u ?_
    rw [Nat.add_comm 4 j]
    simpa [vcells] using hj
  | [], _ :: _, _, h, _ => h.elim
  | _ :: _, [], _, h, _ => h.elim
/-- a made list, read -/
theorem OwnV.sl {e : TypeId} {D D' : Nat → Prop} {w : World} {base : Nat} {v : Value} {l : List V} (h : OwnV e D w base v l) (hD : ∀ k, D k → D' k) (hv : ∀ g, v.ownBlock = some g → D' g) : SlVD D' w l v := by
  obtain ⟨lvs, h1, h2, h3, h4⟩ := h
  rcases h1.2 with ⟨rfl, h0⟩ | ⟨g, cap, cur, rfl, hb, hg, hn, hm, hcs, ht⟩
  · exact .inl ⟨List.eq_nil_of_length_eq_zero h0, none, 0, rfl⟩
  · by_cases hl : l = []
    · subst hl; exact .inl ⟨rfl, _, cap, rfl⟩
    · refine .inr ⟨hl, g, 0, cap, rfl, h3, ?_⟩
      refine atsD_of_cells (hv g rfl) l lvs 0 (velems_keep hD (fun _ _ => rfl) l lvs h2) fun j u hu => ?_
      have := World.ownsRow.cells h1 (g := g) rfl j u hu
      have hadd : (⟨g, 0, none⟩ : Addr).add j = ⟨g, j, none⟩ := by unfold Addr.add; split <;> simp_all
      rw [hadd] at this; rw [Nat.zero_add]; exact this

section
variable {P : Program} {w : World} {ops : Array Oper} {rest : List Oper} {o : Oper} {a : Act} {Q : Exit → Act → World → Prop}
/-- append of one value, which lies in a block of four cells -/
theorem step_append_V {K : Act → World → Prop} {E : Prop} {t e : TypeId} {z : Value} {bytes : Nat} (ht : P.underlying t = some (.slice e)) (he : (P.info? e).map (fun i => (i.zero, i.size, i.bytes)) = some (some z, 4, bytes)) (hzs : z.cells.size = 4) (hby : bytes ≤ 64)
    (hgd : o.guard = none) (s y : Operand) (ho : o.op = .call { callee := .builtin .append, args := #[s, y], argTypes := #[t, t] })
    (D : Nat → Prop) (base : Nat) (v : Value) (l : List V) (hs : a.eval s = v) (hown : OwnV e D w base v l)
    (B : Nat) (x : V) (lv : Value) (hx : a.eval y = .slice (some ⟨B, 0, none⟩) 1 1) (hsl : I64 x.kind ∧ I64 x.n ∧ x.s.size ≤ maxLen ∧ SlVD D w x.l lv) (h1 : lv.oneCell' = true)
    (hc : w.cell? ⟨B, 0, none⟩ = some (.int .i64 x.kind) ∧ w.cell? ⟨B, 1, none⟩ = some (.int .i64 x.n) ∧ w.cell? ⟨B, 2, none⟩ = some (.string x.s) ∧ w.cell? ⟨B, 3, none⟩ = some lv)
    (hl : l.length ≤ 1000000) (hbase : base ≤ w.heap.size) (hD : ∀ k, D k → k < w.heap.size)
    (h : ∀ v' w', OwnV e D w' base v' (l ++ [x]) → w.grownBy w' v.ownBlock → Next w v v' → K (a.put o.dst v') w') :
    if Region.wanted o (yielded ops a.tmps) = true then Oper.wp P o a w K Q else E := by
  obtain ⟨lvs, h2, h3, h4, h5⟩ := hown
  have hlen := velems_len l lvs h3
  have hsrc : Src P 4 t (.slice (some ⟨B, 0, none⟩) 1 1) 1 [.int .i64 x.kind, .int .i64 x.n, .string x.s, lv] w := by
    refine Src.ofSlice (P := P) w ht ⟨B, 0, none⟩ 1 1 _ rfl (fun j u hu => ?_) (fun u hu => ?_)
    · match j, hu with
      | 0, hu => simp at hu; subst hu; simpa [Addr.add] using hc.1
      | 1, hu => simp at hu; subst hu; simpa [Addr.add] using hc.2.1
      | 2, hu => simp at hu; subst hu; simpa [Addr.add] using hc.2.2.1
      | 3, hu => simp at hu; subst hu; simpa [Addr.add] using hc.2.2.2
    · simp at hu; rcases hu with rfl | rfl | rfl | rfl
      · rfl
      · rfl
      · rfl
      · exact h1
  refine step_append_x ht he hzs hgd s y ho base v l.length (vcells l lvs) hs h2 _ 1 _ hx hsrc (by unfold maxLen; omega) ?_ hbase fun v' w' g1 g2 g3 => h v' w' ⟨lvs ++ [lv], ?_, ?_, by unfold maxLen; simp; omega, ?_⟩ g2 g3
  · calc (l.length + 1) * bytes ≤ (l.length + 1) * 64 := Nat.mul_le_mul_left _ hby
      _ ≤ _ := by omega
  · rw [vcells_append l lvs x lv hlen, List.length_append]; exact g1
  · refine velems_keep (fun _ h => h) (fun k hk => g2.block k (hD k hk) (h5 k hk)) _ _ (velems_append l lvs x lv h3 hsl)
  · intro k hk he
    rcases g3 with g3 | g3
    · exact h5 k hk (he.trans g3)
    · have := g3 k he.symm; have := hD k hk; omega
end
end Go.Proofs.Ytlocilbcmcfmaaa
/- codec.reader: value. -/
namespace Go.Proofs.Ytlocilbcmcfmaaa
open Go.RowKit

/-- so many values that are read, one after the other -/
def rdVs (f : List UInt8 → Option (V × List UInt8)) : Nat → List UInt8 → Option (List V × List UInt8)
  | 0, l => some ([], l)
  | n + 1, l => match rdVs f n l with
    | some (xs, r) => (match f r with | some (x, r') => some (xs ++ [x], r') | none => none)
    | none => none
/-- a value that is read; d: how many lists may lie within each other -/
def rdV : Nat → List UInt8 → Option (V × List UInt8)
  | d, l => match l with
    | [] => none
    | c :: r =>
      if c = 1 then (match rdNum 0 0 r with | some (u, r') => some (.mk 1 (sgn u) ⟨#[]⟩ [], r') | none => none)
      else if c = 2 then (match rdLen r with | some (n, r') => some (.mk 2 0 ⟨(r'.take n).toArray⟩ [], r'.drop n) | none => none)
      else if c = 3 then (match d with
        | 0 => none
        | d + 1 => (match rdLen r with | some (n, r') => (match rdVs (rdV d) n r' with | some (xs, r'') => some (.mk 3 0 ⟨#[]⟩ xs, r'') | none => none) | none => none))
      else none

def ValPost (B R : Nat) (o : Option (V × List UInt8)) (w : World) (e : Ending) (w' : World) : Prop :=
  match o with
  | some (x, r) => ∃ v, e = .returned v ∧ RdVD (fun k => w.heap.size ≤ k ∧ k < w'.heap.size) w' x v ∧ RdrAt B w' R r ∧ w.grownBy w' (some R)
  | none => e = .panicked badChain ∧ w.grownBy w' (some R)

def ValSaid (d : Nat) : Prop := ∀ (B R : Nat) (l : List UInt8) (di : Int) (_ : di = 16 - (d : Int)) (_ : l.length ≤ 1000000) (w : World) (_ : RdrAt B w R l) (_ : R < w.heap.size),
  Calls Try.prog 39 #[.pointer (some ⟨R, 0, none⟩), .int .i64 di] w (ValPost B R (rdV d l) w)

theorem RdrAt.keep {B R : Nat} {w w' : World} {l : List UInt8} (h : RdrAt B w R l) (hs : ∀ k, k ≤ R → w'.heap[k]? = w.heap[k]?) : RdrAt B w' R l := by
  obtain ⟨hle, hfr, v, hv, hb⟩ := h
  exact ⟨hle, by rw [World.frozen?_of_block (w := w) (hs R (Nat.le_refl _))]; exact hfr, v, by rw [World.cell?_of_block (w := w) (hs R (Nat.le_refl _))]; exact hv, hb.keep (Nat.le_refl _) fun k hk => hs k (by omega)⟩

/-- a value of the call's own, field by field -/
structure BoxAt (w : World) (T : Nat) (a b c d : Value) : Prop where
  c0 : w.cell? ⟨T, 0, none⟩ = some a
  c1 : w.cell? ⟨T, 1, none⟩ = some b
  c2 : w.cell? ⟨T, 2, none⟩ = some c
  c3 : w.cell? ⟨T, 3, none⟩ = some d
  fr : ∀ o, w.frozen? ⟨T, o, none⟩ = false
theorem BoxAt.grown {w w2 : World} {T R : Nat} {a b c d : Value} (h : BoxAt w T a b c d) (hg : w.grownBy w2 (some R)) (hR : R ≠ T) : BoxAt w2 T a b c d := by
  have hne : some T ≠ some R := fun e => hR (by injection e with e; exact e.symm)
  have hlt := World.block_lt_of_cell? w _ h.c0
  exact ⟨hg.cell h.c0 hne, hg.cell h.c1 hne, hg.cell h.c2 hne, hg.cell h.c3 hne, fun o => by rw [World.frozen?_of_block (w := w) (hg.block T hlt hne)]; exact h.fr o⟩
theorem BoxAt.made (w : World) (t : TypeId) (a b c d : Value) : BoxAt (w.alloc (.cells #[a, b, c, d] t)) w.heap.size a b c d :=
  ⟨by simp, by simp, by simp, by simp, fun o => World.frozen?_alloc_at _ _ _ _ rfl⟩

theorem RdrAt.set {B R T i : Nat} {w : World} {l : List UInt8} {v : Value} (h : RdrAt B w R l) (hT : R < T) : RdrAt B (w.setCell ⟨T, i, none⟩ v) R l :=
  h.keep fun k hk => Below.heap_setCell _ _ _ _ (by show k ≠ T; omega)
theorem rdV_nil (d : Nat) : rdV d [] = none := by cases d <;> simp [rdV]
theorem rdV_1 (d : Nat) (r : List UInt8) : rdV d (1 :: r) = match rdNum 0 0 r with | some (u, r') => some (.mk 1 (sgn u) ⟨#[]⟩ [], r') | none => none := by cases d <;> simp [rdV]
theorem rdV_2 (d : Nat) (r : List UInt8) : rdV d (2 :: r) = match rdLen r with | some (n, r') => some (.mk 2 0 ⟨(r'.take n).toArray⟩ [], r'.drop n) | none => none := by cases d <;> simp [rdV]
theorem rdV_30 (r : List UInt8) : rdV 0 (3 :: r) = none := by simp [rdV]
theorem rdV_3 (d : Nat) (r : List UInt8) : rdV (d + 1) (3 :: r) = match rdLen r with | some (n, r') => (match rdVs (rdV d) n r' with | some (xs, r'') => some (.mk 3 0 ⟨#[]⟩ xs, r'') | none => none) | none => none := by simp [rdV]
theorem rdV_bad (d : Nat) (c : UInt8) (r : List UInt8) (h1 : c ≠ 1) (h2 : c ≠ 2) (h3 : c ≠ 3) : rdV d (c :: r) = none := by cases d <;> simp [rdV, h1, h2, h3]

/-- what is known where value begins to look at the first byte -/
theorem value_head (B R : Nat) (c : UInt8) (r : List UInt8) (hl : (c :: r).length ≤ 1000000) (w : World) (hr : RdrAt B w R (c :: r)) (hRw : R < w.heap.size) (ob : Obj) :
    Calls Try.prog 53 #[.pointer (some ⟨R, 0, none⟩), .int .i64 1] (w.alloc ob) fun e w1 =>
      ∃ b off cap v', e = .returned (.slice (some ⟨b, off, none⟩) 1 cap) ∧ w1 = (w.alloc ob).setCell ⟨R, 0, none⟩ v' ∧ R ≠ b ∧ b < w.heap.size ∧ w.cell? ⟨b, off, none⟩ = some (.int .u8 (c.toNat : Int)) ∧ RdrAt B (w.setCell ⟨R, 0, none⟩ v') R r := by
  have hrA : RdrAt B (w.alloc ob) R (c :: r) := hr.keep fun k hk => Below.heap_alloc w _ k (by omega)
  refine (take_ok B R (c :: r) 1 1 rfl _ hrA (by simp) hl).mono ?_
  rintro e w1 ⟨v, v', rfl, hv, hv', rfl⟩
  have hBR := hr.le
  have hback : ∀ k, k < B → w.heap[k]? = (w.alloc ob).heap[k]? := fun k hk => (Below.heap_alloc w _ k (by omega)).symm
  have hv2 := hv'.keep (w' := w) (Nat.le_refl B) hback
  have hv1 := hv.keep (w' := w) (Nat.le_refl B) hback
  rcases hv1 with ⟨h, _⟩ | ⟨_, b, off, cap, rfl, _, _, h4, h5⟩
  · cases h
  · exact ⟨b, off, cap, v', rfl, rfl, by omega, by omega, by simpa using h5 0 c rfl, hr.took (by simpa using hv2)⟩

theorem rdLen_len {l r : List UInt8} {n : Nat} (h : rdLen l = some (n, r)) : n ≤ r.length ∧ r.length < l.length := by
  unfold rdLen at h
  cases hN : rdNum 0 0 l with
  | none => rw [hN] at h; cases h
  | some p =>
    obtain ⟨m, t⟩ := p
    rw [hN] at h
    simp only at h
    split at h
    · rename_i hm
      simp at h; obtain ⟨rfl, rfl⟩ := h
      exact ⟨hm, rdNum_len l 0 0 _ _ hN⟩
    · cases h
theorem sgn_I64 (u : Nat) (h : u < 18446744073709551616) : I64 (sgn u) := by unfold I64 sgn; split <;> omega
set_option maxRecDepth 100000 in
set_option maxHeartbeats 1000000 in
theorem value_1 (d : Nat) (B R : Nat) (r : List UInt8) (di : Int) (hl : (1 :: r).length ≤ 1000000) (w : World) (hr : RdrAt B w R (1 :: r)) (hRw : R < w.heap.size) :
    Calls Try.prog 39 #[.pointer (some ⟨R, 0, none⟩), .int .i64 di] w (ValPost B R (rdV d (1 :: r)) w) := by
  have HR := Lib.hid hr; clear hr
  have hrl : r.length ≤ 1000000 := by simp at hl; omega
  have hv := Lib.hid (rdV_1 d r)
  cases hN : rdNum 0 0 r with
  | none =>
    have hn : Hid (rdV d (1 :: r) = none) := by show _ = _; rw [hv.out, hN]
    have HN := Lib.hid hN; clear hN
    go_enter Try.func39, Try.ntmps39
    go_wp2_with (first
      | (go_at_call 53; refine (value_head B R 1 r hl w HR.out hRw _).mono ?_; rintro e w1 ⟨b, off, cap, v', rfl, rfl, hbR, hbw, hc, hrd⟩))
    have hszw : (w.setCell ⟨R, 0, none⟩ v').heap.size = w.heap.size := by simp [World.setCell]
    refine (number_any B R r hrl _ (hrd.keep fun k hk => Below.heap_alloc _ _ k (by omega))).mono ?_
    rw [HN.out]
    rintro e w2 ⟨rfl, hg⟩
    exact ⟨rfl, by rw [hn.out]; exact And.intro rfl (grown_trans (grown_alloc (setCell_grown w R v') _) hg (.inl rfl))⟩
  | some p =>
    obtain ⟨u, r'⟩ := p
    have hn : Hid (rdV d (1 :: r) = some (.mk 1 (sgn u) ⟨#[]⟩ [], r')) := by show _ = _; rw [hv.out, hN]
    have hu64 := Lib.hid (rdNum_lt r 0 0 u r' (by decide) (by simp) hN)
    have HN := Lib.hid hN; clear hN
    go_enter Try.func39, Try.ntmps39
    go_wp2_with (first
      | (go_at_call 53; refine (value_head B R 1 r hl w HR.out hRw _).mono ?_; rintro e w1 ⟨b, off, cap, v', rfl, rfl, hbR, hbw, hc, hrd⟩))
    have hszw : (w.setCell ⟨R, 0, none⟩ v').heap.size = w.heap.size := by simp [World.setCell]
    refine (number_any B R r hrl _ (hrd.keep fun k hk => Below.heap_alloc _ _ k (by omega))).mono ?_
    rw [HN.out]
    rintro e w2 ⟨rfl, hrd2, hg⟩
    have hbx := (BoxAt.made (w.setCell ⟨R, 0, none⟩ v') 54 (.int .i64 1) (.int .i64 0) (.string ⟨#[]⟩) (.slice none 0 0)).grown hg (by omega)
    rw [hszw] at hbx
    obtain ⟨x0, x1, x2, x3, xf⟩ := hbx
    have hgw : w.grownBy w2 (some R) := grown_trans (grown_alloc (setCell_grown w R v') _) hg (.inl rfl)
    have hszw2 := hgw.size
    clear hg
    go_wp2_with (first | (go_at_call 54; refine (signed_any u hu64 _).mono ?_; rintro e w' ⟨rfl, rfl⟩))
    have hI := Lib.hid (sgn_I64 u hu64.out)
    refine bodyPost_ret (v := .agg #[.int .i64 1, .int .i64 (sgn u), .string ⟨#[]⟩, .slice none 0 0]) (by simp [results, Try.results39, go_sem, x0, x1, x2, x3]) rfl ?_
    rw [hn.out]
    exact ⟨_, rfl, ⟨by show I64 1; unfold I64; omega, hI.out, Nat.zero_le maxLen, _, rfl, .inl ⟨rfl, none, 0, rfl⟩⟩, by repeat (first | exact hrd2 | refine RdrAt.set ?_ hRw), by repeat (first | exact hgw | refine grown_set_new ?_ (Nat.le_refl _))⟩
end Go.Proofs.Ytlocilbcmcfmaaa
/- codec.reader: value, texts. -/
namespace Go.Proofs.Ytlocilbcmcfmaaa
open Go.RowKit

set_option maxRecDepth 100000 in
set_option maxHeartbeats 1000000 in
theorem value_2 (d : Nat) (B R : Nat) (r : List UInt8) (di : Int) (hl : (2 :: r).length ≤ 1000000) (w : World) (hr : RdrAt B w R (2 :: r)) (hRw : R < w.heap.size) :
    Calls Try.prog 39 #[.pointer (some ⟨R, 0, none⟩), .int .i64 di] w (ValPost B R (rdV d (2 :: r)) w) := by
  have HR := Lib.hid hr; clear hr
  have hrl : r.length ≤ 1000000 := by simp at hl; omega
  have hv := Lib.hid (rdV_2 d r)
  cases hN : rdLen r with
  | none =>
    have hn : Hid (rdV d (2 :: r) = none) := by show _ = _; rw [hv.out, hN]
    have HN := Lib.hid hN; clear hN
    go_enter Try.func39, Try.ntmps39
    go_wp2_with (first
      | (go_at_call 53; refine (value_head B R 2 r hl w HR.out hRw _).mono ?_; rintro e w1 ⟨b, off, cap, v', rfl, rfl, hbR, hbw, hc, hrd⟩))
    have hszw : (w.setCell ⟨R, 0, none⟩ v').heap.size = w.heap.size := by simp [World.setCell]
    refine (length_any B R r hrl _ (hrd.keep fun k hk => Below.heap_alloc _ _ k (by omega))).mono ?_
    rw [HN.out]
    rintro e w2 ⟨rfl, hg⟩
    exact ⟨rfl, by rw [hn.out]; exact And.intro rfl (grown_trans (grown_alloc (setCell_grown w R v') _) hg (.inl rfl))⟩
  | some p =>
    obtain ⟨n, r'⟩ := p
    have hn : Hid (rdV d (2 :: r) = some (.mk 2 0 ⟨(r'.take n).toArray⟩ [], r'.drop n)) := by show _ = _; rw [hv.out, hN]
    have hlen := rdLen_len hN
    have HN := Lib.hid hN; clear hN
    go_enter Try.func39, Try.ntmps39
    go_wp2_with (first
      | (go_at_call 53; refine (value_head B R 2 r hl w HR.out hRw _).mono ?_; rintro e w1 ⟨b, off, cap, v', rfl, rfl, hbR, hbw, hc, hrd⟩))
    have hszw : (w.setCell ⟨R, 0, none⟩ v').heap.size = w.heap.size := by simp [World.setCell]
    refine (length_any B R r hrl _ (hrd.keep fun k hk => Below.heap_alloc _ _ k (by omega))).mono ?_
    rw [HN.out]
    rintro e w2 ⟨rfl, hrd2, hg⟩
    have hbx := (BoxAt.made (w.setCell ⟨R, 0, none⟩ v') 54 (.int .i64 2) (.int .i64 0) (.string ⟨#[]⟩) (.slice none 0 0)).grown hg (by omega)
    rw [hszw] at hbx
    have hgw : w.grownBy w2 (some R) := grown_trans (grown_alloc (setCell_grown w R v') _) hg (.inl rfl)
    clear hg hc hrd
    go_wp2_with (first | (go_at_call 53; refine (take_ok B R r' n _ rfl _ hrd2 hlen.1 (by omega)).mono ?_; rintro e w3 ⟨v3, v4, rfl, hv3, hv4, rfl⟩))
    have hcv := run_conv_bts (P := Try.prog) Try.underlying46 Try.underlying5 Try.underlying9 (hv3.keep (w' := w2.setCell ⟨R, 0, none⟩ v4) (Nat.le_refl B) fun k hk => Below.heap_setCell _ _ _ _ (by have := hrd2.le; show k ≠ R; omega))
    obtain ⟨x0, x1, x2, x3, xf⟩ := hbx.grown (setCell_grown w2 R v4) (by omega)
    have hrd3 := hrd2.took hv4
    have hgw3 := grown_trans hgw (setCell_grown w2 R v4) (.inl rfl)
    clear hv3 hv4 hbx hgw hrd2
    rw [hcv]
    clear hcv
    generalize w2.setCell ⟨R, 0, none⟩ v4 = w3 at *
    have hsz3 := hgw3.size
    go_wp2
    refine bodyPost_ret (v := .agg #[.int .i64 2, .int .i64 0, .string ⟨(List.take n r').toArray⟩, .slice none 0 0]) (by simp [results, Try.results39, go_sem, x0, x1, x2, x3]) rfl ?_
    rw [hn.out]
    exact ⟨_, rfl, ⟨by show I64 2; unfold I64; omega, by show I64 0; unfold I64; omega, by show (List.take n r').toArray.size ≤ maxLen; simp; unfold maxLen; omega, _, rfl, .inl ⟨rfl, none, 0, rfl⟩⟩, by repeat (first | exact hrd3 | refine RdrAt.set ?_ hRw), by repeat (first | exact hgw3 | refine grown_set_new ?_ (Nat.le_refl _))⟩
end Go.Proofs.Ytlocilbcmcfmaaa
/- codec.reader: value, lists and what is none. -/
namespace Go.Proofs.Ytlocilbcmcfmaaa
open Go.RowKit

set_option maxRecDepth 100000 in
set_option maxHeartbeats 1000000 in
theorem value_0 (d : Nat) (B R : Nat) (c : UInt8) (r : List UInt8) (di : Int) (hl : (c :: r).length ≤ 1000000) (w : World) (hr : RdrAt B w R (c :: r)) (hRw : R < w.heap.size) (h1 : c ≠ 1) (h2 : c ≠ 2) (h3 : c ≠ 3) :
    Calls Try.prog 39 #[.pointer (some ⟨R, 0, none⟩), .int .i64 di] w (ValPost B R (rdV d (c :: r)) w) := by
  have HR := Lib.hid hr; clear hr
  have hn := Lib.hid (rdV_bad d c r h1 h2 h3)
  have n1 : ((c.toNat : Int) == 1) = false := by rw [beq_eq_false_iff_ne]; intro h; exact h1 (UInt8.toNat_inj.1 (by simpa using (by omega : c.toNat = 1)))
  have n2 : ((c.toNat : Int) == 2) = false := by rw [beq_eq_false_iff_ne]; intro h; exact h2 (UInt8.toNat_inj.1 (by simpa using (by omega : c.toNat = 2)))
  have n3 : ((c.toNat : Int) == 3) = false := by rw [beq_eq_false_iff_ne]; intro h; exact h3 (UInt8.toNat_inj.1 (by simpa using (by omega : c.toNat = 3)))
  clear h1 h2 h3
  have hcb : (c.toNat : Int) ≤ 255 := by have := c.toNat_lt; omega
  go_enter Try.func39, Try.ntmps39
  go_wp2_with (first
    | (go_at_call 53; refine (value_head B R c r hl w HR.out hRw _).mono ?_; rintro e w1 ⟨b, off, cap, v', rfl, rfl, hbR, hbw, hc, hrd⟩))
  refine (want_false _ _).mono ?_
  rintro e w' ⟨rfl, rfl⟩
  exact ⟨rfl, by rw [hn.out]; exact And.intro rfl (grown_alloc (setCell_grown w R v') _)⟩

end Go.Proofs.Ytlocilbcmcfmaaa
/- codec.reader: value, the loop over a list. -/
namespace Go.Proofs.Ytlocilbcmcfmaaa
open Go.RowKit

def ListRel (B R T : Nat) (d n : Nat) (w : World) (r0 : List UInt8) (i : Value) (wr : World) : Prop :=
  ∃ (k : Nat) (xs : List V) (r : List UInt8) (lv : Value), k ≤ n ∧ i = .int .i64 k ∧ rdVs (rdV d) k r0 = some (xs, r) ∧ xs.length = k ∧ r.length ≤ 1000000 ∧ BoxAt wr T (.int .i64 3) (.int .i64 0) (.string ⟨#[]⟩) lv ∧
    (∃ oa cap, lv = .slice oa k cap) ∧ OwnV 54 (fun g => T < g ∧ some g ≠ lv.ownBlock ∧ g < wr.heap.size) wr (T + 1) lv xs ∧ RdrAt B wr R r ∧ w.grownBy wr (some R)

theorem rdVs_le (f : List UInt8 → Option (V × List UInt8)) : ∀ (n k : Nat) (l : List UInt8), k ≤ n → rdVs f k l = none → rdVs f n l = none
  | 0, k, l, hk, h => by obtain rfl : k = 0 := by omega
                         exact h
  | n + 1, k, l, hk, h => by
    by_cases he : k = n + 1
    · subst he; exact h
    · simp only [rdVs, rdVs_le f n k l (by omega) h]
theorem rdVs_none (f : List UInt8 → Option (V × List UInt8)) (n k : Nat) (l r : List UInt8) (xs : List V) (hk : k < n) (h : rdVs f k l = some (xs, r)) (hr : f r = none) : rdVs f n l = none :=
  rdVs_le f n (k + 1) l (by omega) (by simp only [rdVs, h, hr])
theorem rdVs_some (f : List UInt8 → Option (V × List UInt8)) (k : Nat) (l r r' : List UInt8) (xs : List V) (x : V) (h : rdVs f k l = some (xs, r)) (hr : f r = some (x, r')) : rdVs f (k + 1) l = some (xs ++ [x], r') := by
  simp only [rdVs, h, hr]
theorem OwnV.own_lt {e : TypeId} {D : Nat → Prop} {w : World} {base : Nat} {v : Value} {l : List V} (h : OwnV e D w base v l) (g : Nat) (hg : v.ownBlock = some g) : base ≤ g ∧ g < w.heap.size := by
  obtain ⟨lvs, h1, h2, h3, h4⟩ := h
  rcases h1.2 with ⟨rfl, h0⟩ | ⟨g', cap, cur, rfl, hb, hgb, hn, hm, hcs, ht⟩
  · simp [Value.ownBlock] at hg
  · simp [Value.ownBlock] at hg; subst hg
    exact ⟨hb, by
      rcases Nat.lt_or_ge g' w.heap.size with hx | hx
      · exact hx
      · rw [Array.getElem?_eq_none hx] at hgb; cases hgb⟩

theorem rdVs_len (f : List UInt8 → Option (V × List UInt8)) (hf : ∀ l x r, f l = some (x, r) → r.length < l.length) : ∀ (n : Nat) (l : List UInt8) (xs : List V) (r : List UInt8), rdVs f n l = some (xs, r) → r.length ≤ l.length
  | 0, l, xs, r, h => by simp [rdVs] at h; obtain ⟨rfl, rfl⟩ := h; exact Nat.le_refl _
  | n + 1, l, xs, r, h => by
    simp only [rdVs] at h
    cases hN : rdVs f n l with
    | none => rw [hN] at h; cases h
    | some p =>
      obtain ⟨ys, t⟩ := p
      rw [hN] at h; simp only at h
      cases hM : f t with
      | none => rw [hM] at h; cases h
      | some q =>
        obtain ⟨y, t'⟩ := q
        rw [hM] at h; simp at h
        obtain ⟨_, rfl⟩ := h
        have := rdVs_len f hf n l ys t hN
        have := hf t y t' hM
        omega
theorem rdV_len : ∀ (d : Nat) (l : List UInt8) (x : V) (r : List UInt8), rdV d l = some (x, r) → r.length < l.length := by
  intro d
  induction d with
  | zero =>
    intro l x r h
    cases l with
    | nil => rw [rdV_nil] at h; cases h
    | cons c t =>
      by_cases h1 : c = 1
      · subst h1; rw [rdV_1] at h
        cases hN : rdNum 0 0 t with
        | none => rw [hN] at h; cases h
        | some p => obtain ⟨u, t'⟩ := p; rw [hN] at h; simp at h; obtain ⟨_, rfl⟩ := h; have := rdNum_len t 0 0 _ _ hN; simp; omega
      · by_cases h2 : c = 2
        · subst h2; rw [rdV_2] at h
          cases hN : rdLen t with
          | none => rw [hN] at h; cases h
          | some p => obtain ⟨u, t'⟩ := p; rw [hN] at h; simp at h; obtain ⟨_, rfl⟩ := h; have := rdLen_len hN; simp; omega
        · by_cases h3 : c = 3
          · subst h3; rw [rdV_30] at h; cases h
          · rw [rdV_bad 0 c t h1 h2 h3] at h; cases h
  | succ d ih =>
    intro l x r h
    cases l with
    | nil => rw [rdV_nil] at h; cases h
    | cons c t =>
      by_cases h1 : c = 1
      · subst h1; rw [rdV_1] at h
        cases hN : rdNum 0 0 t with
        | none => rw [hN] at h; cases h
        | some p => obtain ⟨u, t'⟩ := p; rw [hN] at h; simp at h; obtain ⟨_, rfl⟩ := h; have := rdNum_len t 0 0 _ _ hN; simp; omega
      · by_cases h2 : c = 2
        · subst h2; rw [rdV_2] at h
          cases hN : rdLen t with
          | none => rw [hN] at h; cases h
          | some p => obtain ⟨u, t'⟩ := p; rw [hN] at h; simp at h; obtain ⟨_, rfl⟩ := h; have := rdLen_len hN; simp; omega
        · by_cases h3 : c = 3
          · subst h3; rw [rdV_3] at h
            cases hN : rdLen t with
            | none => rw [hN] at h; cases h
            | some p =>
              obtain ⟨n, t'⟩ := p; rw [hN] at h; simp only at h
              cases hM : rdVs (rdV d) n t' with
              | none => rw [hM] at h; cases h
              | some q =>
                obtain ⟨xs, t2⟩ := q; rw [hM] at h; simp at h; obtain ⟨_, rfl⟩ := h
                have := rdLen_len hN
                have := rdVs_len (rdV d) ih n t' xs t2 hM
                simp; omega
          · rw [rdV_bad (d + 1) c t h1 h2 h3] at h; cases h
theorem OwnV.mono {e : TypeId} {D D' : Nat → Prop} {w : World} {base : Nat} {v : Value} {l : List V} (h : OwnV e D w base v l) (hB : ∀ k, D k → D' k) (h4 : ∀ k, D' k → some k ≠ v.ownBlock) : OwnV e D' w base v l := by
  obtain ⟨lvs, h1, h2, h3, _⟩ := h
  exact ⟨lvs, h1, velems_keep hB (fun _ _ => rfl) l lvs h2, h3, h4⟩
theorem OwnV.shape {e : TypeId} {D : Nat → Prop} {w : World} {base : Nat} {v : Value} {l : List V} (h : OwnV e D w base v l) : ∃ oa cap, v = .slice oa l.length cap := by
  obtain ⟨lvs, h1, h2, h3, _⟩ := h
  rcases h1.2 with ⟨rfl, h0⟩ | ⟨g, cap, cur, rfl, _⟩
  · exact ⟨none, 0, by rw [h0]⟩
  · exact ⟨_, cap, rfl⟩
theorem SlVD.one {D : Nat → Prop} {w : World} {l : List V} {lv : Value} (h : SlVD D w l lv) : lv.oneCell' = true := by
  rcases h with ⟨_, oa, cap, rfl⟩ | ⟨_, c, o, cap, rfl, _⟩ <;> rfl
/-- a round of the list's loop: what stands behind it -/
theorem listRel_next {B R T d n k : Nat} {w wr w9 w' : World} {r0 r3 : List UInt8} {x : V} {xs : List V} {oa oa2 : Option Addr} {cp cp2 : Nat} (hT : T = w.heap.size) (hRT : R < T) (hkn : k < n) (hxl : xs.length = k)
    (hn : rdVs (rdV d) (k + 1) r0 = some (xs ++ [x], r3)) (hr3 : r3.length ≤ 1000000) (hbx : BoxAt wr T (.int .i64 3) (.int .i64 0) (.string ⟨#[]⟩) (.slice oa k cp))
    (hg3 : w.grownBy wr (some R)) (hTw : T < wr.heap.size) (hg9 : wr.grownBy w9 (some R)) (hrd9 : RdrAt B w9 R r3) (ob : Obj)
    (hown0 : ∀ g, (Value.slice oa k cp).ownBlock = some g → T + 1 ≤ g ∧ g < wr.heap.size)
    (ho : OwnV 54 (fun g => T < g ∧ some g ≠ (Value.slice oa k cp).ownBlock ∧ g < (w9.alloc ob).heap.size) w' (T + 1) (.slice oa2 (xs ++ [x]).length cp2) (xs ++ [x])) (hg : (w9.alloc ob).grownBy w' (Value.slice oa k cp).ownBlock) :
    ListRel B R T d n w r0 (.int .i64 ((k : Int) + 1)) (w'.setCell ⟨T, 3, none⟩ (.slice oa2 (xs ++ [x]).length cp2)) := by
  have hl : (xs ++ [x]).length = k + 1 := by simp [hxl]
  have hTo : some T ≠ (Value.slice oa k cp).ownBlock := fun e => by have := hown0 _ e.symm; omega
  have hRo : ∀ j, j ≤ R → some j ≠ (Value.slice oa k cp).ownBlock := fun j hj e => by have := hown0 _ e.symm; omega
  have hs9 := hg9.size
  have hs' := hg.size
  have hbx9 := hbx.grown hg9 (by omega)
  have hTa : T < (w9.alloc ob).heap.size := by simp; omega
  have cl : ∀ i, w'.cell? ⟨T, i, none⟩ = w9.cell? ⟨T, i, none⟩ := fun i => World.cell?_of_block (w := w9) ((hg.block T hTa hTo).trans (Below.heap_alloc w9 ob T (by omega)))
  have fl : ∀ i, w'.frozen? ⟨T, i, none⟩ = w9.frozen? ⟨T, i, none⟩ := fun i => World.frozen?_of_block (w := w9) ((hg.block T hTa hTo).trans (Below.heap_alloc w9 ob T (by omega)))
  have hwg : w.grownBy w' (some R) := grown_trans (grown_alloc (grown_trans hg3 hg9 (.inl rfl)) ob) hg (.inr fun g hg => by have := hown0 g hg; omega)
  rw [hl] at ho ⊢
  have hob := OwnV.own_lt ho
  refine ⟨k + 1, xs ++ [x], r3, .slice oa2 (k + 1) cp2, by omega, by simp, hn, hl, hr3, ?_, ⟨oa2, cp2, rfl⟩, ?_, ?_, grown_set_new hwg (by omega)⟩
  · refine ⟨?_, ?_, ?_, ?_, ?_⟩
    · rw [World.cell?_setCell_other _ _ _ _ (by simp), cl 0]; exact hbx9.c0
    · rw [World.cell?_setCell_other _ _ _ _ (by simp), cl 1]; exact hbx9.c1
    · rw [World.cell?_setCell_other _ _ _ _ (by simp), cl 2]; exact hbx9.c2
    · exact World.cell?_setCell_same' _ _ _ (by rw [cl 3, hbx9.c3]; rfl)
    · intro o; rw [World.frozen?_setCell, fl o]; exact hbx9.fr o
  · obtain ⟨lvs, _, _, _, hd4⟩ := id ho
    refine ((OwnV.kept ho (grown_setT w' T 3 _) (.inr fun e => by have := hob T e; omega) (fun j hj e => by injection e with e; have := hj.1; omega) (fun j hj => by have := hj.2.2; omega))).mono (fun j hj => ⟨hj.1, hd4 j hj, by have := hj.2.2; simp [World.setCell]; omega⟩) ?_
    exact fun j hj => hj.2.1
  · refine RdrAt.set ?_ hRT
    exact hrd9.keep fun j hj => (hg.block j (by simp; omega) (hRo j hj)).trans (Below.heap_alloc w9 ob j (by omega))
set_option maxRecDepth 100000 in
set_option maxHeartbeats 4000000 in
theorem value_3 (d : Nat) (hd : d ≤ 16) (ih : ∀ d', d = d' + 1 → ValSaid d') (B R : Nat) (r : List UInt8) (hl : (3 :: r).length ≤ 1000000) (w : World) (hr : RdrAt B w R (3 :: r)) (hRw : R < w.heap.size) :
    Calls Try.prog 39 #[.pointer (some ⟨R, 0, none⟩), .int .i64 (16 - (d : Int))] w (ValPost B R (rdV d (3 :: r)) w) := by
  have HR := Lib.hid hr; clear hr
  have IH := Lib.hid ih; clear ih
  have hrl : r.length ≤ 1000000 := by simp at hl; omega
  cases d with
  | zero =>
    have hn := Lib.hid (rdV_30 r)
    go_enter Try.func39, Try.ntmps39
    go_wp2_with (first
      | (go_at_call 53; refine (value_head B R 3 r hl w HR.out hRw _).mono ?_; rintro e w1 ⟨b, off, cap, v', rfl, rfl, hbR, hbw, hc, hrd⟩)
      | (go_at_call 40; refine (want_false _ _).mono ?_; rintro e w' ⟨rfl, rfl⟩))
    exact ⟨rfl, by rw [hn.out]; exact And.intro rfl (grown_alloc (setCell_grown w R v') _)⟩
  | succ d =>
    have hd' : d ≤ 15 := by omega
    have hv := Lib.hid (rdV_3 d r)
    have hdt : decide ((16 - ((d : Int) + 1)) < 16) = true := by simp; omega
    cases hN : rdLen r with
    | none =>
      have hn : Hid (rdV (d + 1) (3 :: r) = none) := by show _ = _; rw [hv.out, hN]
      have HN := Lib.hid hN; clear hN
      go_enter Try.func39, Try.ntmps39
      go_wp2_with (first
        | (go_at_call 53; refine (value_head B R 3 r hl w HR.out hRw _).mono ?_; rintro e w1 ⟨b, off, cap, v', rfl, rfl, hbR, hbw, hc, hrd⟩)
        | (go_at_call 40; refine (want_true _ _).mono ?_; rintro e w' ⟨rfl, rfl⟩))
      have hszw : (w.setCell ⟨R, 0, none⟩ v').heap.size = w.heap.size := by simp [World.setCell]
      refine (length_any B R r hrl _ (hrd.keep fun k hk => Below.heap_alloc _ _ k (by omega))).mono ?_
      rw [HN.out]
      rintro e w2 ⟨rfl, hg⟩
      exact ⟨rfl, by rw [hn.out]; exact And.intro rfl (grown_trans (grown_alloc (setCell_grown w R v') _) hg (.inl rfl))⟩
    | some p =>
      obtain ⟨n, r'⟩ := p
      have hlen := rdLen_len hN
      have HN := Lib.hid hN; clear hN
      go_enter Try.func39, Try.ntmps39
      go_wp2_with (first
        | (go_at_call 53; refine (value_head B R 3 r hl w HR.out hRw _).mono ?_; rintro e w1 ⟨b, off, cap, v', rfl, rfl, hbR, hbw, hc, hrd⟩)
        | (go_at_call 40; refine (want_true _ _).mono ?_; rintro e w' ⟨rfl, rfl⟩))
      have hszw : (w.setCell ⟨R, 0, none⟩ v').heap.size = w.heap.size := by simp [World.setCell]
      refine (length_any B R r hrl _ (hrd.keep fun k hk => Below.heap_alloc _ _ k (by omega))).mono ?_
      rw [HN.out]
      rintro e w2 ⟨rfl, hrd2, hg⟩
      have hbx := (BoxAt.made (w.setCell ⟨R, 0, none⟩ v') 54 (.int .i64 3) (.int .i64 0) (.string ⟨#[]⟩) (.slice none 0 0)).grown hg (by omega)
      rw [hszw] at hbx
      have hgw : w.grownBy w2 (some R) := grown_trans (grown_alloc (setCell_grown w R v') _) hg (.inl rfl)
      clear hg hc hrd
      have HB := Lib.hid hbx; clear hbx
      go_wp2
      go_loopw [37] (fun i wr => ListRel B R w.heap.size d n w r' i wr) (fun i _ => n - (intOf i).toNat)
      case atStart => exact ⟨0, [], r', .slice none 0 0, Nat.zero_le _, rfl, rfl, rfl, by omega, HB.out, ⟨none, 0, rfl⟩, ⟨[], World.ownsRow_nil _ _ _ _, trivial, by simp, by simp [Value.ownBlock]⟩, hrd2, hgw⟩
      case round =>
        obtain ⟨k, xs, r2, lv, hkn, rfl, hrd, hxl, hr2, hbx, ⟨oa, cp, rfl⟩, hown, hrd3, hg3⟩ := hrel
        have hsz3 := hg3.size
        have hRwr : R < wr.heap.size := by omega
        have Hrd := Lib.hid hrd; have Hxl := Lib.hid hxl; have Hown := Lib.hid hown; have Hrd3 := Lib.hid hrd3; have Hbx := Lib.hid hbx
        clear hrd hxl hown hrd3
        by_cases hlt : k < n
        case neg =>
          obtain rfl : k = n := by omega
          have hn : Hid (rdV (d + 1) (3 :: r) = some (.mk 3 0 ⟨#[]⟩ xs, r2)) := by show _ = _; rw [hv.out, HN.out]; simp only; rw [Hrd.out]
          obtain ⟨x0, x1, x2, x3, xf⟩ := hbx
          go_wp2
          refine bodyPost_ret (v := .agg #[.int .i64 3, .int .i64 0, .string ⟨#[]⟩, .slice oa k cp]) (by simp [results, Try.results39, go_sem, x0, x1, x2, x3]) rfl ?_
          rw [hn.out]
          have hsl : SlVD (fun g => w.heap.size < g ∧ g < wr.heap.size) wr xs (.slice oa k cp) := Hown.out.sl (fun g hg => by have := hg.1; have := hg.2.2; omega) (fun g hg => by have := Hown.out.own_lt g hg; omega)
          exact ⟨_, rfl, ⟨by show I64 3; unfold I64; omega, by show I64 0; unfold I64; omega, Nat.zero_le maxLen, _, rfl, hsl.keep (fun g hg => ⟨by omega, by simp [World.setCell]; omega⟩) (fun g hg => by repeat (first | rfl | refine (Below.heap_setCell _ _ _ _ (by show g ≠ w.heap.size; omega)).trans ?_))⟩, by repeat (first | exact Hrd3.out | refine RdrAt.set ?_ hRw), by repeat (first | exact hg3 | refine grown_set_new ?_ (Nat.le_refl _))⟩
        case pos =>
          cases hE : rdV d r2 with
          | none =>
            have hn : Hid (rdV (d + 1) (3 :: r) = none) := by show _ = _; rw [hv.out, HN.out]; simp only; rw [rdVs_none _ n k _ _ xs hlt Hrd.out hE]
            have HE := Lib.hid hE; clear hE
            have hw : IntKind.i64.wrap (16 - ((d : Int) + 1) + 1) = 16 - (d : Int) := by rw [IntKind.wrap_i64]; omega
            obtain ⟨x0, x1, x2, x3, xf⟩ := hbx
            go_wp2
            have HW := Lib.hid hw
            refine wp_region_any (by kernel_rfl) ?_
            try (change wpAny _ _ _ _ _ _ _ (World.drew _))
            refine wpAny_take (i := 0) (v := ?_) rfl (by kernel_rfl) (by kernel_rfl) (by kernel_rfl) (fun _ _ _ h => h) (Or.inl ⟨by rfl, ?hy0⟩) ?rest0
            case hy0 => (intro w; go_simp; try with_reducible rfl)
            refine wpAny_take (i := 2) (v := ?_) rfl (by kernel_rfl) (by kernel_rfl) (by kernel_rfl) (fun _ _ _ h => h) (Or.inl ⟨by rfl, ?hy2⟩) ?rest2
            case hy2 => (intro w; go_simp; try with_reducible rfl)
            refine wpAny_take (i := 3) (v := ?_) rfl (by kernel_rfl) (by kernel_rfl) (by kernel_rfl) (fun _ _ _ h => h) (Or.inl ⟨by rfl, ?hy3⟩) ?rest3
            case hy3 => (intro w; go_simp; try with_reducible rfl)
            refine wpAny_take (i := 4) (v := ?_) rfl (by kernel_rfl) (by kernel_rfl) (by kernel_rfl) (fun _ _ _ h => h) (Or.inl ⟨by rfl, ?hy4⟩) ?rest4
            case hy4 => (intro w; go_simp; try with_reducible rfl)
            refine wpAny_ready (rs := [1, 5]) (by kernel_rfl) (by simp) ?_
            refine AllReady.cons rfl (fun K hK => ?_) (AllReady.cons rfl (fun K hK => ?_) AllReady.nil)
            · go_simp
              refine hK _ _ ?_
              clear hK K
              refine wpAny_ready (rs := [5]) (by kernel_rfl) (by simp) ?_
              refine AllReady.cons rfl (fun K hK => ?_) AllReady.nil
              go_simp
              go_at_call 39
              refine (IH.out d rfl B R r2 _ (by first | rfl | exact HW.out) hr2 wr.drew (RdrAt.keep Hrd3.out fun j hj => rfl) (by simpa using hRwr)).mono ?_
              rw [HE.out]
              rintro e w9 ⟨rfl, hg9⟩
              go_wp2
              exact ⟨rfl, by rw [hn.out]; exact And.intro rfl (grown_trans (grown_drew' hg3) hg9 (.inl rfl))⟩
            · go_simp
              go_at_call 39
              refine (IH.out d rfl B R r2 _ (by first | rfl | exact HW.out) hr2 wr.drew (RdrAt.keep Hrd3.out fun j hj => rfl) (by simpa using hRwr)).mono ?_
              rw [HE.out]
              rintro e w9 ⟨rfl, hg9⟩
              go_wp2
              exact ⟨rfl, by rw [hn.out]; exact And.intro rfl (grown_trans (grown_drew' hg3) hg9 (.inl rfl))⟩
          | some q =>
            obtain ⟨x, r3⟩ := q
            have HE := Lib.hid hE; clear hE
            have hn : Hid (rdVs (rdV d) (k + 1) r' = some (xs ++ [x], r3)) := rdVs_some _ k _ _ _ _ _ Hrd.out HE.out
            have hw : IntKind.i64.wrap (16 - ((d : Int) + 1) + 1) = 16 - (d : Int) := by rw [IntKind.wrap_i64]; omega
            have HW := Lib.hid hw
            obtain ⟨x0, x1, x2, x3, xf⟩ := hbx
            go_wp2
            have hTwr : w.heap.size < wr.heap.size := World.block_lt_of_cell? wr _ x0
            have ho0 := Hown.out.own_lt
            have hTo : some w.heap.size ≠ (Value.slice oa k cp).ownBlock := fun e => by have := ho0 _ e.symm; omega
            have hO0 := Lib.hid ho0; clear ho0
            go_region_law (first
              | (go_simp; go_at_call 39; refine (IH.out d rfl B R r2 _ (by first | rfl | exact HW.out) hr2 wr.drew (RdrAt.keep Hrd3.out fun j hj => rfl) (by simpa using hRwr)).mono ?_; rw [HE.out]; rintro e w9 ⟨v9, rfl, hv9, hrd9, hg9'⟩
                 have hg9 : wr.grownBy w9 (some R) := grown_trans (grown_drew' (grown_refl wr _)) hg9' (.inl rfl)
                 have y0 : w9.cell? ⟨w.heap.size, 3, none⟩ = some (.slice oa k cp) := hg9.cell x3 (fun e => by injection e with e; exact absurd e (by show w.heap.size ≠ R; omega))
                 have hs9 := hg9.size
                 have hTw9 : w.heap.size < w9.heap.size := by omega
                 obtain ⟨z1, z2, z3, lx, rfl, z4⟩ := hv9
                 have Z := Lib.hid (And.intro z1 (And.intro z2 (And.intro z3 z4)))
                 clear z1 z2 z3 z4 hg9')
              | (refine step_append_V (e := 54) (z := .agg #[.int .i64 0, .int .i64 0, .string ⟨#[]⟩, .slice none 0 0]) (bytes := 56) Try.underlying52 (by kernel_rfl) rfl (by decide) rfl _ _ rfl (fun g => w.heap.size < g ∧ some g ≠ (Value.slice oa k cp).ownBlock ∧ g < (w9.alloc (.cells #[.int .i64 x.kind, .int .i64 x.n, .string x.s, lx] 54)).heap.size) (w.heap.size + 1) (.slice oa k cp) xs rfl ?q1 _ x lx rfl ?q2 Z.out.2.2.2.one ?q3 ?q4 ?q5 ?q6 ?_
                 case q1 =>
                   refine ((Hown.out.kept hg9 (.inr fun e => by have := hO0.out R e; omega) (fun j hj e => by injection e with e; have := hj.1; omega) (fun j hj => hj.2.2)).kept (row := some R) (grown_alloc (grown_refl w9 _) _) (.inr fun e => by have := hO0.out R e; omega) (fun j hj e => by injection e with e; have := hj.1; omega) (fun j hj => by have := hj.2.2; omega)).mono (fun j hj => ⟨hj.1, hj.2.1, by have := hj.2.2; simp; omega⟩) (fun j hj => hj.2.1)
                 case q2 => exact ⟨Z.out.1, Z.out.2.1, Z.out.2.2.1, Z.out.2.2.2.keep (fun j hj => ⟨by have : wr.heap.size ≤ j := hj.1; omega, fun e => by have h1 := (hO0.out j e.symm).2; have h2 : wr.heap.size ≤ j := hj.1; omega, by have := hj.2; simp; omega⟩) (fun j hj => Below.heap_alloc w9 _ j hj.2)⟩
                 case q3 => simp
                 case q4 => (have := Hxl.out; omega)
                 case q5 => simp; omega
                 case q6 => exact fun j hj => hj.2.2
                 intro v' w' ho hg hnx
                 obtain ⟨oa2, cp2, rfl⟩ := ho.shape
                 have hTb := (hg.block w.heap.size (by simp; omega) hTo).trans (Below.heap_alloc w9 _ w.heap.size (by omega))
                 have y3 : w'.cell? ⟨w.heap.size, 3, none⟩ = some (.slice oa k cp) := (World.cell?_of_block (w := w9) hTb).trans y0
                 have yf : w'.frozen? ⟨w.heap.size, 3, none⟩ = false := (World.frozen?_of_block (w := w9) hTb).trans ((World.frozen?_of_block (w := wr) (hg9.block w.heap.size (by omega) (fun e => by injection e with e; omega))).trans (xf 3))
                 clear hTb
                 have HO := Lib.hid ho; clear ho))
            all_goals
              go_wp2
              go_roundw
              case rel =>
                have hll : (xs ++ [x]).length = xs.length + 1 := by simp
                have q := listRel_next rfl hRw hlt Hxl.out hn.out (Nat.le_trans (Nat.le_of_lt (rdV_len d r2 x r3 HE.out)) hr2) Hbx.out hg3 hTwr hg9 hrd9 _ hO0.out HO.out hg
                rw [hll] at q
                exact q
              case measure => simp [intOf]; omega
end Go.Proofs.Ytlocilbcmcfmaaa
/- codec.reader: value, whatever lies ahead. -/
namespace Go.Proofs.Ytlocilbcmcfmaaa
open Go.RowKit

set_option maxRecDepth 100000 in
set_option maxHeartbeats 1000000 in
theorem value_nil (d : Nat) (B R : Nat) (di : Int) (w : World) (hr : RdrAt B w R []) (hRw : R < w.heap.size) :
    Calls Try.prog 39 #[.pointer (some ⟨R, 0, none⟩), .int .i64 di] w (ValPost B R (rdV d []) w) := by
  have HR := Lib.hid hr; clear hr
  have hn := Lib.hid (rdV_nil d)
  go_enter Try.func39, Try.ntmps39
  go_wp2_with (go_at_call 53; refine (take_bad B R [] 1 _ rfl _ (RdrAt.keep HR.out fun k hk => Below.heap_alloc _ _ k (by omega)) (by simp) (by omega)).mono ?_; rintro e w' ⟨rfl, rfl⟩)
  exact ⟨rfl, by rw [hn.out]; exact And.intro rfl (grown_alloc (grown_refl w _) _)⟩

theorem value_any : ∀ d, d ≤ 16 → ValSaid d := by
  intro d
  induction d with
  | zero =>
    intro hd B R l di hdi hl w hr hRw
    cases l with
    | nil => exact value_nil 0 B R di w hr hRw
    | cons c r =>
      by_cases h1 : c = 1
      · subst h1; exact value_1 0 B R r di hl w hr hRw
      by_cases h2 : c = 2
      · subst h2; exact value_2 0 B R r di hl w hr hRw
      by_cases h3 : c = 3
      · subst h3; subst hdi; exact value_3 0 hd (fun d' h => by omega) B R r hl w hr hRw
      · exact value_0 0 B R c r di hl w hr hRw h1 h2 h3
  | succ d ih =>
    intro hd B R l di hdi hl w hr hRw
    cases l with
    | nil => exact value_nil (d + 1) B R di w hr hRw
    | cons c r =>
      by_cases h1 : c = 1
      · subst h1; exact value_1 (d + 1) B R r di hl w hr hRw
      by_cases h2 : c = 2
      · subst h2; exact value_2 (d + 1) B R r di hl w hr hRw
      by_cases h3 : c = 3
      · subst h3; subst hdi; exact value_3 (d + 1) hd (fun d' h => by obtain rfl : d = d' := by omega
                                                                      exact ih (by omega)) B R r hl w hr hRw
      · exact value_0 (d + 1) B R c r di hl w hr hRw h1 h2 h3
end Go.Proofs.Ytlocilbcmcfmaaa
/- codec.Decode. -/
namespace Go.Proofs.Ytlocilbcmcfmaaa
open Go.RowKit

set_option maxHeartbeats 1000000 in
theorem catch_idle (V E : Nat) (w : World) :
    CallsD Try.prog 38 #[.pointer (some ⟨V, 0, none⟩), .pointer (some ⟨E, 0, none⟩)] .returning w fun e u' w' => e = .returned (.tuple #[]) ∧ u' = .returning ∧ w' = w := by
  refine callsD_of_wpS Try.func38 rfl fun c₀ cs hu => ?_
  apply wpS_seq
  apply wpS_region
  simp [wpOpsS, go_sem, recoverD, hu, Try.ntmps38, Exit.thenS]
  apply wpS_seq
  apply wpS_region
  simp [wpOpsS, go_sem, Exit.thenS]
  refine wpS_cond (t := false) (by simp [Act.eval, Array.replicate]) ?_
  simp only [Bool.false_eq_true, if_false]
  refine wpS_of_wp (wp_skip ?_)
  cases c₀
  simp_all [bodyPostS, results, Try.results38]

theorem assert_errno (xT : TypeId) (v : Value) (w : World) : (Instr.typeAssert (.iface 30 v) xT 30 false).run Try.prog w = .ok v w := by kernel_rfl
/-- the world behind the closure that has recovered -/
def CatchW (V E : Nat) (w w' : World) : Prop :=
  BoxAt w' V (.int .i64 0) (.int .i64 0) (.string ⟨#[]⟩) (.slice none 0 0) ∧ w'.cell? ⟨E, 0, none⟩ = some (.int .i64 10) ∧ w'.frozen? ⟨E, 0, none⟩ = false ∧ ∀ (base : World) (G : Option Nat), base.grownBy w G → base.heap.size ≤ V → base.heap.size ≤ E → base.grownBy w' G
theorem catchW (V E : Nat) (a b c d x : Value) (w : World) (h : BoxAt w V a b c d) (he : w.cell? ⟨E, 0, none⟩ = some x) (hz : w.frozen? ⟨E, 0, none⟩ = false) (hne : V ≠ E) :
    CatchW V E w (((((w.setCell ⟨V, 0, none⟩ (.int .i64 0)).setCell ⟨V, 1, none⟩ (.int .i64 0)).setCell ⟨V, 2, none⟩ (.string ⟨#[]⟩)).setCell ⟨V, 3, none⟩ (.slice none 0 0)).setCell ⟨E, 0, none⟩ (.int .i64 10)).drew := by
  obtain ⟨x0, x1, x2, x3, xf⟩ := h
  refine ⟨⟨?_, ?_, ?_, ?_, ?_⟩, ?_, ?_, ?_⟩
  · simp [go_sem, x0]
  · simp [go_sem, x1]
  · simp [go_sem, x2]
  · simp [go_sem, x3]
  · intro o; simp [go_sem, xf]
  · simp [go_sem, he]
  · simp [go_sem, hz]
  · intro base G hg hV hE
    exact grown_drew' (grown_set_new (grown_set_new (grown_set_new (grown_set_new (grown_set_new hg hV) hV) hV) hV) hE)
set_option maxHeartbeats 1000000 in
theorem catch_panicking (V E : Nat) (a b c d x : Value) (w : World) (h : BoxAt w V a b c d) (he : w.cell? ⟨E, 0, none⟩ = some x) (hz : w.frozen? ⟨E, 0, none⟩ = false) (hne : V ≠ E) :
    CallsD Try.prog 38 #[.pointer (some ⟨V, 0, none⟩), .pointer (some ⟨E, 0, none⟩)] (.panicking badChain) w fun e u' w' =>
      e = .returned (.tuple #[]) ∧ u' = .panicking [{ v := .iface 30 (.int .i64 10), recovered := true }] ∧ CatchW V E w w' := by
  have hfin := Lib.hid (catchW V E a b c d x w h he hz hne)
  obtain ⟨x0, x1, x2, x3, xf⟩ := h
  unfold badChain
  have hta := assert_errno
  have hVl := World.block_lt_of_cell? w _ x0
  have hEl := World.block_lt_of_cell? w _ he
  refine callsD_of_wpS Try.func38 rfl fun c₀ cs hu => ?_
  apply wpS_seq
  apply wpS_region
  simp [wpOpsS, go_sem, recoverD, hu, Try.ntmps38, Exit.thenS]
  apply wpS_seq
  apply wpS_region
  simp [wpOpsS, go_sem, Exit.thenS]
  refine wpS_cond (t := true) (by simp [Act.eval, Array.replicate]) ?_
  simp only [if_true]
  refine wpS_of_wp ?_
  go_wp2
  go_region
  all_goals
    show bodyPostS _ _ _ _ _ _ _ _ _
    cases c₀
    simp only at hu
    subst hu
    simp [bodyPostS, results, Try.results38]
    try exact hfin.out
  all_goals trace_state
end Go.Proofs.Ytlocilbcmcfmaaa
