/- Parts of the proofs of chapter 49's laws: Enc Vd Rnum. -/
import Derived.Test.YtdblnbnofjggnaaGreatDoorK10
import Derived.Test.YtdblnbnofjggnaaGreatDoorK06
namespace Go.Proofs.YtdblnbnofjggnaaGreatDoor
open Go.RowKit
theorem OwnB.drew {e : TypeId} {w : World} {base : Nat} {v : Value} {l : List UInt8} (h : OwnB e w base v l) : OwnB e w.drew base v l := h
theorem grown_drew {w w1 : World} {G : Option Nat} (h : w.grownBy w1 G) : w.grownBy w1.drew G := ⟨h.os, h.tape, h.output, h.size, h.block⟩
theorem cell_grown {w w' : World} {row : Option Nat} (hg : w.grownBy w' row) {a : Addr} {v : Value} (h : w.cell? a = some v) (hne : some a.block ≠ row) : w'.cell? a = some v := hg.cell h hne
def uns (n : Int) : Nat := if 0 ≤ n then (2 * n).toNat else (2 * (-(n + 1)) + 1).toNat
theorem uns_lt (n : Int) (h : I64 n) : uns n < 18446744073709551616 := by unfold I64 at h; unfold uns; split <;> omega
mutual
def enc : V → List UInt8
 | .mk k n s l => if k = 1 then 1 :: num (uns n) else if k = 2 then 2 :: (num s.size ++ s.data.toList) else 3 :: (num l.length ++ encs l)
def encs : List V → List UInt8
 | [] => []
 | x :: r => enc x ++ encs r
end
theorem enc_1 (n : Int) (s : ByteArray) (l : List V) : enc (.mk 1 n s l) = [1] ++ num (uns n) := by simp [enc]
theorem enc_2 (n : Int) (s : ByteArray) (l : List V) : enc (.mk 2 n s l) = [2] ++ num s.size ++ s.data.toList := by simp [enc]
theorem enc_3 (n : Int) (s : ByteArray) (l : List V) : enc (.mk 3 n s l) = [3] ++ num l.length ++ encs l := by simp [enc]
mutual
theorem enc_sz : ∀ x : V, (enc x).length ≤ sz x
 | .mk k n s l => by
  have h1 := numF_len 9 (uns n); have h2 := numF_len 9 s.size; have h3 := numF_len 9 l.length; have h4 := encs_sz l
  have h5 : s.data.toList.length = s.size := by simp
  simp only [enc, sz]
  split
  · simp only [List.length_cons, num]; omega
  · split
    · simp only [List.length_cons, List.length_append, num, h5]; omega
    · simp only [List.length_cons, List.length_append, num]; omega
theorem encs_sz : ∀ l : List V, (encs l).length ≤ szs l
 | [] => by simp [encs]
 | x :: r => by have := enc_sz x; have := encs_sz r; simp only [encs, szs, List.length_append]; omega
end
theorem encs_take {l : List V} {i : Nat} {x : V} (h : l[i]? = some x) : encs (l.take (i + 1)) = encs (l.take i) ++ enc x := by
 induction l generalizing i with
 | nil => simp at h
 | cons y r ih => cases i with
  | zero => simp at h; subst h; simp [encs]
  | succ i => simp only [List.take_succ_cons, encs]; rw [ih (by simpa using h), List.append_assoc]
theorem uns_pos (n : Int) (h0 : 0 ≤ n) (hn : I64 n) : bits BinOp.xor IntKind.u64 (IntKind.u64.wrap (IntKind.u64.wrap n * 2)) (IntKind.u64.wrap (n / 9223372036854775808)) = (uns n : Int) := by
 unfold I64 at hn
 obtain ⟨m, rfl⟩ := Int.eq_ofNat_of_zero_le h0
 rw [IntKind.wrap_u64, IntKind.wrap_u64, IntKind.wrap_u64]
 rw [show (m : Int) % 18446744073709551616 * 2 % 18446744073709551616 = ((2 * m : Nat) : Int) from by omega, show (m : Int) / 9223372036854775808 % 18446744073709551616 = ((0 : Nat) : Int) from by omega,
  bits_xor_u64_nat _ _ (by omega) (by omega), Nat.xor_zero]
 unfold uns; rw [if_pos h0]; omega
theorem xor_ones (a : Nat) (h : a < 18446744073709551616) : a ^^^ 18446744073709551615 = 18446744073709551615 - a := by
 have h1 : (BitVec.ofNat 64 a ^^^ BitVec.allOnes 64).toNat = (~~~ BitVec.ofNat 64 a).toNat := by rw [BitVec.xor_allOnes]
 rw [BitVec.toNat_xor, BitVec.toNat_not, BitVec.toNat_allOnes, BitVec.toNat_ofNat, Nat.mod_eq_of_lt (by simpa using h)] at h1
 simpa using h1
theorem uns_neg (n : Int) (h0 : n < 0) (hn : I64 n) : bits BinOp.xor IntKind.u64 (IntKind.u64.wrap (IntKind.u64.wrap n * 2)) (IntKind.u64.wrap (n / 9223372036854775808)) = (uns n : Int) := by
 unfold I64 at hn
 rw [IntKind.wrap_u64, IntKind.wrap_u64, IntKind.wrap_u64]
 obtain ⟨m, rfl⟩ : ∃ m : Nat, n = -(m : Int) - 1 := ⟨(-n - 1).toNat, by omega⟩
 rw [show (-(m : Int) - 1) % 18446744073709551616 * 2 % 18446744073709551616 = ((18446744073709551614 - 2 * m : Nat) : Int) from by omega, show (-(m : Int) - 1) / 9223372036854775808 % 18446744073709551616 = ((18446744073709551615 : Nat) : Int) from by omega,
  bits_xor_u64_nat _ _ (by omega) (by omega), xor_ones _ (by omega)]
 unfold uns; rw [if_neg (by omega)]; omega
set_option maxHeartbeats 1000000 in
theorem unsigned_any (n : Int) (hn : Hid (I64 n)) (w : World) : Calls Tryz.prog 159 #[.int .i64 n] w fun e w' => e = .returned (.int .u64 (uns n)) ∧ w = w' := by
 go_enter Tryz.func159, Tryz.ntmps159
 go_wp2
 go_ret
 refine ⟨?_, rfl⟩
 rcases Int.lt_or_le n 0 with h | h
 · exact congrArg (fun z => Ending.returned (.int .u64 z)) (uns_neg n h hn.out)
 · exact congrArg (fun z => Ending.returned (.int .u64 z)) (uns_pos n h hn.out)
end Go.Proofs.YtdblnbnofjggnaaGreatDoor
namespace Go.Proofs.YtdblnbnofjggnaaGreatDoor
open Go.RowKit
mutual
def V.atD (D : Nat → Prop) (w : World) : V → Nat → Nat → Prop
 | .mk k n s l, b, off => D b ∧ I64 k ∧ I64 n ∧ s.size ≤ maxLen ∧ w.cell? ⟨b, off, none⟩ = some (.int .i64 k) ∧ w.cell? ⟨b, off + 1, none⟩ = some (.int .i64 n) ∧ w.cell? ⟨b, off + 2, none⟩ = some (.string s) ∧
  ∃ lv, w.cell? ⟨b, off + 3, none⟩ = some lv ∧ ((l = [] ∧ ∃ oa cap, lv = .slice oa 0 cap) ∨ (l ≠ [] ∧ ∃ c o cap, lv = .slice (some ⟨c, o, none⟩) l.length cap ∧ (l.length ≤ maxLen ∧ l.length ≤ cap) ∧ V.atsD D w l c o))
def V.atsD (D : Nat → Prop) (w : World) : List V → Nat → Nat → Prop
 | [], _, _ => True
 | x :: r, b, off => V.atD D w x b off ∧ V.atsD D w r b (off + 4)
end
def SlVD (D : Nat → Prop) (w : World) (l : List V) (lv : Value) : Prop :=
 (l = [] ∧ ∃ oa cap, lv = .slice oa 0 cap) ∨ (l ≠ [] ∧ ∃ c o cap, lv = .slice (some ⟨c, o, none⟩) l.length cap ∧ (l.length ≤ maxLen ∧ l.length ≤ cap) ∧ V.atsD D w l c o)
def RdVD (D : Nat → Prop) (w : World) (x : V) (v : Value) : Prop :=
 I64 x.kind ∧ I64 x.n ∧ x.s.size ≤ maxLen ∧ ∃ lv, v = .agg #[.int .i64 x.kind, .int .i64 x.n, .string x.s, lv] ∧ SlVD D w x.l lv
mutual
theorem V.atD_keep {D D' : Nat → Prop} {w w' : World} (hB : ∀ k, D k → D' k) (hs : ∀ k, D k → w'.heap[k]? = w.heap[k]?) : ∀ (x : V) (b off : Nat), V.atD D w x b off → V.atD D' w' x b off
 | .mk k n s l, b, off, h => by
  simp only [V.atD] at h ⊢
  obtain ⟨h0, h1, h2, h3, h4, h5, h6, lv, h7, h8⟩ := h
  have hc : ∀ o, w'.cell? ⟨b, o, none⟩ = w.cell? ⟨b, o, none⟩ := fun o => World.cell?_of_block (w := w) (hs b h0)
  refine ⟨hB _ h0, h1, h2, h3, (hc _).trans h4, (hc _).trans h5, (hc _).trans h6, lv, (hc _).trans h7, ?_⟩
  rcases h8 with h8 | ⟨hne, c, o, cap, he, hl, ha⟩
  · exact .inl h8
  · exact .inr ⟨hne, c, o, cap, he, hl, V.atsD_keep hB hs l c o ha⟩
theorem V.atsD_keep {D D' : Nat → Prop} {w w' : World} (hB : ∀ k, D k → D' k) (hs : ∀ k, D k → w'.heap[k]? = w.heap[k]?) : ∀ (l : List V) (b off : Nat), V.atsD D w l b off → V.atsD D' w' l b off
 | [], _, _, _ => by simp [V.atsD]
 | x :: r, b, off, h => by
  simp only [V.atsD] at h ⊢
  exact ⟨V.atD_keep hB hs x b off h.1, V.atsD_keep hB hs r b (off + 4) h.2⟩
end
theorem SlVD.keep {D D' : Nat → Prop} {w w' : World} {l : List V} {lv : Value} (h : SlVD D w l lv) (hB : ∀ k, D k → D' k) (hs : ∀ k, D k → w'.heap[k]? = w.heap[k]?) : SlVD D' w' l lv := by
 rcases h with h | ⟨hne, c, o, cap, he, hl, ha⟩
 · exact .inl h
 · exact .inr ⟨hne, c, o, cap, he, hl, V.atsD_keep hB hs l c o ha⟩
theorem RdVD.keep {D D' : Nat → Prop} {w w' : World} {x : V} {v : Value} (h : RdVD D w x v) (hB : ∀ k, D k → D' k) (hs : ∀ k, D k → w'.heap[k]? = w.heap[k]?) : RdVD D' w' x v := by
 obtain ⟨h1, h2, h3, lv, h4, h5⟩ := h
 exact ⟨h1, h2, h3, lv, h4, h5.keep hB hs⟩
mutual
theorem V.atD_at {D : Nat → Prop} {B : Nat} {w : World} (hB : ∀ k, D k → k < B) : ∀ (x : V) (b off : Nat), V.atD D w x b off → V.at B w x b off
 | .mk k n s l, b, off, h => by
  simp only [V.atD, V.at] at h ⊢
  obtain ⟨h0, h1, h2, h3, h4, h5, h6, lv, h7, h8⟩ := h
  refine ⟨hB _ h0, h1, h2, h3, h4, h5, h6, lv, h7, ?_⟩
  rcases h8 with h8 | ⟨hne, c, o, cap, he, hl, ha⟩
  · exact .inl h8
  · exact .inr ⟨hne, c, o, cap, he, hl.1, V.atsD_ats hB l c o ha⟩
theorem V.atsD_ats {D : Nat → Prop} {B : Nat} {w : World} (hB : ∀ k, D k → k < B) : ∀ (l : List V) (b off : Nat), V.atsD D w l b off → V.ats B w l b off
 | [], _, _, _ => by simp [V.ats]
 | x :: r, b, off, h => by
  simp only [V.atsD, V.ats] at h ⊢
  exact ⟨V.atD_at hB x b off h.1, V.atsD_ats hB r b (off + 4) h.2⟩
end
theorem SlVD.sl {D : Nat → Prop} {B : Nat} {w : World} {l : List V} {lv : Value} (h : SlVD D w l lv) (hB : ∀ k, D k → k < B) : SlV B w l lv := by
 rcases h with h | ⟨hne, c, o, cap, he, hl, ha⟩
 · exact .inl h
 · exact .inr ⟨hne, c, o, cap, he, hl.1, V.atsD_ats hB l c o ha⟩
theorem RdVD.rd {D : Nat → Prop} {B : Nat} {w : World} {x : V} {v : Value} (h : RdVD D w x v) (hB : ∀ k, D k → k < B) : RdV B w x v := by
 obtain ⟨h1, h2, h3, lv, h4, h5⟩ := h
 exact ⟨h1, h2, h3, lv, h4, h5.sl hB⟩
def vcells : List V → List Value → List Value
 | x :: r, lv :: s => [.int .i64 x.kind, .int .i64 x.n, .string x.s, lv] ++ vcells r s
 | _, _ => []
theorem vcells_append : ∀ (l : List V) (lvs : List Value) (x : V) (lv : Value), l.length = lvs.length → vcells (l ++ [x]) (lvs ++ [lv]) = vcells l lvs ++ [.int .i64 x.kind, .int .i64 x.n, .string x.s, lv]
 | [], [], _, _, _ => rfl
 | y :: r, lv :: s, x, l', h => by simp only [List.cons_append, vcells, vcells_append r s x l' (by simpa using h), List.append_assoc]
 | [], _ :: _, _, _, h => by simp at h
 | _ :: _, [], _, _, h => by simp at h
def velems (D : Nat → Prop) (w : World) : List V → List Value → Prop
 | x :: r, lv :: s => (I64 x.kind ∧ I64 x.n ∧ x.s.size ≤ maxLen ∧ SlVD D w x.l lv) ∧ velems D w r s
 | [], [] => True
 | _, _ => False
theorem velems_keep {D D' : Nat → Prop} {w w' : World} (hB : ∀ k, D k → D' k) (hs : ∀ k, D k → w'.heap[k]? = w.heap[k]?) : ∀ (l : List V) (lvs : List Value), velems D w l lvs → velems D' w' l lvs
 | [], [], _ => trivial
 | _ :: r, _ :: s, h => ⟨⟨h.1.1, h.1.2.1, h.1.2.2.1, h.1.2.2.2.keep hB hs⟩, velems_keep hB hs r s h.2⟩
 | [], _ :: _, h => h.elim
 | _ :: _, [], h => h.elim
theorem velems_len {D : Nat → Prop} {w : World} : ∀ (l : List V) (lvs : List Value), velems D w l lvs → l.length = lvs.length
 | [], [], _ => rfl
 | _ :: r, _ :: s, h => by simp [velems_len r s h.2]
 | [], _ :: _, h => h.elim
 | _ :: _, [], h => h.elim
theorem velems_append {D : Nat → Prop} {w : World} : ∀ (l : List V) (lvs : List Value) (x : V) (lv : Value), velems D w l lvs → (I64 x.kind ∧ I64 x.n ∧ x.s.size ≤ maxLen ∧ SlVD D w x.l lv) → velems D w (l ++ [x]) (lvs ++ [lv])
 | [], [], _, _, _, h => ⟨h, trivial⟩
 | _ :: r, _ :: s, y, l', h, h' => ⟨h.1, velems_append r s y l' h.2 h'⟩
 | [], _ :: _, _, _, h, _ => h.elim
 | _ :: _, [], _, _, h, _ => h.elim
def OwnV (e : TypeId) (D : Nat → Prop) (w : World) (base : Nat) (v : Value) (l : List V) : Prop :=
 ∃ lvs, w.ownsRow base e 4 v l.length (vcells l lvs) ∧ velems D w l lvs ∧ l.length ≤ maxLen ∧ ∀ k, D k → some k ≠ v.ownBlock
theorem OwnV.nil (e : TypeId) (D : Nat → Prop) (w : World) (base : Nat) : OwnV e D w base (.slice none 0 0) [] :=
 ⟨[], World.ownsRow_nil w base e 4, trivial, by simp, by simp [Value.ownBlock]⟩
theorem OwnV.kept {e : TypeId} {D : Nat → Prop} {w w' : World} {base : Nat} {v : Value} {l : List V} {row : Option Nat} (h : OwnV e D w base v l) (hg : w.grownBy w' row) (hne : v.ownBlock = none ∨ v.ownBlock ≠ row) (hD : ∀ k, D k → some k ≠ row) (hlt : ∀ k, D k → k < w.heap.size) : OwnV e D w' base v l := by
 obtain ⟨lvs, h1, h2, h3, h4⟩ := h
 exact ⟨lvs, h1.kept hg hne, velems_keep (fun _ h => h) (fun k hk => hg.block k (hlt k hk) (hD k hk)) l lvs h2, h3, h4⟩
theorem atsD_of_cells {D : Nat → Prop} {w : World} {g : Nat} (hg : D g) : ∀ (l : List V) (lvs : List Value) (off : Nat), velems D w l lvs → (∀ j u, (vcells l lvs)[j]? = some u → w.cell? ⟨g, off + j, none⟩ = some u) → V.atsD D w l g off
 | [], [], _, _, _ => trivial
 | x :: r, lv :: s, off, h, hc => by
  obtain ⟨k, n, st, l⟩ := x
  obtain ⟨⟨h1, h2, h3, h4⟩, h5⟩ := h
  simp only [V.atsD, V.atD]
  refine ⟨⟨hg, h1, h2, h3, hc 0 _ rfl, hc 1 _ rfl, hc 2 _ rfl, lv, hc 3 _ rfl, h4⟩, atsD_of_cells hg r s (off + 4) h5 fun j u hj => ?_⟩
  rw [Nat.add_assoc]
  refine hc (4 + j) u ?_
  rw [Nat.add_comm 4 j]
  simpa [vcells] using hj
 | [], _ :: _, _, h, _ => h.elim
 | _ :: _, [], _, h, _ => h.elim
theorem OwnV.sl {e : TypeId} {D D' : Nat → Prop} {w : World} {base : Nat} {v : Value} {l : List V} (h : OwnV e D w base v l) (hD : ∀ k, D k → D' k) (hv : ∀ g, v.ownBlock = some g → D' g) : SlVD D' w l v := by
 obtain ⟨lvs, h1, h2, h3, h4⟩ := h
 rcases h1.2 with ⟨rfl, h0⟩ | ⟨g, cap, cur, rfl, hb, hg, hn, hm, hcs, ht⟩
 · exact .inl ⟨List.eq_nil_of_length_eq_zero h0, none, 0, rfl⟩
 · by_cases hl : l = []
   · subst hl; exact .inl ⟨rfl, _, cap, rfl⟩
   · refine .inr ⟨hl, g, 0, cap, rfl, ⟨h3, hn⟩, ?_⟩
     refine atsD_of_cells (hv g rfl) l lvs 0 (velems_keep hD (fun _ _ => rfl) l lvs h2) fun j u hu => ?_
     have := World.ownsRow.cells h1 (g := g) rfl j u hu
     have hadd : (⟨g, 0, none⟩ : Addr).add j = ⟨g, j, none⟩ := by unfold Addr.add; split <;> simp_all
     rw [hadd] at this; rw [Nat.zero_add]; exact this
section
variable {P : Program} {w : World} {ops : Array Oper} {rest : List Oper} {o : Oper} {a : Act} {Q : Exit → Act → World → Prop}
theorem step_append_V {K : Act → World → Prop} {E : Prop} {t e : TypeId} {z : Value} {bytes : Nat} (ht : P.underlying t = some (.slice e)) (he : (P.info? e).map (fun i => (i.zero, i.size, i.bytes)) = some (some z, 4, bytes)) (hzs : z.cells.size = 4) (hby : bytes ≤ 64)
 (hgd : o.guard = none) (s y : Operand) (ho : o.op = .call { callee := .builtin .append, args := #[s, y], argTypes := #[t, t] })
 (D : Nat → Prop) (base : Nat) (v : Value) (l : List V) (hs : a.eval s = v) (hown : OwnV e D w base v l)
 (B : Nat) (x : V) (lv : Value) (hx : a.eval y = .slice (some ⟨B, 0, none⟩) 1 1) (hsl : I64 x.kind ∧ I64 x.n ∧ x.s.size ≤ maxLen ∧ SlVD D w x.l lv) (h1 : lv.oneCell' = true)
 (hc : w.cell? ⟨B, 0, none⟩ = some (.int .i64 x.kind) ∧ w.cell? ⟨B, 1, none⟩ = some (.int .i64 x.n) ∧ w.cell? ⟨B, 2, none⟩ = some (.string x.s) ∧ w.cell? ⟨B, 3, none⟩ = some lv)
 (hl : l.length ≤ 1000000) (hbase : base ≤ w.heap.size) (hD : ∀ k, D k → k < w.heap.size)
 (h : ∀ v' w', OwnV e D w' base v' (l ++ [x]) → w.grownBy w' v.ownBlock → Next w v v' → K (a.put o.dst v') w') :
 if Region.wanted o (yielded ops a.tmps) = true then Oper.wp P o a w K Q else E := by
 obtain ⟨lvs, h2, h3, h4, h5⟩ := hown
 have hlen := velems_len l lvs h3
 have hsrc : Src P 4 t (.slice (some ⟨B, 0, none⟩) 1 1) 1 [.int .i64 x.kind, .int .i64 x.n, .string x.s, lv] w := by
  refine Src.ofSlice (P := P) w ht ⟨B, 0, none⟩ 1 1 _ rfl (fun j u hu => ?_) (fun u hu => ?_)
  · match j, hu with
    | 0, hu => simp at hu; subst hu; simpa [Addr.add] using hc.1
    | 1, hu => simp at hu; subst hu; simpa [Addr.add] using hc.2.1
    | 2, hu => simp at hu; subst hu; simpa [Addr.add] using hc.2.2.1
    | 3, hu => simp at hu; subst hu; simpa [Addr.add] using hc.2.2.2
  · simp at hu; rcases hu with rfl | rfl | rfl | rfl
    · rfl
    · rfl
    · rfl
    · exact h1
 refine step_append_x ht he hzs hgd s y ho base v l.length (vcells l lvs) hs h2 _ 1 _ hx hsrc (by unfold maxLen; omega) ?_ hbase fun v' w' g1 g2 g3 => h v' w' ⟨lvs ++ [lv], ?_, ?_, by unfold maxLen; simp; omega, ?_⟩ g2 g3
 · calc (l.length + 1) * bytes ≤ (l.length + 1) * 64 := Nat.mul_le_mul_left _ hby
    _ ≤ _ := by omega
 · rw [vcells_append l lvs x lv hlen, List.length_append]; exact g1
 · refine velems_keep (fun _ h => h) (fun k hk => g2.block k (hD k hk) (h5 k hk)) _ _ (velems_append l lvs x lv h3 hsl)
 · intro k hk he
   rcases g3 with g3 | g3
   · exact h5 k hk (he.trans g3)
   · have := g3 k he.symm; have := hD k hk; omega
end
end Go.Proofs.YtdblnbnofjggnaaGreatDoor
namespace Go.Proofs.YtdblnbnofjggnaaGreatDoor
open Go.RowKit
theorem OwnB.mono {e : TypeId} {w : World} {base base' : Nat} {v : Value} {l : List UInt8} (h : OwnB e w base v l) (hb : base' ≤ base) : OwnB e w base' v l := by
 refine ⟨h.1, ?_⟩
 rcases h.2 with h | ⟨g, cap, cur, h1, h2, h3⟩
 · exact .inl h
 · exact .inr ⟨g, cap, cur, h1, Nat.le_trans hb h2, h3⟩
theorem OwnB.below {e : TypeId} {w w' : World} {base : Nat} {v : Value} {l : List UInt8} (h : OwnB e w base v l) (hb : Below w.heap.size w w') : OwnB e w' base v l := by
 refine h.kept (row := none) ⟨hb.os, hb.tape, hb.output, hb.size, fun k hk _ => hb.block k hk⟩ ?_
 cases v.ownBlock <;> simp
end Go.Proofs.YtdblnbnofjggnaaGreatDoor
