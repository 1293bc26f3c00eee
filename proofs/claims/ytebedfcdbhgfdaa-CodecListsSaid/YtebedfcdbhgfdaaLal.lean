/- CodecLists: the walk, its parts. -/
import Derived.Test.YtebedfcdbhgfdaaLan
import Derived.Test.YtebedfcdbhgfdaaLad
import Derived.Test.YtebedfcdbhgfdaaLar
namespace Go.Proofs.Ytebedfcdbhgfdaa
open Go.RowKit

theorem OwnV.below {e : TypeId} {D : Nat → Prop} {w w' : World} {base : Nat} {v : Value} {l : List V} (h : OwnV e D w base v l) (hD : ∀ k, D k → k < w.heap.size) (hb : Below w.heap.size w w') : OwnV e D w' base v l := by
  refine h.kept (row := none) ⟨hb.os, hb.tape, hb.output, hb.size, fun k hk _ => hb.block k hk⟩ ?_ (by simp) hD
  cases v.ownBlock <;> simp
section
variable {P : Program} {w : World} {ops : Array Oper} {rest : List Oper} {o : Oper} {a : Act} {Q : Exit → Act → World → Prop}
/-- append of one value, which lies in a block of four cells: outside a region that draws -/
theorem wpList_append_V {t e : TypeId} {z : Value} {bytes : Nat} (ht : P.underlying t = some (.slice e)) (he : (P.info? e).map (fun i => (i.zero, i.size, i.bytes)) = some (some z, 4, bytes)) (hzs : z.cells.size = 4) (hby : bytes ≤ 64)
    (hgd : o.guard = none) (s y : Operand) (ho : o.op = .call { callee := .builtin .append, args := #[s, y], argTypes := #[t, t] })
    (D : Nat → Prop) (base : Nat) (v : Value) (l : List V) (hs : a.eval s = v) (hown : OwnV e D w base v l)
    (B : Nat) (x : V) (lv : Value) (hx : a.eval y = .slice (some ⟨B, 0, none⟩) 1 1) (hsl : I64 x.kind ∧ I64 x.n ∧ x.s.size ≤ maxLen ∧ SlVD D w x.l lv) (h1 : lv.oneCell' = true)
    (hc : w.cell? ⟨B, 0, none⟩ = some (.int .i64 x.kind) ∧ w.cell? ⟨B, 1, none⟩ = some (.int .i64 x.n) ∧ w.cell? ⟨B, 2, none⟩ = some (.string x.s) ∧ w.cell? ⟨B, 3, none⟩ = some lv)
    (hl : l.length ≤ 1000000) (hbase : base ≤ w.heap.size) (hD : ∀ k, D k → k < w.heap.size)
    (h : ∀ v' w', OwnV e D w' base v' (l ++ [x]) → w.grownBy w' v.ownBlock → Next w v v' → wpList P ops Q rest (a.put o.dst v') w') : wpList P ops Q (o :: rest) a w := by
  obtain ⟨lvs, h2, h3, h4, h5⟩ := hown
  have hlen := velems_len l lvs h3
  have hsrc : Src P 4 t (.slice (some ⟨B, 0, none⟩) 1 1) 1 [.int .i64 x.kind, .int .i64 x.n, .string x.s, lv] w := by
    refine Src.ofSlice (P := P) w ht ⟨B, 0, none⟩ 1 1 _ rfl (fun j u hu => ?_) (fun u hu => ?_)
    · match j, hu with
      | 0, hu => simp at hu; subst hu; simpa [Addr.add] using hc.1
      | 1, hu => simp at hu; subst hu; simpa [Addr.add] using hc.2.1
      | 2, hu => simp at hu; subst hu; simpa [Addr.add] using hc.2.2.1
      | 3, hu => simp at hu; subst hu; simpa [Addr.add] using hc.2.2.2
    · simp at hu; rcases hu with rfl | rfl | rfl | rfl
      · rfl
      · rfl
      · rfl
      · exact h1
  refine wpList_append_x ht he hzs hgd s y ho base v l.length (vcells l lvs) hs h2 _ 1 _ hx hsrc (by unfold maxLen; omega) ?_ hbase fun v' w' g1 g2 g3 => h v' w' ⟨lvs ++ [lv], ?_, ?_, by unfold maxLen; simp; omega, ?_⟩ g2 g3
  · calc (l.length + 1) * bytes ≤ (l.length + 1) * 64 := Nat.mul_le_mul_left _ hby
      _ ≤ _ := by omega
  · rw [vcells_append l lvs x lv hlen, List.length_append]; exact g1
  · refine velems_keep (fun _ h => h) (fun k hk => g2.block k (hD k hk) (h5 k hk)) _ _ (velems_append l lvs x lv h3 hsl)
  · intro k hk he
    rcases g3 with g3 | g3
    · exact h5 k hk (he.trans g3)
    · have := g3 k he.symm; have := hD k hk; omega
end

def vLst (l : List V) : V := .mk 3 0 ⟨#[]⟩ l
theorem ck_fms {l : List V} (h : ∀ y ∈ l, ck y = 0) : fms l = true ∧ dps l ≤ 16 := by
  induction l with
  | nil => simp [fms, dps]
  | cons x r ih =>
    obtain ⟨h1, h2⟩ := ck_ok (h x (by simp))
    obtain ⟨h3, h4⟩ := ih fun y hy => h y (by simp [hy])
    simp only [fms, dps, h1, h3]; exact ⟨rfl, by omega⟩
theorem vLst_fm (l : List V) : fm (vLst l) = fms l := by simp [vLst, fm, ByteArray.toList_eq]
theorem vLst_dp (l : List V) : dp (vLst l) = dps l + 1 := by simp [vLst, dp]
/-- a list whose elements can be encoded: it can be, or it is too deep -/
theorem ck_vLst {l : List V} (h : ∀ y ∈ l, ck y = 0) : ck (vLst l) = 0 ∨ ck (vLst l) = 2 := by
  unfold ck; rw [vLst_fm, (ck_fms h).1, if_pos rfl]; split <;> simp
theorem ck_vLst_bad {l : List V} {x : V} (hx : x ∈ l) (h : ck x ≠ 0) : ck (vLst l) ≠ 0 := by
  intro h0
  obtain ⟨h1, h2⟩ := ck_ok h0
  rw [vLst_fm] at h1; rw [vLst_dp] at h2
  exact h (ok_ck (fms_mem h1 hx) (by have := dps_mem hx; omega))
theorem few_szs : ∀ l : List V, l.all fewB = true → szs l ≤ 60000 * l.length := by
  intro l
  induction l with
  | nil => simp [szs]
  | cons x r ih =>
    intro h
    simp only [List.all_cons, Bool.and_eq_true] at h
    have := few_sz h.1; have := ih h.2
    simp only [szs, List.length_cons]; omega
theorem all_take' {l : List V} (h : l.all fewB = true) (k : Nat) : (l.take k).all fewB = true := by
  rw [List.all_eq_true] at h ⊢
  exact fun x hx => h x (List.mem_of_mem_take hx)
theorem encs_bd {l : List V} (h : l.all fewB = true) (hn : l.length ≤ 20) (k : Nat) : (encs (l.take k)).length ≤ 1200000 := by
  have h1 := encs_sz (l.take k)
  have h2 := few_szs _ (all_take' h k)
  have h3 : (l.take k).length ≤ 20 := by simp; omega
  omega
theorem vLst_sz {l : List V} (h : l.all fewB = true) (hn : l.length ≤ 20) : sz (vLst l) ≤ 50000000 := by
  have h1 := few_szs l h
  have h0 : (⟨#[]⟩ : ByteArray).size = 0 := rfl
  simp only [vLst, sz]
  have : 60000 * l.length ≤ 60000 * 20 := Nat.mul_le_mul_left _ hn
  omega
theorem rd_vLst {w : World} {l : List V} {lv : Value} (h : SlV w.heap.size w l lv) : RdV w.heap.size w (vLst l) (.agg #[.int .i64 3, .int .i64 0, .string ⟨#[]⟩, lv]) :=
  ⟨by simp [vLst, V.kind, I64], by simp [vLst, V.n, I64], Nat.zero_le _, lv, rfl, h⟩
theorem vLst_enc (l : List V) : enc (vLst l) = [3] ++ num l.length ++ encs l := enc_3 0 ⟨#[]⟩ l
theorem encs_zeros (k : Nat) : (encs (List.replicate k (vInt 0))).length = 2 * k := by
  induction k with
  | zero => simp [encs]
  | succ k ih =>
    have h : (enc (vInt 0)).length = 2 := by decide +kernel
    simp only [List.replicate_succ, encs, List.length_append, ih, h]; omega
theorem zeros_ck (k : Nat) : ck (vLst (List.replicate k (vInt 0))) = 0 := by
  refine ok_ck ?_ ?_
  · rw [vLst_fm]; exact (ck_fms fun y hy => by rw [List.eq_of_mem_replicate hy]; exact vInt_ck 0).1
  · rw [vLst_dp]
    have : ∀ k, dps (List.replicate k (vInt 0)) = 0 := by
      intro k
      induction k with
      | zero => simp [dps]
      | succ k ih => simp only [List.replicate_succ, dps, ih]; simp [vInt, dp]
    rw [this]; omega
theorem zeros_sz (k : Nat) (h : k ≤ 20) : sz (vLst (List.replicate k (vInt 0))) ≤ 60000 := by
  have h0 : (⟨#[]⟩ : ByteArray).size = 0 := rfl
  have : ∀ k, szs (List.replicate k (vInt 0)) = 24 * k := by
    intro k
    induction k with
    | zero => simp [szs]
    | succ k ih =>
      have hv : sz (vInt 0) = 24 := by decide
      simp only [List.replicate_succ, szs, ih, hv]; omega
  simp only [vLst, sz, this, h0]; omega

/-- what the loop keeps -/
structure LstS (w0 : World) (l : List V) (k : Nat) (want zeros sizes : Value) (wr : World) : Prop where
  hck : ∀ y, y ∈ l.take k → ck y = 0
  hw : OwnB 5 wr w0.heap.size want (encs (l.take k))
  hz : OwnV 24 (fun _ => False) wr w0.heap.size zeros (List.replicate k (vInt 0))
  hne : zeros.ownBlock = none ∨ zeros.ownBlock ≠ want.ownBlock
  hs : sizes = .int .i64 (encs (l.take k)).length
  hb : Below w0.heap.size w0 wr
def LstRel (w0 : World) (l : List V) (want zeros sizes i : Value) (wr : World) : Prop := ∃ k : Nat, k ≤ l.length ∧ i = .int .i64 k ∧ LstS w0 l k want zeros sizes wr

theorem take_snoc' {l : List V} {k : Nat} {x : V} (h : l[k]? = some x) : l.take (k + 1) = l.take k ++ [x] := by rw [List.take_add_one, h]; rfl
theorem OwnB.lt {e : TypeId} {w : World} {base : Nat} {v : Value} {l : List UInt8} (h : OwnB e w base v l) (g : Nat) (hg : v.ownBlock = some g) : base ≤ g ∧ g < w.heap.size := by
  rcases h.2 with ⟨rfl, _⟩ | ⟨g', cap, cur, rfl, hb, hgb, _⟩
  · simp [Value.ownBlock] at hg
  · simp [Value.ownBlock] at hg; subst hg
    exact ⟨hb, by
      rcases Nat.lt_or_ge g' w.heap.size with hx | hx
      · exact hx
      · rw [Array.getElem?_eq_none hx] at hgb; cases hgb⟩
/-- both blocks stay apart: where the first grows -/
theorem apart_next {w : World} {zeros want want' : Value} (hne : zeros.ownBlock = none ∨ zeros.ownBlock ≠ want.ownBlock) (hz : ∀ g, zeros.ownBlock = some g → g < w.heap.size) (hn : Next w want want') : zeros.ownBlock = none ∨ zeros.ownBlock ≠ want'.ownBlock := by
  rcases hne with h | h
  · exact .inl h
  · cases hzo : zeros.ownBlock with
    | none => exact .inl rfl
    | some g =>
      refine .inr fun he => ?_
      rcases hn with hn | hn
      · exact h (by rw [hzo, he, hn])
      · have := hn g he.symm; have := hz g hzo; omega
theorem apart_next' {w : World} {zeros zeros' want : Value} (hne : zeros.ownBlock = none ∨ zeros.ownBlock ≠ want.ownBlock) (hw : ∀ g, want.ownBlock = some g → g < w.heap.size) (hn : Next w zeros zeros') : zeros'.ownBlock = none ∨ zeros'.ownBlock ≠ want.ownBlock := by
  cases hzo : zeros'.ownBlock with
  | none => exact .inl rfl
  | some g =>
    refine .inr fun he => ?_
    rcases hn with hn | hn
    · rcases hne with h | h
      · rw [hzo, h] at hn; cases hn
      · exact h (by rw [← hn, hzo, he])
    · have := hn g hzo; have := hw g he.symm; omega
theorem OwnV.slv {e : TypeId} {w : World} {base : Nat} {v : Value} {l : List V} (h : OwnV e (fun _ => False) w base v l) : SlV w.heap.size w l v :=
  (h.sl (D' := fun g => g < w.heap.size) (fun _ h => h.elim) (fun g hg => (h.own_lt g hg).2)).sl fun _ h => h
theorem num_bd (u : Nat) : 1 ≤ (num u).length ∧ (num u).length ≤ 10 := ⟨num_pos u, numF_len 9 u⟩
theorem vLst_len (l : List V) : (enc (vLst l)).length = 1 + (num l.length).length + (encs l).length := by rw [vLst_enc]; simp; omega
theorem zeros_len (k : Nat) : (enc (vLst (List.replicate k (vInt 0)))).length = 1 + (num k).length + 2 * k := by rw [vLst_len, encs_zeros, List.length_replicate]
theorem vLst_drop (l : List V) : (enc (vLst l)).drop (1 + (num l.length).length) = encs l := by
  rw [vLst_enc, List.drop_append_of_le_length (by simp; omega)]
  rw [List.drop_of_length_le (by simp; omega)]; rfl
/-- bytes from an offset on -/
theorem bts_drop {B : Nat} {w : World} {b off n cap A m : Nat} {l r : List UInt8} (h : BtsAt B w l (.slice (some ⟨b, off, none⟩) n cap)) (hl : l ≠ []) (hr : l.drop A = r) (hm : m = r.length) (hA : A + r.length ≤ l.length) : BtsAt B w r (.slice (some ⟨b, off + A, none⟩) m (cap - A)) := by
  subst hr
  rcases h with ⟨h, _⟩ | ⟨_, b', off', cap', he, h2, h3, h4, h5⟩
  · exact absurd h hl
  · simp only [Value.slice.injEq, Option.some.injEq, Addr.mk.injEq] at he
    obtain ⟨⟨rfl, rfl, _⟩, _, rfl⟩ := he
    refine BtsAt.mk' hm (by omega) (by omega) h4 fun j c hj => ?_
    rw [Nat.add_assoc]; exact h5 (A + j) c (by simpa using hj)
end Go.Proofs.Ytebedfcdbhgfdaa
