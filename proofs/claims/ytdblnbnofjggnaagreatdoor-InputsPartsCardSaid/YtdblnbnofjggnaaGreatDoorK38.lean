/- Parts of the proofs of chapter 49's laws: Jmo. -/
import Derived.Test.YtdblnbnofjggnaaGreatDoorK37
namespace Go.Proofs.YtdblnbnofjggnaaGreatDoor
open Go.RowKit
def DB (B : Nat) (w : World) : Nat → Prop := fun j => (False ∨ B ≤ j) ∧ j < w.heap.size
theorem DB.mono {B : Nat} {w w' : World} (hb : Below w.heap.size w w') : ∀ k, DB B w k → DB B w' k := fun _ h => ⟨h.1, Nat.lt_of_lt_of_le h.2 hb.size⟩
theorem It.ok_keepD {D D' : Nat → Prop} {w w' : World} {t : It} (h : t.ok D w) (hb : Below w.heap.size w w') (hD : ∀ k, D k → k < w.heap.size) (hB : ∀ k, D k → D' k) : t.ok D' w' := by
 cases t with
 | nums l v => exact ⟨h.1, h.2.1, h.2.2.ext hb⟩
 | val x lx => exact NewV.keep h hB (fun k hk => hb.block k (hD k hk))
 | _ => exact h
theorem ItsAt.keepD {D D' : Nat → Prop} {w w' : World} {l : List It} {v : Value} (h : ItsAt D w l v) (hb : Below w.heap.size w w') (hD : ∀ k, D k → k < w.heap.size) (hB : ∀ k, D k → D' k) : ItsAt D' w' l v := by
 refine ⟨fun t ht => It.ok_keepD (h.1 t ht) hb hD hB, ?_⟩
 rcases h.2 with h | ⟨b, cap, h1, h2, h3⟩
 · exact .inl h
 · exact .inr ⟨b, cap, h1, Nat.lt_of_lt_of_le h2 hb.size, fun j t ht => (World.cell?_of_block (w := w) (hb.block b h2)).trans (h3 j t ht)⟩
inductive GK where
 | eq (u : Value)
 | its (l : List It)
 | val (x : V)
 | ifv (x : V)
 | itx (xs : List V)
 | own (xs : List V)
 | vals (xs : List V)
 | ints (l : List Int)
 | owns (xs : List V)
 | one (x : V)
def GK.ok (B : Nat) (v : Value) (w : World) : GK → Prop
 | .eq u => v = u
 | .its l => ItsAt (fun _ => False) w l v
 | .val x => ∃ lx, v = .agg #[.int .i64 x.kind, .int .i64 x.n, .string x.s, lx] ∧ NewV (DB B w) w x lx
 | .ifv x => ∃ lx, v = .iface 80 (.agg #[.int .i64 x.kind, .int .i64 x.n, .string x.s, lx]) ∧ NewV (DB B w) w x lx
 | .itx xs => ∃ its, its.map It.x = xs ∧ ItsAt (DB B w) w its v
 | .own xs => ∃ lv, v = .agg (lvC lv).toArray ∧ OwnL (fun _ => False) B w lv xs
 | .vals xs => SlVD (DB B w) w xs v
 | .ints l => LsAt nuK w.heap.size w l v
 | .owns xs => OwnL (fun _ => False) B w v xs
 | .one x => ∃ Bk lx, v = .slice (some ⟨Bk, 0, none⟩) 1 1 ∧ Bk < w.heap.size ∧ (w.cell? ⟨Bk, 0, none⟩ = some (.int .i64 x.kind) ∧ w.cell? ⟨Bk, 1, none⟩ = some (.int .i64 x.n) ∧ w.cell? ⟨Bk, 2, none⟩ = some (.string x.s) ∧ w.cell? ⟨Bk, 3, none⟩ = some lx) ∧ NewV (DB B w) w x lx
theorem GK.keep {B : Nat} {v : Value} {w w' : World} {g : GK} (h : g.ok B v w) (hb : Below w.heap.size w w') : g.ok B v w' := by
 cases g with
 | eq u => exact h
 | its l => exact ItsAt.keep h hb (fun k hk => hk.elim)
 | val x => obtain ⟨lx, h1, h2⟩ := h; exact ⟨lx, h1, NewV.keep h2 (DB.mono hb) (fun k hk => hb.block k hk.2)⟩
 | ifv x => obtain ⟨lx, h1, h2⟩ := h; exact ⟨lx, h1, NewV.keep h2 (DB.mono hb) (fun k hk => hb.block k hk.2)⟩
 | itx xs => obtain ⟨its, h1, h2⟩ := h; exact ⟨its, h1, h2.keepD hb (fun k hk => hk.2) (DB.mono hb)⟩
 | own xs => obtain ⟨lv, h1, h2⟩ := h; exact ⟨lv, h1, h2.ext hb⟩
 | vals xs => exact SlVD.keep h (DB.mono hb) (fun k hk => hb.block k hk.2)
 | ints l => exact LsAt.ext h hb
 | owns xs => exact OwnL.ext h hb
 | one x =>
  obtain ⟨Bk, lx, h1, h2, ⟨c0, c1, c2, c3⟩, h4⟩ := h
  have hc : ∀ o, w'.cell? ⟨Bk, o, none⟩ = w.cell? ⟨Bk, o, none⟩ := fun o => World.cell?_of_block (w := w) (hb.block Bk h2)
  exact ⟨Bk, lx, h1, Nat.lt_of_lt_of_le h2 hb.size, ⟨(hc 0).trans c0, (hc 1).trans c1, (hc 2).trans c2, (hc 3).trans c3⟩, NewV.keep h4 (DB.mono hb) (fun k hk => hb.block k hk.2)⟩
def GT (B : Nat) (tab : List GK) (k : Nat) (v : Value) (w : World) : Prop := match tab[k]? with | some g => g.ok B v w | none => True
theorem GT.keep {B : Nat} {tab : List GK} {k : Nat} {v : Value} {w w' : World} (h : GT B tab k v w) (hb : Below w.heap.size w w') : GT B tab k v w' := by
 unfold GT at *
 cases hk : tab[k]? with
 | none => trivial
 | some g => rw [hk] at h; exact GK.keep h hb
theorem GT.mk {B : Nat} {tab : List GK} {k : Nat} {v : Value} {w : World} {g : GK} (h : tab[k]? = some g) (hg : g.ok B v w) : GT B tab k v w := by
 unfold GT; rw [h]; exact hg
theorem GT.out {B : Nat} {tab : List GK} {k : Nat} {v : Value} {w : World} {g : GK} (h : tab[k]? = some g) (hg : GT B tab k v w) : g.ok B v w := by
 unfold GT at hg; rw [h] at hg; exact hg
theorem ownL_flat {D : Nat → Prop} {B B' : Nat} {w : World} {lv : Value} {xs : List V} (h : OwnL D B w lv xs) (hB : B' ≤ B) (hD : ∀ j, D j → B' ≤ j) : OwnL (fun _ => False) B' w lv xs := by
 obtain ⟨⟨lvs, h1, h2, h3, h4⟩, h5⟩ := h
 refine ⟨⟨lvs, ⟨h1.1, ?_⟩, velems_keep (fun k hk => ⟨.inr (hk.1.elim (hD k) (Nat.le_trans hB)), hk.2⟩) (fun _ _ => rfl) _ _ h2, h3, fun k hk => hk.2.2⟩, fun j h => h.elim⟩
 rcases h1.2 with h | ⟨g, cap, cur, e1, e2, e3⟩
 · exact .inl h
 · exact .inr ⟨g, cap, cur, e1, Nat.le_trans hB e2, e3⟩
theorem newL {D : Nat → Prop} {B0 B : Nat} {w : World} {lv : Value} {xs : List V} (h : OwnL D B w lv xs) (hB : B0 ≤ B) (hD : ∀ j, D j → B0 ≤ j) : NewV (DB B0 w) w (lV xs) lv :=
 ⟨by show I64 3; unfold I64; omega, by show I64 0; unfold I64; omega, by show (0 : Nat) ≤ _; unfold maxLen; decide, h.sl.keep (fun k hk => ⟨.inr (hk.1.elim (hD k) (Nat.le_trans hB)), hk.2⟩) (fun _ _ => rfl)⟩
theorem newO {B : Nat} {w : World} {lv : Value} {xs : List V} (h : OwnL (fun _ => False) B w lv xs) : NewV (DB B w) w (lV xs) lv := newL h (Nat.le_refl _) (fun _j h => h.elim)
section
variable {P : Program} {md : Region.Mode} {ops : Array Oper} {Q : Exit → Act → World → Prop} {S : World → Prop} {late : Nat → Bool}
def OblT (P : Program) (md : Region.Mode) (ops : Array Oper) (Q : Exit → Act → World → Prop) (S : World → Prop) (ps : List (Nat × Nat)) (B : Nat) (tab : List GK) (a0 : Act) (i : Nat) : Prop :=
 ∀ o, ops[i]? = some o → ∀ a w, (∀ d, (ps.all fun p => !(p.2 == d)) = true → a.tmps[d]? = a0.tmps[d]?) → S w → (∀ k d, ps.contains (k, d) = true → depsOn md ops i k = true → ∃ v, a.tmps[d]? = some v ∧ GT B tab k v w) →
  ∀ K' : Act → World → Prop, Shut (∀ v w', GT B tab i v w' → Below w.heap.size w w' → K' (a.put o.dst v) w') → if Region.wanted o (yielded ops a.tmps) = true then Oper.wp P o a w K' Q else K' (a.put o.dst undef) w
theorem OblT.mk {ps : List (Nat × Nat)} {B : Nat} {tab : List GK} {a0 : Act} {i : Nat} {o : Oper} (ho : ops[i]? = some o)
 (h : ∀ a w, (∀ d, (ps.all fun p => !(p.2 == d)) = true → a.tmps[d]? = a0.tmps[d]?) → S w → (∀ k d, ps.contains (k, d) = true → depsOn md ops i k = true → ∃ v, a.tmps[d]? = some v ∧ GT B tab k v w) →
 ∀ K' : Act → World → Prop, Shut (∀ v w', GT B tab i v w' → Below w.heap.size w w' → K' (a.put o.dst v) w') → if Region.wanted o (yielded ops a.tmps) = true then Oper.wp P o a w K' Q else K' (a.put o.dst undef) w) : OblT P md ops Q S ps B tab a0 i := fun o' ho' => by
 rw [ho] at ho'
 cases ho'
 exact h
def OblA (P : Program) (md : Region.Mode) (ops : Array Oper) (Q : Exit → Act → World → Prop) (S : World → Prop) (ps : List (Nat × Nat)) (B : Nat) (tab : List GK) (a0 : Act) : List Nat → Prop
 | [] => True
 | i :: r => OblT P md ops Q S ps B tab a0 i ∧ OblA P md ops Q S ps B tab a0 r
theorem OblA.cons {ps : List (Nat × Nat)} {B : Nat} {tab : List GK} {a0 : Act} {i : Nat} {r : List Nat} (h : OblT P md ops Q S ps B tab a0 i) (hr : OblA P md ops Q S ps B tab a0 r) : OblA P md ops Q S ps B tab a0 (i :: r) := ⟨h, hr⟩
theorem OblA.all {ps : List (Nat × Nat)} {B : Nat} {tab : List GK} {a0 : Act} : ∀ {l : List Nat}, OblA P md ops Q S ps B tab a0 l → ∀ i ∈ l, OblT P md ops Q S ps B tab a0 i
 | [], _, _, h => by cases h
 | j :: r, h, i, hi => by
  rcases List.mem_cons.1 hi with rfl | hi
  · exact h.1
  · exact OblA.all h.2 i hi
theorem ocO {ps : List (Nat × Nat)} {B : Nat} {tab : List GK} {a0 : Act} {i : Nat} {o : Oper} {r : List Nat}
 (h : ∀ a w, (∀ d, (ps.all fun p => !(p.2 == d)) = true → a.tmps[d]? = a0.tmps[d]?) → S w → (∀ k d, ps.contains (k, d) = true → depsOn md ops i k = true → ∃ v, a.tmps[d]? = some v ∧ GT B tab k v w) →
 ∀ K' : Act → World → Prop, Shut (∀ v w', GT B tab i v w' → Below w.heap.size w w' → K' (a.put o.dst v) w') → if Region.wanted o (yielded ops a.tmps) = true then Oper.wp P o a w K' Q else K' (a.put o.dst undef) w) (hr : OblA P md ops Q S ps B tab a0 r) (ho : ops[i]? = some o := by exact rfl) : OblA P md ops Q S ps B tab a0 (i :: r) := ⟨OblT.mk ho h, hr⟩
theorem dpO {ps : List (Nat × Nat)} {B : Nat} {tab : List GK} {i : Nat} {a : Act} {w : World} {u : Value} (hd : ∀ k d, ps.contains (k, d) = true → depsOn md ops i k = true → ∃ v, a.tmps[d]? = some v ∧ GT B tab k v w) (k d : Nat)
 (h1 : ps.contains (k, d) = true := by kernel_rfl) (h2 : depsOn md ops i k = true := by kernel_rfl) (hg : tab[k]? = some (.eq u) := by exact rfl) : a.tmps[d]? = some u := by
 obtain ⟨v, e, q⟩ := hd k d h1 h2
 have q := GT.out hg q
 replace q : v = u := q
 rw [e, q]
theorem daO {ps : List (Nat × Nat)} {a a0 : Act} {v : Value} (ha : ∀ d, (ps.all fun p => !(p.2 == d)) = true → a.tmps[d]? = a0.tmps[d]?) (d : Nat) (h1 : (ps.all fun p => !(p.2 == d)) = true := by kernel_rfl) (h2 : a0.tmps[d]? = some v := by exact rfl) : a.tmps[d]? = some v := (ha d h1).trans h2
theorem gqO {B : Nat} {tab : List GK} {i : Nat} {a : Act} {w : World} {v : Value} {d : Option Tmp} {K' : Act → World → Prop} (hK : Shut (∀ v w', GT B tab i v w' → Below w.heap.size w w' → K' (a.put d v) w')) (hg : tab[i]? = some (.eq v) := by exact rfl) : K' (a.put d v) w := hK.out _ _ (GT.mk hg rfl) (Below.refl _ _)
theorem wpAnyL_table (ps : List (Nat × Nat)) {listed : Array Bool} (listedEnd : Array Bool) (fuelEnd : Nat) {fuel : Nat} {a0 : Act} {w : World} (B : Nat) (tab : List GK)
 (hck : midsOk md ops listed (ps.map Prod.fst) = true) (hnd : (ps.map Prod.fst).Nodup) (hnd2 : (ps.map Prod.snd).Nodup) (hd : (ps.all fun p => dstOf ops p.1 == p.2 && Nat.blt p.2 a0.tmps.size) = true)
 (hl : (lsOf listed (fun _ => false) == listed) = true) (hle : (lsOf listed (fun k => (ps.map Prod.fst).contains k) == listedEnd) = true) (hf : (fuel == ps.length + fuelEnd) = true)
 (hS : ∀ w w', S w → Below w.heap.size w w' → S w') (hs : S w)
 (hop : OblA P md ops Q S ps B tab a0 (ps.map Prod.fst))
 (hend : ∀ (a : Act) w', (∀ d, (ps.all fun p => !(p.2 == d)) = true → a.tmps[d]? = a0.tmps[d]?) → a.defers = a0.defers → a.tmps.size = a0.tmps.size → S w' → (∀ k d, ps.contains (k, d) = true → ∃ v, a.tmps[d]? = some v ∧ GT B tab k v w') → wpAnyL P md ops Q S late fuelEnd listedEnd a w') :
 wpAnyL P md ops Q S late fuel listed a0 w := by
 have hd' : ∀ p ∈ ps, dstOf ops p.1 = p.2 ∧ p.2 < a0.tmps.size := fun p hp => by
  have := List.all_eq_true.1 hd p hp
  rw [Bool.and_eq_true, beq_iff_eq, Nat.blt_eq] at this
  exact this
 have hno : ∀ d, (ps.all fun p => !(p.2 == d)) = true → ∀ p ∈ ps, p.2 ≠ d := fun d h p hp e => by
  have := List.all_eq_true.1 h p hp
  simp [e] at this
 refine wpAnyL_through ps listedEnd fuelEnd (GT B tab) hck hnd hnd2 hd hl hle hf (fun _ _ _ _ h hb => GT.keep h hb) hS hs (fun i hi o ho a wa ha hsa hda K' hK => ?_) (fun vals w' hs' hg => ?_)
 · refine OblA.all hop i hi o ho a wa (fun d hx => ha.tmp d fun j hj e => ?_) hsa (fun k d hx hdep => hda (k, d) (by simpa using hx) hdep) K' hK
   obtain ⟨p, hp, rfl⟩ := List.mem_map.1 hj
   rw [(hd' p hp).1] at e
   exact hno d hx p hp e
 · exact hend _ w' (fun d hx => layL_get vals ps a0 d (hno d hx)) (layL_defers vals ps a0) (layL_size vals ps a0) hs' (fun k d hx => by
    have hp : (k, d) ∈ ps := by simpa using hx
    exact ⟨_, layL_hit vals ps a0 (k, d) hp hnd2 (hd' _ hp).2, hg _ hp⟩)
end
end Go.Proofs.YtdblnbnofjggnaaGreatDoor
