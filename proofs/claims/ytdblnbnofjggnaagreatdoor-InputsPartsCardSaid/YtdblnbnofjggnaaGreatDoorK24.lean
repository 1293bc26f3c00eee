/- Parts of the proofs of chapter 49's laws: Rdy Rdz Dec Ded Dee Pla Drd. -/
import Derived.Test.YtdblnbnofjggnaaGreatDoorK22
import Derived.Deep.RegionLaw
import Derived.Defers
import Derived.Recover
import Derived.Laws.EntriesVeiled
import Derived.Test.YtdblnbnofjggnaaGreatDoorK21
import Derived.Test.YtdblnbnofjggnaaGreatDoorK10
namespace Go.Proofs.YtdblnbnofjggnaaGreatDoor
open Go.RowKit
def ListRel (B R T : Nat) (d n : Nat) (w : World) (r0 : List UInt8) (i : Value) (wr : World) : Prop :=
 ∃ (k : Nat) (xs : List V) (r : List UInt8) (lv : Value), k ≤ n ∧ i = .int .i64 k ∧ rdVs (rdV d) k r0 = some (xs, r) ∧ xs.length = k ∧ r.length ≤ 1000000 ∧ BoxAt wr T (.int .i64 3) (.int .i64 0) (.string ⟨#[]⟩) lv ∧
  (∃ oa cap, lv = .slice oa k cap) ∧ OwnV 80 (fun g => T < g ∧ some g ≠ lv.ownBlock ∧ g < wr.heap.size) wr (T + 1) lv xs ∧ RdrAt B wr R r ∧ w.grownBy wr (some R)
theorem rdVs_le (f : List UInt8 → Option (V × List UInt8)) : ∀ (n k : Nat) (l : List UInt8), k ≤ n → rdVs f k l = none → rdVs f n l = none
 | 0, k, l, hk, h => by obtain rfl : k = 0 := by omega
                        exact h
 | n + 1, k, l, hk, h => by
  by_cases he : k = n + 1
  · subst he; exact h
  · simp only [rdVs, rdVs_le f n k l (by omega) h]
theorem rdVs_none (f : List UInt8 → Option (V × List UInt8)) (n k : Nat) (l r : List UInt8) (xs : List V) (hk : k < n) (h : rdVs f k l = some (xs, r)) (hr : f r = none) : rdVs f n l = none :=
 rdVs_le f n (k + 1) l (by omega) (by simp only [rdVs, h, hr])
theorem rdVs_some (f : List UInt8 → Option (V × List UInt8)) (k : Nat) (l r r' : List UInt8) (xs : List V) (x : V) (h : rdVs f k l = some (xs, r)) (hr : f r = some (x, r')) : rdVs f (k + 1) l = some (xs ++ [x], r') := by
 simp only [rdVs, h, hr]
theorem OwnV.own_lt {e : TypeId} {D : Nat → Prop} {w : World} {base : Nat} {v : Value} {l : List V} (h : OwnV e D w base v l) (g : Nat) (hg : v.ownBlock = some g) : base ≤ g ∧ g < w.heap.size := by
 obtain ⟨lvs, h1, h2, h3, h4⟩ := h
 rcases h1.2 with ⟨rfl, h0⟩ | ⟨g', cap, cur, rfl, hb, hgb, hn, hm, hcs, ht⟩
 · simp [Value.ownBlock] at hg
 · simp [Value.ownBlock] at hg; subst hg
   exact ⟨hb, by
    rcases Nat.lt_or_ge g' w.heap.size with hx | hx
    · exact hx
    · rw [Array.getElem?_eq_none hx] at hgb; cases hgb⟩
theorem rdVs_len (f : List UInt8 → Option (V × List UInt8)) (hf : ∀ l x r, f l = some (x, r) → r.length < l.length) : ∀ (n : Nat) (l : List UInt8) (xs : List V) (r : List UInt8), rdVs f n l = some (xs, r) → r.length ≤ l.length
 | 0, l, xs, r, h => by simp [rdVs] at h; obtain ⟨rfl, rfl⟩ := h; exact Nat.le_refl _
 | n + 1, l, xs, r, h => by
  simp only [rdVs] at h
  cases hN : rdVs f n l with
  | none => rw [hN] at h; cases h
  | some p =>
   obtain ⟨ys, t⟩ := p
   rw [hN] at h; simp only at h
   cases hM : f t with
   | none => rw [hM] at h; cases h
   | some q =>
    obtain ⟨y, t'⟩ := q
    rw [hM] at h; simp at h
    obtain ⟨_, rfl⟩ := h
    have := rdVs_len f hf n l ys t hN
    have := hf t y t' hM
    omega
theorem rdV_len : ∀ (d : Nat) (l : List UInt8) (x : V) (r : List UInt8), rdV d l = some (x, r) → r.length < l.length := by
 intro d
 induction d with
 | zero =>
  intro l x r h
  cases l with
  | nil => rw [rdV_nil] at h; cases h
  | cons c t =>
   by_cases h1 : c = 1
   · subst h1; rw [rdV_1] at h
     cases hN : rdNum 0 0 t with
     | none => rw [hN] at h; cases h
     | some p => obtain ⟨u, t'⟩ := p; rw [hN] at h; simp at h; obtain ⟨_, rfl⟩ := h; have := rdNum_len t 0 0 _ _ hN; simp; omega
   · by_cases h2 : c = 2
     · subst h2; rw [rdV_2] at h
       cases hN : rdLen t with
       | none => rw [hN] at h; cases h
       | some p => obtain ⟨u, t'⟩ := p; rw [hN] at h; simp at h; obtain ⟨_, rfl⟩ := h; have := rdLen_len hN; simp; omega
     · by_cases h3 : c = 3
       · subst h3; rw [rdV_30] at h; cases h
       · rw [rdV_bad 0 c t h1 h2 h3] at h; cases h
 | succ d ih =>
  intro l x r h
  cases l with
  | nil => rw [rdV_nil] at h; cases h
  | cons c t =>
   by_cases h1 : c = 1
   · subst h1; rw [rdV_1] at h
     cases hN : rdNum 0 0 t with
     | none => rw [hN] at h; cases h
     | some p => obtain ⟨u, t'⟩ := p; rw [hN] at h; simp at h; obtain ⟨_, rfl⟩ := h; have := rdNum_len t 0 0 _ _ hN; simp; omega
   · by_cases h2 : c = 2
     · subst h2; rw [rdV_2] at h
       cases hN : rdLen t with
       | none => rw [hN] at h; cases h
       | some p => obtain ⟨u, t'⟩ := p; rw [hN] at h; simp at h; obtain ⟨_, rfl⟩ := h; have := rdLen_len hN; simp; omega
     · by_cases h3 : c = 3
       · subst h3; rw [rdV_3] at h
         cases hN : rdLen t with
         | none => rw [hN] at h; cases h
         | some p =>
          obtain ⟨n, t'⟩ := p; rw [hN] at h; simp only at h
          cases hM : rdVs (rdV d) n t' with
          | none => rw [hM] at h; cases h
          | some q =>
           obtain ⟨xs, t2⟩ := q; rw [hM] at h; simp at h; obtain ⟨_, rfl⟩ := h
           have := rdLen_len hN
           have := rdVs_len (rdV d) ih n t' xs t2 hM
           simp; omega
       · rw [rdV_bad (d + 1) c t h1 h2 h3] at h; cases h
theorem OwnV.mono {e : TypeId} {D D' : Nat → Prop} {w : World} {base : Nat} {v : Value} {l : List V} (h : OwnV e D w base v l) (hB : ∀ k, D k → D' k) (h4 : ∀ k, D' k → some k ≠ v.ownBlock) : OwnV e D' w base v l := by
 obtain ⟨lvs, h1, h2, h3, _⟩ := h
 exact ⟨lvs, h1, velems_keep hB (fun _ _ => rfl) l lvs h2, h3, h4⟩
theorem OwnV.shape {e : TypeId} {D : Nat → Prop} {w : World} {base : Nat} {v : Value} {l : List V} (h : OwnV e D w base v l) : ∃ oa cap, v = .slice oa l.length cap := by
 obtain ⟨lvs, h1, h2, h3, _⟩ := h
 rcases h1.2 with ⟨rfl, h0⟩ | ⟨g, cap, cur, rfl, _⟩
 · exact ⟨none, 0, by rw [h0]⟩
 · exact ⟨_, cap, rfl⟩
theorem SlVD.one {D : Nat → Prop} {w : World} {l : List V} {lv : Value} (h : SlVD D w l lv) : lv.oneCell' = true := by
 rcases h with ⟨_, oa, cap, rfl⟩ | ⟨_, c, o, cap, rfl, _⟩ <;> rfl
theorem listRel_next {B R T d n k : Nat} {w wr w9 w' : World} {r0 r3 : List UInt8} {x : V} {xs : List V} {oa oa2 : Option Addr} {cp cp2 : Nat} (hT : T = w.heap.size) (hRT : R < T) (hkn : k < n) (hxl : xs.length = k)
 (hn : rdVs (rdV d) (k + 1) r0 = some (xs ++ [x], r3)) (hr3 : r3.length ≤ 1000000) (hbx : BoxAt wr T (.int .i64 3) (.int .i64 0) (.string ⟨#[]⟩) (.slice oa k cp))
 (hg3 : w.grownBy wr (some R)) (hTw : T < wr.heap.size) (hg9 : wr.grownBy w9 (some R)) (hrd9 : RdrAt B w9 R r3) (ob : Obj)
 (hown0 : ∀ g, (Value.slice oa k cp).ownBlock = some g → T + 1 ≤ g ∧ g < wr.heap.size)
 (ho : OwnV 80 (fun g => T < g ∧ some g ≠ (Value.slice oa k cp).ownBlock ∧ g < (w9.alloc ob).heap.size) w' (T + 1) (.slice oa2 (xs ++ [x]).length cp2) (xs ++ [x])) (hg : (w9.alloc ob).grownBy w' (Value.slice oa k cp).ownBlock) :
 ListRel B R T d n w r0 (.int .i64 ((k : Int) + 1)) (w'.setCell ⟨T, 3, none⟩ (.slice oa2 (xs ++ [x]).length cp2)) := by
 have hl : (xs ++ [x]).length = k + 1 := by simp [hxl]
 have hTo : some T ≠ (Value.slice oa k cp).ownBlock := fun e => by have := hown0 _ e.symm; omega
 have hRo : ∀ j, j ≤ R → some j ≠ (Value.slice oa k cp).ownBlock := fun j hj e => by have := hown0 _ e.symm; omega
 have hs9 := hg9.size
 have hs' := hg.size
 have hbx9 := hbx.grown hg9 (by omega)
 have hTa : T < (w9.alloc ob).heap.size := by simp; omega
 have cl : ∀ i, w'.cell? ⟨T, i, none⟩ = w9.cell? ⟨T, i, none⟩ := fun i => World.cell?_of_block (w := w9) ((hg.block T hTa hTo).trans (Below.heap_alloc w9 ob T (by omega)))
 have fl : ∀ i, w'.frozen? ⟨T, i, none⟩ = w9.frozen? ⟨T, i, none⟩ := fun i => World.frozen?_of_block (w := w9) ((hg.block T hTa hTo).trans (Below.heap_alloc w9 ob T (by omega)))
 have hwg : w.grownBy w' (some R) := grown_trans (grown_alloc (grown_trans hg3 hg9 (.inl rfl)) ob) hg (.inr fun g hg => by have := hown0 g hg; omega)
 rw [hl] at ho ⊢
 have hob := OwnV.own_lt ho
 refine ⟨k + 1, xs ++ [x], r3, .slice oa2 (k + 1) cp2, by omega, by simp, hn, hl, hr3, ?_, ⟨oa2, cp2, rfl⟩, ?_, ?_, grown_set_new hwg (by omega)⟩
 · refine ⟨?_, ?_, ?_, ?_, ?_⟩
   · rw [World.cell?_setCell_other _ _ _ _ (by simp), cl 0]; exact hbx9.c0
   · rw [World.cell?_setCell_other _ _ _ _ (by simp), cl 1]; exact hbx9.c1
   · rw [World.cell?_setCell_other _ _ _ _ (by simp), cl 2]; exact hbx9.c2
   · exact World.cell?_setCell_same' _ _ _ (by rw [cl 3, hbx9.c3]; rfl)
   · intro o; rw [World.frozen?_setCell, fl o]; exact hbx9.fr o
 · obtain ⟨lvs, _, _, _, hd4⟩ := id ho
   refine ((OwnV.kept ho (grown_setT w' T 3 _) (.inr fun e => by have := hob T e; omega) (fun j hj e => by injection e with e; have := hj.1; omega) (fun j hj => by have := hj.2.2; omega))).mono (fun j hj => ⟨hj.1, hd4 j hj, by have := hj.2.2; simp [World.setCell]; omega⟩) ?_
   exact fun j hj => hj.2.1
 · refine RdrAt.set ?_ hRT
   exact hrd9.keep fun j hj => (hg.block j (by simp; omega) (hRo j hj)).trans (Below.heap_alloc w9 ob j (by omega))
set_option maxRecDepth 100000 in
set_option maxHeartbeats 4000000 in
theorem value_3 (d : Nat) (hd : d ≤ 16) (ih : ∀ d', d = d' + 1 → ValSaid d') (B R : Nat) (r : List UInt8) (hl : (3 :: r).length ≤ 1000000) (w : World) (hr : RdrAt B w R (3 :: r)) (hRw : R < w.heap.size) :
 Calls Tryz.prog 117 #[.pointer (some ⟨R, 0, none⟩), .int .i64 (16 - (d : Int))] w (ValPost B R (rdV d (3 :: r)) w) := by
 have HR := Lib.hid hr; clear hr
 have IH := Lib.hid ih; clear ih
 have hrl : r.length ≤ 1000000 := by simp at hl; omega
 cases d with
 | zero =>
  have hn := Lib.hid (rdV_30 r)
  go_enter Tryz.func117, Tryz.ntmps117
  go_wp2_with (first
   | (go_at_call 169; refine (value_head B R 3 r hl w HR.out hRw _).mono ?_; rintro e w1 ⟨b, off, cap, v', rfl, rfl, hbR, hbw, hc, hrd⟩)
   | (go_at_call 118; refine (want_false _ _).mono ?_; rintro e w' ⟨rfl, rfl⟩))
  exact ⟨rfl, by rw [hn.out]; exact And.intro rfl (grown_alloc (setCell_grown w R v') _)⟩
 | succ d =>
  have hd' : d ≤ 15 := by omega
  have hv := Lib.hid (rdV_3 d r)
  have hdt : decide ((16 - ((d : Int) + 1)) < 16) = true := by simp; omega
  cases hN : rdLen r with
  | none =>
   have hn : Hid (rdV (d + 1) (3 :: r) = none) := by show _ = _; rw [hv.out, hN]
   have HN := Lib.hid hN; clear hN
   go_enter Tryz.func117, Tryz.ntmps117
   go_wp2_with (first
    | (go_at_call 169; refine (value_head B R 3 r hl w HR.out hRw _).mono ?_; rintro e w1 ⟨b, off, cap, v', rfl, rfl, hbR, hbw, hc, hrd⟩)
    | (go_at_call 118; refine (want_true _ _).mono ?_; rintro e w' ⟨rfl, rfl⟩))
   have hszw : (w.setCell ⟨R, 0, none⟩ v').heap.size = w.heap.size := by simp [World.setCell]
   refine (length_any B R r hrl _ (hrd.keep fun k hk => Below.heap_alloc _ _ k (by omega))).mono ?_
   rw [HN.out]
   rintro e w2 ⟨rfl, hg⟩
   exact ⟨rfl, by rw [hn.out]; exact And.intro rfl (grown_trans (grown_alloc (setCell_grown w R v') _) hg (.inl rfl))⟩
  | some p =>
   obtain ⟨n, r'⟩ := p
   have hlen := rdLen_len hN
   have HN := Lib.hid hN; clear hN
   go_enter Tryz.func117, Tryz.ntmps117
   go_wp2_with (first
    | (go_at_call 169; refine (value_head B R 3 r hl w HR.out hRw _).mono ?_; rintro e w1 ⟨b, off, cap, v', rfl, rfl, hbR, hbw, hc, hrd⟩)
    | (go_at_call 118; refine (want_true _ _).mono ?_; rintro e w' ⟨rfl, rfl⟩))
   have hszw : (w.setCell ⟨R, 0, none⟩ v').heap.size = w.heap.size := by simp [World.setCell]
   refine (length_any B R r hrl _ (hrd.keep fun k hk => Below.heap_alloc _ _ k (by omega))).mono ?_
   rw [HN.out]
   rintro e w2 ⟨rfl, hrd2, hg⟩
   have hbx := (BoxAt.made (w.setCell ⟨R, 0, none⟩ v') 80 (.int .i64 3) (.int .i64 0) (.string ⟨#[]⟩) (.slice none 0 0)).grown hg (by omega)
   rw [hszw] at hbx
   have hgw : w.grownBy w2 (some R) := grown_trans (grown_alloc (setCell_grown w R v') _) hg (.inl rfl)
   clear hg hc hrd
   have HB := Lib.hid hbx; clear hbx
   go_wp2
   go_loopw [37] (fun i wr => ListRel B R w.heap.size d n w r' i wr) (fun i _ => n - (intOf i).toNat)
   case atStart => exact ⟨0, [], r', .slice none 0 0, Nat.zero_le _, rfl, rfl, rfl, by omega, HB.out, ⟨none, 0, rfl⟩, ⟨[], World.ownsRow_nil _ _ _ _, trivial, by simp, by simp [Value.ownBlock]⟩, hrd2, hgw⟩
   case round =>
    obtain ⟨k, xs, r2, lv, hkn, rfl, hrd, hxl, hr2, hbx, ⟨oa, cp, rfl⟩, hown, hrd3, hg3⟩ := hrel
    have hsz3 := hg3.size
    have hRwr : R < wr.heap.size := by omega
    have Hrd := Lib.hid hrd; have Hxl := Lib.hid hxl; have Hown := Lib.hid hown; have Hrd3 := Lib.hid hrd3; have Hbx := Lib.hid hbx
    clear hrd hxl hown hrd3
    by_cases hlt : k < n
    case neg =>
     obtain rfl : k = n := by omega
     have hn : Hid (rdV (d + 1) (3 :: r) = some (.mk 3 0 ⟨#[]⟩ xs, r2)) := by show _ = _; rw [hv.out, HN.out]; simp only; rw [Hrd.out]
     obtain ⟨x0, x1, x2, x3, xf⟩ := hbx
     go_wp2
     refine bodyPost_ret (v := .agg #[.int .i64 3, .int .i64 0, .string ⟨#[]⟩, .slice oa k cp]) (by simp [results, Tryz.results117, go_sem, x0, x1, x2, x3]) rfl ?_
     rw [hn.out]
     have hsl : SlVD (fun g => w.heap.size < g ∧ g < wr.heap.size) wr xs (.slice oa k cp) := Hown.out.sl (fun g hg => by have := hg.1; have := hg.2.2; omega) (fun g hg => by have := Hown.out.own_lt g hg; omega)
     exact ⟨_, rfl, ⟨by show I64 3; unfold I64; omega, by show I64 0; unfold I64; omega, Nat.zero_le maxLen, _, rfl, hsl.keep (fun g hg => ⟨by omega, by simp [World.setCell]; omega⟩) (fun g hg => by repeat (first | rfl | refine (Below.heap_setCell _ _ _ _ (by show g ≠ w.heap.size; omega)).trans ?_))⟩, by repeat (first | exact Hrd3.out | refine RdrAt.set ?_ hRw), by repeat (first | exact hg3 | refine grown_set_new ?_ (Nat.le_refl _))⟩
    case pos =>
     cases hE : rdV d r2 with
     | none =>
      have hn : Hid (rdV (d + 1) (3 :: r) = none) := by show _ = _; rw [hv.out, HN.out]; simp only; rw [rdVs_none _ n k _ _ xs hlt Hrd.out hE]
      have HE := Lib.hid hE; clear hE
      have hw : IntKind.i64.wrap (16 - ((d : Int) + 1) + 1) = 16 - (d : Int) := by rw [IntKind.wrap_i64]; omega
      obtain ⟨x0, x1, x2, x3, xf⟩ := hbx
      go_wp2
      have HW := Lib.hid hw
      refine wp_region_any (by kernel_rfl) ?_
      try (change wpAny _ _ _ _ _ _ _ (World.drew _))
      refine wpAny_take (i := 0) (v := ?_) rfl (by kernel_rfl) (by kernel_rfl) (by kernel_rfl) (fun _ _ _ h => h) (Or.inl ⟨by rfl, ?hy0⟩) ?rest0
      case hy0 => (intro w; go_simp; try with_reducible rfl)
      refine wpAny_take (i := 2) (v := ?_) rfl (by kernel_rfl) (by kernel_rfl) (by kernel_rfl) (fun _ _ _ h => h) (Or.inl ⟨by rfl, ?hy2⟩) ?rest2
      case hy2 => (intro w; go_simp; try with_reducible rfl)
      refine wpAny_take (i := 3) (v := ?_) rfl (by kernel_rfl) (by kernel_rfl) (by kernel_rfl) (fun _ _ _ h => h) (Or.inl ⟨by rfl, ?hy3⟩) ?rest3
      case hy3 => (intro w; go_simp; try with_reducible rfl)
      refine wpAny_take (i := 4) (v := ?_) rfl (by kernel_rfl) (by kernel_rfl) (by kernel_rfl) (fun _ _ _ h => h) (Or.inl ⟨by rfl, ?hy4⟩) ?rest4
      case hy4 => (intro w; go_simp; try with_reducible rfl)
      refine wpAny_ready (rs := [1, 5]) (by kernel_rfl) (by simp) ?_
      refine AllReady.cons rfl (fun K hK => ?_) (AllReady.cons rfl (fun K hK => ?_) AllReady.nil)
      · go_simp
        refine hK _ _ ?_
        clear hK K
        refine wpAny_ready (rs := [5]) (by kernel_rfl) (by simp) ?_
        refine AllReady.cons rfl (fun K hK => ?_) AllReady.nil
        go_simp
        go_at_call 117
        refine (IH.out d rfl B R r2 _ (by first | rfl | exact HW.out) hr2 wr.drew (RdrAt.keep Hrd3.out fun j hj => rfl) (by simpa using hRwr)).mono ?_
        rw [HE.out]
        rintro e w9 ⟨rfl, hg9⟩
        go_wp2
        exact ⟨rfl, by rw [hn.out]; exact And.intro rfl (grown_trans (grown_drew' hg3) hg9 (.inl rfl))⟩
      · go_simp
        go_at_call 117
        refine (IH.out d rfl B R r2 _ (by first | rfl | exact HW.out) hr2 wr.drew (RdrAt.keep Hrd3.out fun j hj => rfl) (by simpa using hRwr)).mono ?_
        rw [HE.out]
        rintro e w9 ⟨rfl, hg9⟩
        go_wp2
        exact ⟨rfl, by rw [hn.out]; exact And.intro rfl (grown_trans (grown_drew' hg3) hg9 (.inl rfl))⟩
     | some q =>
      obtain ⟨x, r3⟩ := q
      have HE := Lib.hid hE; clear hE
      have hn : Hid (rdVs (rdV d) (k + 1) r' = some (xs ++ [x], r3)) := rdVs_some _ k _ _ _ _ _ Hrd.out HE.out
      have hw : IntKind.i64.wrap (16 - ((d : Int) + 1) + 1) = 16 - (d : Int) := by rw [IntKind.wrap_i64]; omega
      have HW := Lib.hid hw
      obtain ⟨x0, x1, x2, x3, xf⟩ := hbx
      go_wp2
      have hTwr : w.heap.size < wr.heap.size := World.block_lt_of_cell? wr _ x0
      have ho0 := Hown.out.own_lt
      have hTo : some w.heap.size ≠ (Value.slice oa k cp).ownBlock := fun e => by have := ho0 _ e.symm; omega
      have hO0 := Lib.hid ho0; clear ho0
      go_region_law (first
       | (go_simp; go_at_call 117; refine (IH.out d rfl B R r2 _ (by first | rfl | exact HW.out) hr2 wr.drew (RdrAt.keep Hrd3.out fun j hj => rfl) (by simpa using hRwr)).mono ?_; rw [HE.out]; rintro e w9 ⟨v9, rfl, hv9, hrd9, hg9'⟩
          have hg9 : wr.grownBy w9 (some R) := grown_trans (grown_drew' (grown_refl wr _)) hg9' (.inl rfl)
          have y0 : w9.cell? ⟨w.heap.size, 3, none⟩ = some (.slice oa k cp) := hg9.cell x3 (fun e => by injection e with e; exact absurd e (by show w.heap.size ≠ R; omega))
          have hs9 := hg9.size
          have hTw9 : w.heap.size < w9.heap.size := by omega
          obtain ⟨z1, z2, z3, lx, rfl, z4⟩ := hv9
          have Z := Lib.hid (And.intro z1 (And.intro z2 (And.intro z3 z4)))
          clear z1 z2 z3 z4 hg9')
       | (refine step_append_V (e := 80) (z := .agg #[.int .i64 0, .int .i64 0, .string ⟨#[]⟩, .slice none 0 0]) (bytes := 56) Tryz.underlying78 (by kernel_rfl) rfl (by decide) rfl _ _ rfl (fun g => w.heap.size < g ∧ some g ≠ (Value.slice oa k cp).ownBlock ∧ g < (w9.alloc (.cells #[.int .i64 x.kind, .int .i64 x.n, .string x.s, lx] 80)).heap.size) (w.heap.size + 1) (.slice oa k cp) xs rfl ?q1 _ x lx rfl ?q2 Z.out.2.2.2.one ?q3 ?q4 ?q5 ?q6 ?_
          case q1 =>
           refine ((Hown.out.kept hg9 (.inr fun e => by have := hO0.out R e; omega) (fun j hj e => by injection e with e; have := hj.1; omega) (fun j hj => hj.2.2)).kept (row := some R) (grown_alloc (grown_refl w9 _) _) (.inr fun e => by have := hO0.out R e; omega) (fun j hj e => by injection e with e; have := hj.1; omega) (fun j hj => by have := hj.2.2; omega)).mono (fun j hj => ⟨hj.1, hj.2.1, by have := hj.2.2; simp; omega⟩) (fun j hj => hj.2.1)
          case q2 => exact ⟨Z.out.1, Z.out.2.1, Z.out.2.2.1, Z.out.2.2.2.keep (fun j hj => ⟨by have : wr.heap.size ≤ j := hj.1; omega, fun e => by have h1 := (hO0.out j e.symm).2; have h2 : wr.heap.size ≤ j := hj.1; omega, by have := hj.2; simp; omega⟩) (fun j hj => Below.heap_alloc w9 _ j hj.2)⟩
          case q3 => simp
          case q4 => (have := Hxl.out; omega)
          case q5 => simp; omega
          case q6 => exact fun j hj => hj.2.2
          intro v' w' ho hg hnx
          obtain ⟨oa2, cp2, rfl⟩ := ho.shape
          have hTb := (hg.block w.heap.size (by simp; omega) hTo).trans (Below.heap_alloc w9 _ w.heap.size (by omega))
          have y3 : w'.cell? ⟨w.heap.size, 3, none⟩ = some (.slice oa k cp) := (World.cell?_of_block (w := w9) hTb).trans y0
          have yf : w'.frozen? ⟨w.heap.size, 3, none⟩ = false := (World.frozen?_of_block (w := w9) hTb).trans ((World.frozen?_of_block (w := wr) (hg9.block w.heap.size (by omega) (fun e => by injection e with e; omega))).trans (xf 3))
          clear hTb
          have HO := Lib.hid ho; clear ho))
      all_goals
       go_wp2
       go_roundw
       case rel =>
        have hll : (xs ++ [x]).length = xs.length + 1 := by simp
        have q := listRel_next rfl hRw hlt Hxl.out hn.out (Nat.le_trans (Nat.le_of_lt (rdV_len d r2 x r3 HE.out)) hr2) Hbx.out hg3 hTwr hg9 hrd9 _ hO0.out HO.out hg
        rw [hll] at q
        exact q
       case measure => simp [intOf]; omega
end Go.Proofs.YtdblnbnofjggnaaGreatDoor
namespace Go.Proofs.YtdblnbnofjggnaaGreatDoor
open Go.RowKit
set_option maxRecDepth 100000 in
set_option maxHeartbeats 1000000 in
theorem value_nil (d : Nat) (B R : Nat) (di : Int) (w : World) (hr : RdrAt B w R []) (hRw : R < w.heap.size) :
 Calls Tryz.prog 117 #[.pointer (some ⟨R, 0, none⟩), .int .i64 di] w (ValPost B R (rdV d []) w) := by
 have HR := Lib.hid hr; clear hr
 have hn := Lib.hid (rdV_nil d)
 go_enter Tryz.func117, Tryz.ntmps117
 go_wp2_with (go_at_call 169; refine (take_bad B R [] 1 _ rfl _ (RdrAt.keep HR.out fun k hk => Below.heap_alloc _ _ k (by omega)) (by simp) (by omega)).mono ?_; rintro e w' ⟨rfl, rfl⟩)
 exact ⟨rfl, by rw [hn.out]; exact And.intro rfl (grown_alloc (grown_refl w _) _)⟩
theorem value_any : ∀ d, d ≤ 16 → ValSaid d := by
 intro d
 induction d with
 | zero =>
  intro hd B R l di hdi hl w hr hRw
  cases l with
  | nil => exact value_nil 0 B R di w hr hRw
  | cons c r =>
   by_cases h1 : c = 1
   · subst h1; exact value_1 0 B R r di hl w hr hRw
   by_cases h2 : c = 2
   · subst h2; exact value_2 0 B R r di hl w hr hRw
   by_cases h3 : c = 3
   · subst h3; subst hdi; exact value_3 0 hd (fun d' h => by omega) B R r hl w hr hRw
   · exact value_0 0 B R c r di hl w hr hRw h1 h2 h3
 | succ d ih =>
  intro hd B R l di hdi hl w hr hRw
  cases l with
  | nil => exact value_nil (d + 1) B R di w hr hRw
  | cons c r =>
   by_cases h1 : c = 1
   · subst h1; exact value_1 (d + 1) B R r di hl w hr hRw
   by_cases h2 : c = 2
   · subst h2; exact value_2 (d + 1) B R r di hl w hr hRw
   by_cases h3 : c = 3
   · subst h3; subst hdi; exact value_3 (d + 1) hd (fun d' h => by obtain rfl : d = d' := by omega
                                                                   exact ih (by omega)) B R r hl w hr hRw
   · exact value_0 (d + 1) B R c r di hl w hr hRw h1 h2 h3
end Go.Proofs.YtdblnbnofjggnaaGreatDoor
namespace Go.Proofs.YtdblnbnofjggnaaGreatDoor
open Go.RowKit
set_option maxHeartbeats 1000000 in
theorem catch_idle (V E : Nat) (w : World) :
 CallsD Tryz.prog 116 #[.pointer (some ⟨V, 0, none⟩), .pointer (some ⟨E, 0, none⟩)] .returning w fun e u' w' => e = .returned (.tuple #[]) ∧ u' = .returning ∧ w' = w := by
 refine callsD_of_wpS Tryz.func116 rfl fun c₀ cs hu => ?_
 apply wpS_seq
 apply wpS_region
 simp [wpOpsS, go_sem, recoverD, hu, Tryz.ntmps116, Exit.thenS]
 apply wpS_seq
 apply wpS_region
 simp [wpOpsS, go_sem, Exit.thenS]
 refine wpS_cond (t := false) (by simp [Act.eval, Array.replicate]) ?_
 simp only [Bool.false_eq_true, if_false]
 refine wpS_of_wp (wp_skip ?_)
 cases c₀
 simp_all [bodyPostS, results, Tryz.results116]
theorem assert_errno (xT : TypeId) (v : Value) (w : World) : (Instr.typeAssert (.iface 44 v) xT 44 false).run Tryz.prog w = .ok v w := by kernel_rfl
def CatchW (V E : Nat) (w w' : World) : Prop :=
 BoxAt w' V (.int .i64 0) (.int .i64 0) (.string ⟨#[]⟩) (.slice none 0 0) ∧ w'.cell? ⟨E, 0, none⟩ = some (.int .i64 10) ∧ w'.frozen? ⟨E, 0, none⟩ = false ∧ ∀ (base : World) (G : Option Nat), base.grownBy w G → base.heap.size ≤ V → base.heap.size ≤ E → base.grownBy w' G
theorem catchW (V E : Nat) (a b c d x : Value) (w : World) (h : BoxAt w V a b c d) (he : w.cell? ⟨E, 0, none⟩ = some x) (hz : w.frozen? ⟨E, 0, none⟩ = false) (hne : V ≠ E) :
 CatchW V E w (((((w.setCell ⟨V, 0, none⟩ (.int .i64 0)).setCell ⟨V, 1, none⟩ (.int .i64 0)).setCell ⟨V, 2, none⟩ (.string ⟨#[]⟩)).setCell ⟨V, 3, none⟩ (.slice none 0 0)).setCell ⟨E, 0, none⟩ (.int .i64 10)).drew := by
 obtain ⟨x0, x1, x2, x3, xf⟩ := h
 refine ⟨⟨?_, ?_, ?_, ?_, ?_⟩, ?_, ?_, ?_⟩
 · simp [go_sem, x0]
 · simp [go_sem, x1]
 · simp [go_sem, x2]
 · simp [go_sem, x3]
 · intro o; simp [go_sem, xf]
 · simp [go_sem, he]
 · simp [go_sem, hz]
 · intro base G hg hV hE
   exact grown_drew' (grown_set_new (grown_set_new (grown_set_new (grown_set_new (grown_set_new hg hV) hV) hV) hV) hE)
set_option maxHeartbeats 1000000 in
theorem catch_panicking (V E : Nat) (a b c d x : Value) (w : World) (h : BoxAt w V a b c d) (he : w.cell? ⟨E, 0, none⟩ = some x) (hz : w.frozen? ⟨E, 0, none⟩ = false) (hne : V ≠ E) :
 CallsD Tryz.prog 116 #[.pointer (some ⟨V, 0, none⟩), .pointer (some ⟨E, 0, none⟩)] (.panicking badChain) w fun e u' w' =>
  e = .returned (.tuple #[]) ∧ u' = .panicking [{ v := .iface 44 (.int .i64 10), recovered := true }] ∧ CatchW V E w w' := by
 have hfin := Lib.hid (catchW V E a b c d x w h he hz hne)
 obtain ⟨x0, x1, x2, x3, xf⟩ := h
 unfold badChain
 have hta := assert_errno
 have hVl := World.block_lt_of_cell? w _ x0
 have hEl := World.block_lt_of_cell? w _ he
 refine callsD_of_wpS Tryz.func116 rfl fun c₀ cs hu => ?_
 apply wpS_seq
 apply wpS_region
 simp [wpOpsS, go_sem, recoverD, hu, Tryz.ntmps116, Exit.thenS]
 apply wpS_seq
 apply wpS_region
 simp [wpOpsS, go_sem, Exit.thenS]
 refine wpS_cond (t := true) (by simp [Act.eval, Array.replicate]) ?_
 simp only [if_true]
 refine wpS_of_wp ?_
 go_wp2
 go_region
 all_goals
  show bodyPostS _ _ _ _ _ _ _ _ _
  cases c₀
  simp only at hu
  subst hu
  simp [bodyPostS, results, Tryz.results116]
  try exact hfin.out
 all_goals trace_state
end Go.Proofs.YtdblnbnofjggnaaGreatDoor
namespace Go.Proofs.YtdblnbnofjggnaaGreatDoor
open Go.RowKit
def decF (l : List UInt8) : Option V := match rdV 16 l with | some (x, []) => some x | _ => none
def DecPost (o : Option V) (w : World) (e : Ending) (w' : World) : Prop :=
 match o with
 | some x => ∃ v, e = .returned (.tuple #[v, .int .i64 0]) ∧ RdVD (fun k => w.heap.size ≤ k ∧ k < w'.heap.size) w' x v ∧ w.grownBy w' none
 | none => e = .returned (.tuple #[.agg #[.int .i64 0, .int .i64 0, .string ⟨#[]⟩, .slice none 0 0], .int .i64 10]) ∧ w.grownBy w' none
def DecW (w : World) (v : Value) : World := ((w.alloc (.cells #[.int .i64 0, .int .i64 0, .string ⟨#[]⟩, .slice none 0 0] 80)).alloc (.cells #[.int .i64 0] 44)).alloc (.cells #[v] 141)
theorem decW_size (w : World) (v : Value) : (DecW w v).heap.size = w.heap.size + 1 + 1 + 1 := by simp [DecW]
theorem decW_grown (w : World) (v : Value) (G : Option Nat) : w.grownBy (DecW w v) G := grown_alloc (grown_alloc (grown_alloc (grown_refl w G) _) _) _
theorem cell_made (w : World) (v : Value) (t : TypeId) : (w.alloc (.cells #[v] t)).cell? ⟨w.heap.size, 0, none⟩ = some v := by simp
theorem decW_rdr {B : Nat} {l : List UInt8} {v : Value} {w : World} (hb : BtsAt B w l v) (hB : B ≤ w.heap.size) : RdrAt w.heap.size (DecW w v) (w.heap.size + 1 + 1) l := by
 refine ⟨by omega, ?_, v, ?_, ?_⟩
 · exact World.frozen?_alloc_at _ _ _ _ (by simp)
 · have e : ((w.alloc (.cells #[.int .i64 0, .int .i64 0, .string ⟨#[]⟩, .slice none 0 0] 80)).alloc (.cells #[.int .i64 0] 44)).heap.size = w.heap.size + 1 + 1 := by simp
   have h := cell_made ((w.alloc (.cells #[.int .i64 0, .int .i64 0, .string ⟨#[]⟩, .slice none 0 0] 80)).alloc (.cells #[.int .i64 0] 44)) v 141
   rw [e] at h; exact h
 · exact hb.keep hB fun k hk => (decW_grown w v none).block k (by omega) (by simp)
theorem decW_box (w : World) (v : Value) : BoxAt (DecW w v) w.heap.size (.int .i64 0) (.int .i64 0) (.string ⟨#[]⟩) (.slice none 0 0) := by
 have h := BoxAt.made w 80 (.int .i64 0) (.int .i64 0) (.string ⟨#[]⟩) (.slice none 0 0)
 exact h.grown (R := w.heap.size + 1) (grown_alloc (grown_alloc (grown_refl _ _) _) _) (by omega)
theorem decW_e (w : World) (v : Value) : (DecW w v).cell? ⟨w.heap.size + 1, 0, none⟩ = some (.int .i64 0) ∧ (DecW w v).frozen? ⟨w.heap.size + 1, 0, none⟩ = false := by
 have h : (DecW w v).heap[w.heap.size + 1]? = ((w.alloc (.cells #[.int .i64 0, .int .i64 0, .string ⟨#[]⟩, .slice none 0 0] 80)).alloc (.cells #[.int .i64 0] 44)).heap[w.heap.size + 1]? := Below.heap_alloc _ _ _ (by simp)
 exact ⟨(World.cell?_of_block (w := _) h).trans (by simp), (World.frozen?_of_block (w := _) h).trans (World.frozen?_alloc_at _ _ _ _ (by simp))⟩
theorem box_set {w : World} {V : Nat} {a b c d : Value} (h : BoxAt w V a b c d) (a' b' c' d' : Value) : BoxAt ((((w.setCell ⟨V, 0, none⟩ a').setCell ⟨V, 1, none⟩ b').setCell ⟨V, 2, none⟩ c').setCell ⟨V, 3, none⟩ d') V a' b' c' d' := by
 obtain ⟨x0, x1, x2, x3, xf⟩ := h
 refine ⟨?_, ?_, ?_, ?_, ?_⟩
 · simp [go_sem, x0]
 · simp [go_sem, x1]
 · simp [go_sem, x2]
 · simp [go_sem, x3]
 · intro o; simp [go_sem, xf]
theorem SlVD.shape {D : Nat → Prop} {w : World} {l : List V} {lv : Value} (h : SlVD D w l lv) : ∃ o n c, lv = .slice o n c := by
 rcases h with ⟨_, oa, cap, rfl⟩ | ⟨_, c, o, cap, rfl, _⟩
 · exact ⟨_, _, _, rfl⟩
 · exact ⟨_, _, _, rfl⟩
set_option maxRecDepth 100000 in
set_option maxHeartbeats 1000000 in
theorem decode_none (B : Nat) (l : List UInt8) (hl : l.length ≤ 1000000) (oa : Option Addr) (cap : Nat) (w : World) (hb : BtsAt B w l (.slice oa l.length cap)) (hB : B ≤ w.heap.size) (hN : rdV 16 l = none) :
 Calls Tryz.prog 55 #[.slice oa l.length cap] w (DecPost none w) := by
 have hmf : ∀ (fn : Fn) (first cap : Array Value) (w : World), (Instr.makeFunc fn first cap).run Tryz.prog w = .ok (.func fn first cap) w := fun _ _ _ _ => rfl
 have HR := Lib.hid (decW_rdr hb hB)
 have hx := Lib.hid (decW_box w (.slice oa l.length cap))
 have hy := Lib.hid (decW_e w (.slice oa l.length cap))
 have hg0 := Lib.hid (decW_grown w (.slice oa l.length cap) none)
 have hsz := Lib.hid (decW_size w (.slice oa l.length cap))
 have HN := Lib.hid hN; clear hN hb
 go_enter_defers Tryz.func55, Tryz.ntmps55
 go_wp2_with (go_at_call 117; refine (value_any 16 (by omega) w.heap.size (w.heap.size + 1 + 1) l 0 (by simp) hl (DecW w (.slice oa l.length cap)) HR.out (by rw [hsz.out]; omega)).mono ?_; rw [HN.out]; rintro e w9 ⟨rfl, hg9⟩)
 refine leaves_cons (f := 116) (args := #[.pointer (some ⟨w.heap.size, 0, none⟩), .pointer (some ⟨w.heap.size + 1, 0, none⟩)]) (by simp) (by simp [go_sem]) ?_
 have hs0 := hsz.out
 have hy9 := hg9.block (w.heap.size + 1) (by omega) (fun e => by injection e; omega)
 refine (catch_panicking w.heap.size (w.heap.size + 1) _ _ _ _ (.int .i64 0) w9 (hx.out.grown hg9 (by omega)) ((World.cell?_of_block (w := DecW w _) hy9).trans hy.out.1) ((World.frozen?_of_block (w := DecW w _) hy9).trans hy.out.2) (by omega)).mono ?_
 rintro e u' w'' ⟨rfl, rfl, hx2, hy2, _, hg2⟩
 have hgw : w.grownBy w'' none := hg2 w none (grown_trans hg0.out hg9 (.inr fun g hg => by injection hg; omega)) (by omega) (by omega)
 obtain ⟨x0, x1, x2, x3, _⟩ := hx2
 simp [Leaves, settle, results, Tryz.results55, go_sem, x0, x1, x2, x3, hy2]
 exact ⟨rfl, hgw⟩
set_option maxRecDepth 100000 in
set_option maxHeartbeats 1000000 in
theorem decode_junk (B : Nat) (l : List UInt8) (hl : l.length ≤ 1000000) (oa : Option Addr) (cap : Nat) (w : World) (hb : BtsAt B w l (.slice oa l.length cap)) (hB : B ≤ w.heap.size) (x : V) (r : List UInt8) (hN : rdV 16 l = some (x, r)) (hr : r ≠ []) :
 Calls Tryz.prog 55 #[.slice oa l.length cap] w (DecPost none w) := by
 have hmf : ∀ (fn : Fn) (first cap : Array Value) (w : World), (Instr.makeFunc fn first cap).run Tryz.prog w = .ok (.func fn first cap) w := fun _ _ _ _ => rfl
 have HR := Lib.hid (decW_rdr hb hB)
 have hx := Lib.hid (decW_box w (.slice oa l.length cap))
 have hy := Lib.hid (decW_e w (.slice oa l.length cap))
 have hg0 := Lib.hid (decW_grown w (.slice oa l.length cap) none)
 have hsz := Lib.hid (decW_size w (.slice oa l.length cap))
 have HN := Lib.hid hN; clear hN hb
 have hrl : ((r.length : Int) == 0) = false := by cases r <;> simp_all <;> omega
 have hbnd : (r.length : Int) ≤ 1000000 := by have := rdV_len 16 l x r HN.out; omega
 clear hr
 go_enter_defers Tryz.func55, Tryz.ntmps55
 go_wp2_with (first
  | (go_at_call 117; refine (value_any 16 (by omega) w.heap.size (w.heap.size + 1 + 1) l 0 (by simp) hl (DecW w (.slice oa l.length cap)) HR.out (by rw [hsz.out]; omega)).mono ?_; rw [HN.out]; rintro e w9 ⟨v9, rfl, ⟨z1, z2, z3, lx, rfl, z4⟩, hrd9, hg9⟩
     obtain ⟨xo, xn, xc, rfl⟩ := z4.shape
     have hs0 := hsz.out
     have hs9 := hg9.size
     have hx9 := Lib.hid (hx.out.grown hg9 (by omega))
     obtain ⟨x0, x1, x2, x3, xf⟩ := hx9.out
     have hy9 := hg9.block (w.heap.size + 1) (by omega) (fun e => by injection e; omega)
     have e0 : w9.cell? ⟨w.heap.size + 1, 0, none⟩ = some (.int .i64 0) := (World.cell?_of_block (w := DecW w _) hy9).trans hy.out.1
     have ef : w9.frozen? ⟨w.heap.size + 1, 0, none⟩ = false := (World.frozen?_of_block (w := DecW w _) hy9).trans hy.out.2
     obtain ⟨_, fR, vR, cR, bR⟩ := hrd9
     obtain ⟨oR, capR, rfl⟩ := bR.shape
     have Z := Lib.hid (And.intro z1 (And.intro z2 (And.intro z3 z4)))
     clear hy9 bR z1 z2 z3 z4
     have hgw := Lib.hid (grown_trans (G := none) hg0.out hg9 (.inr fun g hg => by injection hg; omega)))
  | (go_at_call 118; refine (want_false _ _).mono ?_; rintro e w' ⟨rfl, rfl⟩))
 refine leaves_cons (f := 116) (args := #[.pointer (some ⟨w.heap.size, 0, none⟩), .pointer (some ⟨w.heap.size + 1, 0, none⟩)]) (by simp) (by simp [go_sem]) ?_
 refine (catch_panicking w.heap.size (w.heap.size + 1) _ _ _ _ (.int .i64 0) _ (box_set hx9.out _ _ _ _) (by simp [go_sem, e0]) (by simp [go_sem, ef]) (by omega)).mono ?_
 rintro e u' w'' ⟨rfl, rfl, hx2, hy2, _, hg2⟩
 have hgw : w.grownBy w'' none := hg2 w none (grown_set_new (grown_set_new (grown_set_new (grown_set_new hgw.out (Nat.le_refl _)) (Nat.le_refl _)) (Nat.le_refl _)) (Nat.le_refl _)) (by omega) (by omega)
 obtain ⟨y0, y1, y2, y3, _⟩ := hx2
 simp [Leaves, settle, results, Tryz.results55, go_sem, y0, y1, y2, y3, hy2]
 exact ⟨rfl, hgw⟩
end Go.Proofs.YtdblnbnofjggnaaGreatDoor
namespace Go.Proofs.YtdblnbnofjggnaaGreatDoor
open Go.RowKit
def FinT (w9 : World) (V E : Nat) (a b c d : Value) : World :=
 ((((((((w9.setCell ⟨V, 0, none⟩ a).setCell ⟨V, 1, none⟩ b).setCell ⟨V, 2, none⟩ c).setCell ⟨V, 3, none⟩ d).setCell ⟨V, 0, none⟩ a).setCell ⟨V, 1, none⟩ b).setCell ⟨V, 2, none⟩ c).setCell ⟨V, 3, none⟩ d).setCell ⟨E, 0, none⟩ (.int .i64 0)
structure FinS (w9 : World) (V E : Nat) (a b c d : Value) (wf : World) : Prop where
 c0 : wf.cell? ⟨V, 0, none⟩ = some a
 c1 : wf.cell? ⟨V, 1, none⟩ = some b
 c2 : wf.cell? ⟨V, 2, none⟩ = some c
 c3 : wf.cell? ⟨V, 3, none⟩ = some d
 e0 : wf.cell? ⟨E, 0, none⟩ = some (.int .i64 0)
 sz : wf.heap.size = w9.heap.size
 old : ∀ k, k ≠ V → k ≠ E → wf.heap[k]? = w9.heap[k]?
 gr : ∀ (base : World) (G : Option Nat), base.grownBy w9 G → base.heap.size ≤ V → base.heap.size ≤ E → base.grownBy wf G
theorem finS (w9 : World) (V E : Nat) (a b c d x y z u e : Value) (h : BoxAt w9 V x y z u) (he : w9.cell? ⟨E, 0, none⟩ = some e) (hne : V ≠ E) : FinS w9 V E a b c d (FinT w9 V E a b c d) := by
 have hb := box_set (box_set h a b c d) a b c d
 have he2 : ((((((((w9.setCell ⟨V, 0, none⟩ a).setCell ⟨V, 1, none⟩ b).setCell ⟨V, 2, none⟩ c).setCell ⟨V, 3, none⟩ d).setCell ⟨V, 0, none⟩ a).setCell ⟨V, 1, none⟩ b).setCell ⟨V, 2, none⟩ c).setCell ⟨V, 3, none⟩ d).cell? ⟨E, 0, none⟩ = some e := by simp [go_sem, he]
 refine ⟨?_, ?_, ?_, ?_, World.cell?_setCell_same' _ _ _ (by rw [he2]; rfl), by simp [FinT, World.setCell], ?_, ?_⟩
 · exact (World.cell?_setCell_other _ _ _ _ (by simp)).trans hb.c0
 · exact (World.cell?_setCell_other _ _ _ _ (by simp)).trans hb.c1
 · exact (World.cell?_setCell_other _ _ _ _ (by simp)).trans hb.c2
 · exact (World.cell?_setCell_other _ _ _ _ (by simp)).trans hb.c3
 · intro k h1 h2
   unfold FinT
   rw [Below.heap_setCell _ _ _ _ (by exact h2), Below.heap_setCell _ _ _ _ (by exact h1), Below.heap_setCell _ _ _ _ (by exact h1), Below.heap_setCell _ _ _ _ (by exact h1), Below.heap_setCell _ _ _ _ (by exact h1), Below.heap_setCell _ _ _ _ (by exact h1), Below.heap_setCell _ _ _ _ (by exact h1), Below.heap_setCell _ _ _ _ (by exact h1), Below.heap_setCell _ _ _ _ (by exact h1)]
 · intro base G hg hV hE
   exact grown_set_new (grown_set_new (grown_set_new (grown_set_new (grown_set_new (grown_set_new (grown_set_new (grown_set_new (grown_set_new hg hV) hV) hV) hV) hV) hV) hV) hV) hE
set_option maxRecDepth 100000 in
set_option maxHeartbeats 4000000 in
theorem decode_some (B : Nat) (l : List UInt8) (hl : l.length ≤ 1000000) (oa : Option Addr) (cap : Nat) (w : World) (hb : BtsAt B w l (.slice oa l.length cap)) (hB : B ≤ w.heap.size) (x : V) (r : List UInt8) (hN : rdV 16 l = some (x, r)) (hr : r = []) :
 Calls Tryz.prog 55 #[.slice oa l.length cap] w (DecPost (some x) w) := by
 have hmf : ∀ (fn : Fn) (first cap : Array Value) (w : World), (Instr.makeFunc fn first cap).run Tryz.prog w = .ok (.func fn first cap) w := fun _ _ _ _ => rfl
 have HR := Lib.hid (decW_rdr hb hB)
 have hx := Lib.hid (decW_box w (.slice oa l.length cap))
 have hy := Lib.hid (decW_e w (.slice oa l.length cap))
 have hg0 := Lib.hid (decW_grown w (.slice oa l.length cap) none)
 have hsz := Lib.hid (decW_size w (.slice oa l.length cap))
 have HN := Lib.hid hN; clear hN hb
 have hrl : ((r.length : Int) == 0) = true := by cases r <;> simp_all <;> omega
 have hbnd : (r.length : Int) ≤ 1000000 := by have := rdV_len 16 l x r HN.out; omega
 clear hr
 go_enter_defers Tryz.func55, Tryz.ntmps55
 go_wp2_with (first
  | (go_at_call 117; refine (value_any 16 (by omega) w.heap.size (w.heap.size + 1 + 1) l 0 (by simp) hl (DecW w (.slice oa l.length cap)) HR.out (by rw [hsz.out]; omega)).mono ?_; rw [HN.out]; rintro e w9 ⟨v9, rfl, ⟨z1, z2, z3, lx, rfl, z4⟩, hrd9, hg9⟩
     obtain ⟨xo, xn, xc, rfl⟩ := z4.shape
     have hs0 := hsz.out
     have hs9 := hg9.size
     have hx9 := Lib.hid (hx.out.grown hg9 (by omega))
     obtain ⟨x0, x1, x2, x3, xf⟩ := hx9.out
     have hy9 := hg9.block (w.heap.size + 1) (by omega) (fun e => by injection e; omega)
     have e0 : w9.cell? ⟨w.heap.size + 1, 0, none⟩ = some (.int .i64 0) := (World.cell?_of_block (w := DecW w _) hy9).trans hy.out.1
     have ef : w9.frozen? ⟨w.heap.size + 1, 0, none⟩ = false := (World.frozen?_of_block (w := DecW w _) hy9).trans hy.out.2
     obtain ⟨_, fR, vR, cR, bR⟩ := hrd9
     obtain ⟨oR, capR, rfl⟩ := bR.shape
     have Z := Lib.hid (And.intro z1 (And.intro z2 (And.intro z3 z4)))
     clear hy9 bR z1 z2 z3 z4
     have hgw := Lib.hid (grown_trans (G := none) hg0.out hg9 (.inr fun g hg => by injection hg; omega)))
  | (go_at_call 118; refine (want_true _ _).mono ?_; rintro e w' ⟨rfl, rfl⟩))
 have hf := finS w9 w.heap.size (w.heap.size + 1) (.int .i64 x.kind) (.int .i64 x.n) (.string x.s) (.slice xo xn xc) _ _ _ _ _ hx9.out e0 (by omega)
 change bodyPostD _ _ _ _ _ (FinT w9 w.heap.size (w.heap.size + 1) (.int .i64 x.kind) (.int .i64 x.n) (.string x.s) (.slice xo xn xc))
 generalize FinT w9 w.heap.size (w.heap.size + 1) (.int .i64 x.kind) (.int .i64 x.n) (.string x.s) (.slice xo xn xc) = wf at hf ⊢
 obtain ⟨y0, y1, y2, y3, y4, ys, yo, yg⟩ := hf
 have YO := Lib.hid yo; have YG := Lib.hid yg; clear yo yg
 refine leaves_cons (f := 116) (args := #[.pointer (some ⟨w.heap.size, 0, none⟩), .pointer (some ⟨w.heap.size + 1, 0, none⟩)]) (by simp) (by simp [go_sem]) ?_
 refine (catch_idle w.heap.size (w.heap.size + 1) wf).mono ?_
 rintro e u' w'' ⟨rfl, rfl, rfl⟩
 simp [Leaves, settle, results, Tryz.results55, go_sem, y0, y1, y2, y3, y4]
 refine ⟨_, rfl, ⟨Z.out.1, Z.out.2.1, Z.out.2.2.1, _, rfl, Z.out.2.2.2.keep (fun k hk => ⟨by omega, by omega⟩) (fun k hk => YO.out k (by omega) (by omega))⟩, YG.out w none hgw.out (Nat.le_refl _) (by omega)⟩
theorem decode_any (B : Nat) (l : List UInt8) (hl : l.length ≤ 1000000) (v : Value) (w : World) (hb : BtsAt B w l v) (hB : B ≤ w.heap.size) :
 Calls Tryz.prog 55 #[v] w (DecPost (decF l) w) := by
 obtain ⟨oa, cap, rfl⟩ := hb.shape
 unfold decF
 cases hN : rdV 16 l with
 | none => exact decode_none B l hl oa cap w hb hB hN
 | some p =>
  obtain ⟨x, r⟩ := p
  cases r with
  | nil => exact decode_some B l hl oa cap w hb hB x [] hN rfl
  | cons c r => exact decode_junk B l hl oa cap w hb hB x (c :: r) hN (by simp)
end Go.Proofs.YtdblnbnofjggnaaGreatDoor
namespace Go.Proofs.YtdblnbnofjggnaaGreatDoor
open Go.RowKit
theorem lo_nat (x : Nat) (h : x < 256) : (loDig x).toNat = x := by have := lo_cast x; omega
theorem hi_nat (x : Nat) : (hiDig x).toNat = x % 128 + 128 := by have := hi_cast x; omega
theorem pow_split (k : Nat) : (2 : Nat) ^ (7 * (k + 1)) = 128 * 2 ^ (7 * k) := by rw [show 7 * (k + 1) = 7 + 7 * k from by omega, Nat.pow_add]
theorem digit_sum (u p : Nat) : u % 128 * p + u / 128 * (128 * p) = u * p := by
 have h := Nat.mod_add_div u 128
 calc u % 128 * p + u / 128 * (128 * p) = u % 128 * p + 128 * (u / 128) * p := by rw [← Nat.mul_assoc, Nat.mul_comm (u / 128) 128]
  _ = (u % 128 + 128 * (u / 128)) * p := by rw [Nat.add_mul]
  _ = u * p := by rw [h]
theorem num_read : ∀ (f k u x : Nat) (r : List UInt8), f + k = 9 → u < 128 ^ f * 2 → (k = 0 ∨ u ≠ 0) → rdNum k x (numF f u ++ r) = some (x + u * 2 ^ (7 * k), r)
 | 0, k, u, x, r, hk, hu, h0 => by
  have hu' : u < 2 := by simpa using hu
  have hl := lo_nat u (by omega)
  simp only [numF, List.singleton_append]
  rw [rdNum_end (by rw [hl]; omega) (by omega), hl, Nat.mod_eq_of_lt (by omega)]
 | f + 1, k, u, x, r, hk, hu, h0 => by
  by_cases h : u < 128
  · have hl := lo_nat u (by omega)
    rw [numF, if_pos h]
    simp only [List.singleton_append]
    rw [rdNum_end (by rw [hl]; omega) (by omega), hl, Nat.mod_eq_of_lt (by omega)]
  · have hh := hi_nat u
    rw [numF, if_neg h, List.cons_append, rdNum_on (by rw [hh]; omega) (by omega), hh]
    rw [num_read f (k + 1) (u / 128) _ r (by omega) (by
     rw [Nat.pow_succ] at hu
     exact Nat.div_lt_of_lt_mul (by rw [← Nat.mul_assoc, Nat.mul_comm 128]; exact hu)) (by omega)]
    congr 2
    rw [pow_split, show (u % 128 + 128) % 128 = u % 128 from by omega, Nat.add_assoc, digit_sum]
theorem num_rd (u : Nat) (hu : u < 18446744073709551616) (r : List UInt8) : rdNum 0 0 (num u ++ r) = some (u, r) := by
 have := num_read 9 0 u 0 r rfl (by simpa using hu) (.inl rfl)
 simpa [num] using this
theorem num_sound : ∀ (f k x n : Nat) (l r : List UInt8), f + k = 9 → rdNum k x l = some (n, r) → ∃ u, l = numF f u ++ r ∧ n = x + u * 2 ^ (7 * k) ∧ (k = 0 ∨ u ≠ 0) ∧ u < 128 ^ f * 2
 | f, k, x, n, [], r, hk, h => by simp [rdNum] at h
 | f, k, x, n, c :: t, r, hk, h => by
  by_cases hg : (k = 0 ∨ c.toNat ≠ 0) ∧ (k < 9 ∨ c.toNat ≤ 1)
  case neg => rw [rdNum_bad hg] at h; cases h
  have hlo : c.toNat < 256 := c.toNat_lt
  by_cases hc : c.toNat < 128
  · rw [rdNum_end hg hc, Nat.mod_eq_of_lt hc] at h
    simp at h; obtain ⟨rfl, rfl⟩ := h
    have hcl : loDig c.toNat = c := UInt8.toNat_inj.1 (lo_nat c.toNat hlo)
    refine ⟨c.toNat, ?_, rfl, hg.1, ?_⟩
    · cases f with
      | zero => simp [numF, hcl]
      | succ f => rw [numF, if_pos hc]; simp [hcl]
    · have h1 : 1 ≤ 128 ^ f := Nat.one_le_pow _ _ (by decide)
      cases f with
      | zero => have := hg.2; simp; omega
      | succ f =>
       have h2 : 1 ≤ 128 ^ f := Nat.one_le_pow _ _ (by decide)
       rw [Nat.pow_succ]; omega
  · cases f with
    | zero => have := hg.2; omega
    | succ f =>
     rw [rdNum_on hg hc] at h
     obtain ⟨u, rfl, rfl, hu0, hul⟩ := num_sound f (k + 1) _ n t r (by omega) h
     have hu1 : u ≠ 0 := by omega
     have hd : (c.toNat % 128 + 128 * u) / 128 = u := by omega
     have hm : (c.toNat % 128 + 128 * u) % 128 = c.toNat % 128 := by omega
     have hh : hiDig (c.toNat % 128 + 128 * u) = c := UInt8.toNat_inj.1 (by rw [hi_nat, hm]; omega)
     refine ⟨c.toNat % 128 + 128 * u, ?_, ?_, .inr (by omega), ?_⟩
     · rw [numF, if_neg (by omega), hh, hd, List.cons_append]
     · have := digit_sum (c.toNat % 128 + 128 * u) (2 ^ (7 * k))
       rw [hm, hd] at this
       rw [pow_split, ← this, Nat.add_assoc]
     · rw [Nat.pow_succ]; omega
theorem num_snd {n : Nat} {l r : List UInt8} (h : rdNum 0 0 l = some (n, r)) : l = num n ++ r ∧ n < 18446744073709551616 := by
 obtain ⟨u, h1, h2, _, h4⟩ := num_sound 9 0 0 n l r rfl h
 have : n = u := by simpa using h2
 subst this
 exact ⟨h1, by simpa using h4⟩
theorem sgn_uns (n : Int) (h : I64 n) : sgn (uns n) = n := by unfold I64 at h; unfold sgn uns; split <;> split <;> omega
theorem uns_sgn (u : Nat) : uns (sgn u) = u := by unfold sgn uns; split <;> split <;> omega
theorem num_pos (u : Nat) : 1 ≤ (num u).length := numF_pos 9 u
theorem fm_cases : ∀ x : V, fm x = true → (∃ n, x = .mk 1 n ⟨#[]⟩ []) ∨ (∃ s, x = .mk 2 0 s []) ∨ (∃ l, x = .mk 3 0 ⟨#[]⟩ l ∧ fms l = true)
 | .mk k n s l, h => by
  have he : ∀ s : ByteArray, s.toList.isEmpty = true → s = ⟨#[]⟩ := fun s hs => str_eq (by rw [List.isEmpty_iff.1 hs, ByteArray.toList_eq])
  rw [fm] at h
  split at h
  · rename_i hk; subst hk
    simp only [Bool.and_eq_true] at h
    obtain rfl := he s h.1
    obtain rfl := List.isEmpty_iff.1 h.2
    exact .inl ⟨n, rfl⟩
  · split at h
    · rename_i hk; subst hk
      simp only [Bool.and_eq_true, beq_iff_eq] at h
      obtain ⟨rfl, h2⟩ := h
      obtain rfl := List.isEmpty_iff.1 h2
      exact .inr (.inl ⟨s, rfl⟩)
    · split at h
      · rename_i hk; subst hk
        simp only [Bool.and_eq_true, beq_iff_eq] at h
        obtain ⟨⟨rfl, h2⟩, h3⟩ := h
        obtain rfl := he s h2
        exact .inr (.inr ⟨l, rfl, h3⟩)
      · cases h
theorem fms_cons {x : V} {r : List V} (h : fms (x :: r) = true) : fm x = true ∧ fms r = true := by simpa [fms] using h
theorem enc_lenN (N : Nat) : (∀ x : V, sz x ≤ N → fm x = true → sz x ≤ 13 * (enc x).length ∧ 2 ≤ (enc x).length) := by
 induction N with
 | zero => intro x h; obtain ⟨k, n, s, l⟩ := x; simp [sz] at h
 | succ N ih =>
  intro x hN hf
  have hs : ∀ l : List V, szs l ≤ N → fms l = true → szs l ≤ 13 * (encs l).length ∧ l.length ≤ (encs l).length := by
   intro l
   induction l with
   | nil => intro _ _; simp [szs]
   | cons y r ihr =>
    intro h1 h2
    obtain ⟨h3, h4⟩ := fms_cons h2
    simp only [szs] at h1 ⊢
    have := ih y (by omega) h3
    have := ihr (by omega) h4
    simp only [encs, List.length_append, List.length_cons]; omega
  rcases fm_cases x hf with ⟨n, rfl⟩ | ⟨s, rfl⟩ | ⟨l, rfl, hl⟩
  · have := num_pos (uns n)
    rw [enc_1]
    simp [sz, szs]
    have h0 : (⟨#[]⟩ : ByteArray).size = 0 := rfl
    omega
  · have := num_pos s.size
    have h5 : s.data.toList.length = s.size := by simp
    rw [enc_2]
    simp [sz, szs]
    omega
  · have := num_pos l.length
    have h0 : (⟨#[]⟩ : ByteArray).size = 0 := rfl
    simp only [sz] at hN
    have := hs l (by omega) hl
    rw [enc_3]
    simp [sz]
    omega
theorem enc_len {x : V} (h : fm x = true) : sz x ≤ 13 * (enc x).length ∧ 2 ≤ (enc x).length := enc_lenN (sz x) x (Nat.le_refl _) h
theorem encs_len : ∀ l : List V, fms l = true → l.length ≤ (encs l).length
 | [], _ => by simp
 | x :: r, h => by
  obtain ⟨h1, h2⟩ := fms_cons h
  have := (enc_len h1).2; have := encs_len r h2
  simp only [encs, List.length_append, List.length_cons]; omega
theorem rdLen_enc {n : Nat} (h : n < 18446744073709551616) (r : List UInt8) (hr : n ≤ r.length) : rdLen (num n ++ r) = some (n, r) := by
 unfold rdLen; rw [num_rd n h]; simp [hr]
theorem rdVs_enc (f : List UInt8 → Option (V × List UInt8)) (l : List V) (r : List UInt8) (hf : ∀ x ∈ l, ∀ t, f (enc x ++ t) = some (x, t)) : ∀ k, k ≤ l.length → rdVs f k (encs l ++ r) = some (l.take k, encs (l.drop k) ++ r)
 | 0, _ => by simp [rdVs]
 | k + 1, hk => by
  have h1 := rdVs_enc f l r hf k (by omega)
  have hd : l.drop k = l[k] :: l.drop (k + 1) := List.drop_eq_getElem_cons (by omega)
  rw [hd] at h1
  simp only [encs, List.append_assoc] at h1
  rw [rdVs_some f k _ _ _ _ _ h1 (hf l[k] (List.getElem_mem _) _)]
  congr 2
  rw [List.take_succ_eq_append_getElem (by omega)]
theorem dps_mem : ∀ {l : List V} {x : V}, x ∈ l → dp x ≤ dps l
 | y :: r, x, h => by
  simp only [dps]
  rcases List.mem_cons.1 h with rfl | h
  · omega
  · have := dps_mem h; omega
theorem fms_mem : ∀ {l : List V} {x : V}, fms l = true → x ∈ l → fm x = true
 | y :: r, x, hf, h => by
  obtain ⟨h1, h2⟩ := fms_cons hf
  rcases List.mem_cons.1 h with rfl | h
  · exact h1
  · exact fms_mem h2 h
theorem rdV_enc : ∀ (d : Nat) (x : V), fm x = true → dp x ≤ d → okV x → ∀ r, rdV d (enc x ++ r) = some (x, r) := by
 intro d
 induction d with
 | zero =>
  intro x hf hd hok r
  rcases fm_cases x hf with ⟨n, rfl⟩ | ⟨s, rfl⟩ | ⟨l, rfl, hl⟩
  · obtain ⟨_, hn, _⟩ := hok
    rw [enc_1, List.append_assoc, List.singleton_append, rdV_1, num_rd _ (uns_lt n hn)]
    show some (V.mk 1 (sgn (uns n)) ⟨#[]⟩ [], r) = _
    rw [sgn_uns n hn]
  · obtain ⟨_, _, hs, _⟩ := hok
    unfold maxLen at hs
    rw [enc_2, List.append_assoc, List.append_assoc, List.singleton_append, rdV_2, rdLen_enc (by omega) _ (by simp)]
    simp
  · rw [dp_3] at hd; omega
 | succ d ih =>
  intro x hf hd hok r
  rcases fm_cases x hf with ⟨n, rfl⟩ | ⟨s, rfl⟩ | ⟨l, rfl, hl⟩
  · obtain ⟨_, hn, _⟩ := hok
    rw [enc_1, List.append_assoc, List.singleton_append, rdV_1, num_rd _ (uns_lt n hn)]
    show some (V.mk 1 (sgn (uns n)) ⟨#[]⟩ [], r) = _
    rw [sgn_uns n hn]
  · obtain ⟨_, _, hs, _⟩ := hok
    unfold maxLen at hs
    rw [enc_2, List.append_assoc, List.append_assoc, List.singleton_append, rdV_2, rdLen_enc (by omega) _ (by simp)]
    simp
  · obtain ⟨_, _, _, hll, hoks⟩ := hok
    unfold maxLen at hll
    rw [dp_3] at hd
    rw [enc_3, List.append_assoc, List.append_assoc, List.singleton_append, rdV_3, rdLen_enc (by omega) _ (by have := encs_len l hl; simp; omega)]
    have h1 := rdVs_enc (rdV d) l r (fun x hx t => ih x (fms_mem hl hx) (by have := dps_mem hx; omega) (okVs_mem hoks hx) t) l.length (Nat.le_refl _)
    simp only [h1]
    simp [encs]
theorem rdLen_snd {n : Nat} {l r : List UInt8} (h : rdLen l = some (n, r)) : l = num n ++ r ∧ n < 18446744073709551616 ∧ n ≤ r.length := by
 unfold rdLen at h
 cases hN : rdNum 0 0 l with
 | none => rw [hN] at h; cases h
 | some p =>
  obtain ⟨m, t⟩ := p
  rw [hN] at h
  simp only at h
  split at h
  · rename_i hm
    simp at h; obtain ⟨rfl, rfl⟩ := h
    obtain ⟨h1, h2⟩ := num_snd hN
    exact ⟨h1, h2, hm⟩
  · cases h
theorem encs_append (a b : List V) : encs (a ++ b) = encs a ++ encs b := by
 induction a with
 | nil => simp [encs]
 | cons x r ih => simp [encs, ih]
structure Rd1 (d : Nat) (l : List UInt8) (x : V) (r : List UInt8) : Prop where
 eq : l = enc x ++ r
 fm : fm x = true
 dp : dp x ≤ d
 ok : l.length ≤ maxLen → okV x
theorem dps_append (a : List V) (x : V) : dps (a ++ [x]) = max (dps a) (dp x) := by
 induction a with
 | nil => simp [dps]
 | cons y r ih => simp only [List.cons_append, dps, ih]; omega
theorem fms_append (a : List V) (x : V) : fms (a ++ [x]) = (fms a && Go.Proofs.YtdblnbnofjggnaaGreatDoor.fm x) := by
 induction a with
 | nil => simp [fms]
 | cons y r ih => simp only [List.cons_append, fms, ih, Bool.and_assoc]
theorem okVs_append (a : List V) (x : V) (h : okVs a) (hx : okV x) : okVs (a ++ [x]) := by
 induction a with
 | nil => exact ⟨hx, trivial⟩
 | cons y r ih => exact ⟨h.1, ih h.2⟩
theorem rdVs_sound (d : Nat) (ih : ∀ l x r, rdV d l = some (x, r) → Rd1 d l x r) : ∀ (n : Nat) (l : List UInt8) (xs : List V) (r : List UInt8), rdVs (rdV d) n l = some (xs, r) →
 xs.length = n ∧ l = encs xs ++ r ∧ fms xs = true ∧ dps xs ≤ d ∧ (l.length ≤ maxLen → okVs xs)
 | 0, l, xs, r, h => by simp [rdVs] at h; obtain ⟨rfl, rfl⟩ := h; simp [encs, fms, dps, okVs]
 | n + 1, l, xs, r, h => by
  simp only [rdVs] at h
  cases hN : rdVs (rdV d) n l with
  | none => rw [hN] at h; cases h
  | some p =>
   obtain ⟨ys, t⟩ := p
   rw [hN] at h; simp only at h
   cases hM : rdV d t with
   | none => rw [hM] at h; cases h
   | some q =>
    obtain ⟨y, t'⟩ := q
    rw [hM] at h; simp at h
    obtain ⟨rfl, rfl⟩ := h
    obtain ⟨h1, h2, h3, h4, h5⟩ := rdVs_sound d ih n l ys t hN
    obtain ⟨g1, g2, g3, g4⟩ := ih t y t' hM
    refine ⟨by simp [h1], ?_, by rw [fms_append, h3, g2]; rfl, by rw [dps_append]; omega, fun hl => okVs_append _ _ (h5 hl) (g4 ?_)⟩
    · rw [h2, g1, encs_append]; simp [encs]
    · have : t.length ≤ l.length := by rw [h2]; simp
      omega
theorem sound_12 (d : Nat) (c : UInt8) (t : List UInt8) (x : V) (r : List UInt8) (h3 : c ≠ 3) (h : rdV d (c :: t) = some (x, r)) : Rd1 d (c :: t) x r := by
 by_cases h1 : c = 1
 · subst h1
   rw [rdV_1] at h
   cases hN : rdNum 0 0 t with
   | none => rw [hN] at h; cases h
   | some p =>
    obtain ⟨u, t'⟩ := p
    rw [hN] at h; simp at h
    obtain ⟨rfl, rfl⟩ := h
    obtain ⟨e1, e2⟩ := num_snd hN
    refine ⟨?_, by simp [Go.Proofs.YtdblnbnofjggnaaGreatDoor.fm, ByteArray.toList_eq], by rw [dp_1]; omega, fun _ => ⟨by unfold I64; omega, sgn_I64 u e2, Nat.zero_le _, Nat.zero_le _, trivial⟩⟩
    rw [enc_1, uns_sgn, e1]; simp
 by_cases h2 : c = 2
 · subst h2
   rw [rdV_2] at h
   cases hN : rdLen t with
   | none => rw [hN] at h; cases h
   | some p =>
    obtain ⟨n, t'⟩ := p
    rw [hN] at h; simp at h
    obtain ⟨rfl, rfl⟩ := h
    obtain ⟨e1, e2, e3⟩ := rdLen_snd hN
    have hsz : (⟨(t'.take n).toArray⟩ : ByteArray).size = n := by simp [ByteArray.size]; omega
    refine ⟨?_, by simp [Go.Proofs.YtdblnbnofjggnaaGreatDoor.fm], by rw [dp_2]; omega, fun hl => ⟨by unfold I64; omega, by unfold I64; omega, ?_, Nat.zero_le _, trivial⟩⟩
    · rw [enc_2, hsz, e1]; simp
    · rw [hsz]; simp only [List.length_cons] at hl; rw [e1] at hl; simp at hl; omega
 · rw [rdV_bad d c t h1 h2 h3] at h; cases h
theorem rdV_sound : ∀ (d : Nat) (l : List UInt8) (x : V) (r : List UInt8), rdV d l = some (x, r) → Rd1 d l x r := by
 intro d
 induction d with
 | zero =>
  intro l x r h
  cases l with
  | nil => rw [rdV_nil] at h; cases h
  | cons c t =>
   by_cases h3 : c = 3
   · subst h3; rw [rdV_30] at h; cases h
   · exact sound_12 0 c t x r h3 h
 | succ d ih =>
  intro l x r h
  cases l with
  | nil => rw [rdV_nil] at h; cases h
  | cons c t =>
   by_cases h3 : c = 3
   · subst h3
     rw [rdV_3] at h
     cases hN : rdLen t with
     | none => rw [hN] at h; cases h
     | some p =>
      obtain ⟨n, t'⟩ := p
      rw [hN] at h; simp only at h
      cases hM : rdVs (rdV d) n t' with
      | none => rw [hM] at h; cases h
      | some q =>
       obtain ⟨xs, t''⟩ := q
       rw [hM] at h; simp at h
       obtain ⟨rfl, rfl⟩ := h
       obtain ⟨e1, e2, e3⟩ := rdLen_snd hN
       obtain ⟨g1, g2, g3, g4, g5⟩ := rdVs_sound d ih n t' xs t'' hM
       have hlen : t'.length ≤ (3 :: t).length := by rw [e1]; simp; omega
       refine ⟨?_, by simp [Go.Proofs.YtdblnbnofjggnaaGreatDoor.fm, g3, ByteArray.toList_eq], by rw [dp_3]; omega, fun hl => ⟨by unfold I64; omega, by unfold I64; omega, Nat.zero_le _, by omega, g5 (by omega)⟩⟩
       rw [enc_3, g1, e1, g2]; simp
   · exact sound_12 (d + 1) c t x r h3 h
theorem ck_ok {x : V} (h : ck x = 0) : fm x = true ∧ dp x ≤ 16 := by
 unfold ck at h
 by_cases hf : fm x = true
 · rw [if_pos hf] at h
   refine ⟨hf, ?_⟩
   by_cases h16 : 16 < dp x
   · rw [if_pos h16] at h; cases h
   · omega
 · rw [if_neg hf] at h; cases h
theorem ok_ck {x : V} (h1 : fm x = true) (h2 : dp x ≤ 16) : ck x = 0 := by unfold ck; rw [if_pos h1, if_neg (by omega)]
theorem decF_enc {x : V} (h : ck x = 0) (hok : okV x) : decF (enc x) = some x := by
 obtain ⟨h1, h2⟩ := ck_ok h
 have := rdV_enc 16 x h1 h2 hok []
 rw [List.append_nil] at this
 unfold decF; rw [this]
theorem decF_sound {l : List UInt8} {x : V} (h : decF l = some x) (hl : l.length ≤ maxLen) : enc x = l ∧ ck x = 0 ∧ okV x ∧ sz x ≤ 13 * l.length := by
 unfold decF at h
 cases hN : rdV 16 l with
 | none => rw [hN] at h; cases h
 | some p =>
  obtain ⟨y, r⟩ := p
  rw [hN] at h
  cases r with
  | cons c r => cases h
  | nil =>
   simp at h; subst h
   obtain ⟨e, f, g, o⟩ := rdV_sound 16 l y [] hN
   rw [List.append_nil] at e
   refine ⟨e.symm, ok_ck f g, o hl, ?_⟩
   rw [e]; exact (enc_len f).1
end Go.Proofs.YtdblnbnofjggnaaGreatDoor
namespace Go.Proofs.YtdblnbnofjggnaaGreatDoor
open Go.RowKit
theorem grown_below {w w' : World} (h : w.grownBy w' none) : Below w.heap.size w w' := ⟨h.os, h.tape, h.output, h.size, fun k hk => h.block k hk (by simp)⟩
end Go.Proofs.YtdblnbnofjggnaaGreatDoor
