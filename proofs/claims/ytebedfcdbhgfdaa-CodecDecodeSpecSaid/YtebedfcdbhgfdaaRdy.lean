/- codec.reader: value, the loop over a list. -/
import Derived.Test.YtebedfcdbhgfdaaRdx
import Derived.Deep.RegionLaw
namespace Go.Proofs.Ytebedfcdbhgfdaa
open Go.RowKit

theorem grown_drew' {w w1 : World} {G : Option Nat} (h : w.grownBy w1 G) : w.grownBy w1.drew G := ⟨h.os, h.tape, h.output, h.size, h.block⟩
def ListRel (B R T : Nat) (d n : Nat) (w : World) (r0 : List UInt8) (i : Value) (wr : World) : Prop :=
  ∃ (k : Nat) (xs : List V) (r : List UInt8) (lv : Value), k ≤ n ∧ i = .int .i64 k ∧ rdVs (rdV d) k r0 = some (xs, r) ∧ xs.length = k ∧ r.length ≤ 1000000 ∧ BoxAt wr T (.int .i64 3) (.int .i64 0) (.string ⟨#[]⟩) lv ∧
    (∃ oa cap, lv = .slice oa k cap) ∧ OwnV 24 (fun g => T < g ∧ some g ≠ lv.ownBlock ∧ g < wr.heap.size) wr (T + 1) lv xs ∧ RdrAt B wr R r ∧ w.grownBy wr (some R)

theorem rdVs_le (f : List UInt8 → Option (V × List UInt8)) : ∀ (n k : Nat) (l : List UInt8), k ≤ n → rdVs f k l = none → rdVs f n l = none
  | 0, k, l, hk, h => by obtain rfl : k = 0 := by omega
                         exact h
  | n + 1, k, l, hk, h => by
    by_cases he : k = n + 1
    · subst he; exact h
    · simp only [rdVs, rdVs_le f n k l (by omega) h]
theorem rdVs_none (f : List UInt8 → Option (V × List UInt8)) (n k : Nat) (l r : List UInt8) (xs : List V) (hk : k < n) (h : rdVs f k l = some (xs, r)) (hr : f r = none) : rdVs f n l = none :=
  rdVs_le f n (k + 1) l (by omega) (by simp only [rdVs, h, hr])
theorem rdVs_some (f : List UInt8 → Option (V × List UInt8)) (k : Nat) (l r r' : List UInt8) (xs : List V) (x : V) (h : rdVs f k l = some (xs, r)) (hr : f r = some (x, r')) : rdVs f (k + 1) l = some (xs ++ [x], r') := by
  simp only [rdVs, h, hr]
theorem OwnV.own_lt {e : TypeId} {D : Nat → Prop} {w : World} {base : Nat} {v : Value} {l : List V} (h : OwnV e D w base v l) (g : Nat) (hg : v.ownBlock = some g) : base ≤ g ∧ g < w.heap.size := by
  obtain ⟨lvs, h1, h2, h3, h4⟩ := h
  rcases h1.2 with ⟨rfl, h0⟩ | ⟨g', cap, cur, rfl, hb, hgb, hn, hm, hcs, ht⟩
  · simp [Value.ownBlock] at hg
  · simp [Value.ownBlock] at hg; subst hg
    exact ⟨hb, by
      rcases Nat.lt_or_ge g' w.heap.size with hx | hx
      · exact hx
      · rw [Array.getElem?_eq_none hx] at hgb; cases hgb⟩

theorem rdVs_len (f : List UInt8 → Option (V × List UInt8)) (hf : ∀ l x r, f l = some (x, r) → r.length < l.length) : ∀ (n : Nat) (l : List UInt8) (xs : List V) (r : List UInt8), rdVs f n l = some (xs, r) → r.length ≤ l.length
  | 0, l, xs, r, h => by simp [rdVs] at h; obtain ⟨rfl, rfl⟩ := h; exact Nat.le_refl _
  | n + 1, l, xs, r, h => by
    simp only [rdVs] at h
    cases hN : rdVs f n l with
    | none => rw [hN] at h; cases h
    | some p =>
      obtain ⟨ys, t⟩ := p
      rw [hN] at h; simp only at h
      cases hM : f t with
      | none => rw [hM] at h; cases h
      | some q =>
        obtain ⟨y, t'⟩ := q
        rw [hM] at h; simp at h
        obtain ⟨_, rfl⟩ := h
        have := rdVs_len f hf n l ys t hN
        have := hf t y t' hM
        omega
theorem rdV_len : ∀ (d : Nat) (l : List UInt8) (x : V) (r : List UInt8), rdV d l = some (x, r) → r.length < l.length := by
  intro d
  induction d with
  | zero =>
    intro l x r h
    cases l with
    | nil => rw [rdV_nil] at h; cases h
    | cons c t =>
      by_cases h1 : c = 1
      · subst h1; rw [rdV_1] at h
        cases hN : rdNum 0 0 t with
        | none => rw [hN] at h; cases h
        | some p => obtain ⟨u, t'⟩ := p; rw [hN] at h; simp at h; obtain ⟨_, rfl⟩ := h; have := rdNum_len t 0 0 _ _ hN; simp; omega
      · by_cases h2 : c = 2
        · subst h2; rw [rdV_2] at h
          cases hN : rdLen t with
          | none => rw [hN] at h; cases h
          | some p => obtain ⟨u, t'⟩ := p; rw [hN] at h; simp at h; obtain ⟨_, rfl⟩ := h; have := rdLen_len hN; simp; omega
        · by_cases h3 : c = 3
          · subst h3; rw [rdV_30] at h; cases h
          · rw [rdV_bad 0 c t h1 h2 h3] at h; cases h
  | succ d ih =>
    intro l x r h
    cases l with
    | nil => rw [rdV_nil] at h; cases h
    | cons c t =>
      by_cases h1 : c = 1
      · subst h1; rw [rdV_1] at h
        cases hN : rdNum 0 0 t with
        | none => rw [hN] at h; cases h
        | some p => obtain ⟨u, t'⟩ := p; rw [hN] at h; simp at h; obtain ⟨_, rfl⟩ := h; have := rdNum_len t 0 0 _ _ hN; simp; omega
      · by_cases h2 : c = 2
        · subst h2; rw [rdV_2] at h
          cases hN : rdLen t with
          | none => rw [hN] at h; cases h
          | some p => obtain ⟨u, t'⟩ := p; rw [hN] at h; simp at h; obtain ⟨_, rfl⟩ := h; have := rdLen_len hN; simp; omega
        · by_cases h3 : c = 3
          · subst h3; rw [rdV_3] at h
            cases hN : rdLen t with
            | none => rw [hN] at h; cases h
            | some p =>
              obtain ⟨n, t'⟩ := p; rw [hN] at h; simp only at h
              cases hM : rdVs (rdV d) n t' with
              | none => rw [hM] at h; cases h
              | some q =>
                obtain ⟨xs, t2⟩ := q; rw [hM] at h; simp at h; obtain ⟨_, rfl⟩ := h
                have := rdLen_len hN
                have := rdVs_len (rdV d) ih n t' xs t2 hM
                simp; omega
          · rw [rdV_bad (d + 1) c t h1 h2 h3] at h; cases h
theorem OwnV.mono {e : TypeId} {D D' : Nat → Prop} {w : World} {base : Nat} {v : Value} {l : List V} (h : OwnV e D w base v l) (hB : ∀ k, D k → D' k) (h4 : ∀ k, D' k → some k ≠ v.ownBlock) : OwnV e D' w base v l := by
  obtain ⟨lvs, h1, h2, h3, _⟩ := h
  exact ⟨lvs, h1, velems_keep hB (fun _ _ => rfl) l lvs h2, h3, h4⟩
theorem OwnV.shape {e : TypeId} {D : Nat → Prop} {w : World} {base : Nat} {v : Value} {l : List V} (h : OwnV e D w base v l) : ∃ oa cap, v = .slice oa l.length cap := by
  obtain ⟨lvs, h1, h2, h3, _⟩ := h
  rcases h1.2 with ⟨rfl, h0⟩ | ⟨g, cap, cur, rfl, _⟩
  · exact ⟨none, 0, by rw [h0]⟩
  · exact ⟨_, cap, rfl⟩
theorem SlVD.one {D : Nat → Prop} {w : World} {l : List V} {lv : Value} (h : SlVD D w l lv) : lv.oneCell' = true := by
  rcases h with ⟨_, oa, cap, rfl⟩ | ⟨_, c, o, cap, rfl, _⟩ <;> rfl
theorem grown_setT (w : World) (T i : Nat) (v : Value) : w.grownBy (w.setCell ⟨T, i, none⟩ v) (some T) :=
  ⟨rfl, rfl, rfl, by simp [World.setCell], fun k _ hne => Below.heap_setCell _ _ _ _ (by show k ≠ T; exact fun h => hne (by rw [h]))⟩
/-- a round of the list's loop: what stands behind it -/
theorem listRel_next {B R T d n k : Nat} {w wr w9 w' : World} {r0 r3 : List UInt8} {x : V} {xs : List V} {oa oa2 : Option Addr} {cp cp2 : Nat} (hT : T = w.heap.size) (hRT : R < T) (hkn : k < n) (hxl : xs.length = k)
    (hn : rdVs (rdV d) (k + 1) r0 = some (xs ++ [x], r3)) (hr3 : r3.length ≤ 1000000) (hbx : BoxAt wr T (.int .i64 3) (.int .i64 0) (.string ⟨#[]⟩) (.slice oa k cp))
    (hg3 : w.grownBy wr (some R)) (hTw : T < wr.heap.size) (hg9 : wr.grownBy w9 (some R)) (hrd9 : RdrAt B w9 R r3) (ob : Obj)
    (hown0 : ∀ g, (Value.slice oa k cp).ownBlock = some g → T + 1 ≤ g ∧ g < wr.heap.size)
    (ho : OwnV 24 (fun g => T < g ∧ some g ≠ (Value.slice oa k cp).ownBlock ∧ g < (w9.alloc ob).heap.size) w' (T + 1) (.slice oa2 (xs ++ [x]).length cp2) (xs ++ [x])) (hg : (w9.alloc ob).grownBy w' (Value.slice oa k cp).ownBlock) :
    ListRel B R T d n w r0 (.int .i64 ((k : Int) + 1)) (w'.setCell ⟨T, 3, none⟩ (.slice oa2 (xs ++ [x]).length cp2)) := by
  have hl : (xs ++ [x]).length = k + 1 := by simp [hxl]
  have hTo : some T ≠ (Value.slice oa k cp).ownBlock := fun e => by have := hown0 _ e.symm; omega
  have hRo : ∀ j, j ≤ R → some j ≠ (Value.slice oa k cp).ownBlock := fun j hj e => by have := hown0 _ e.symm; omega
  have hs9 := hg9.size
  have hs' := hg.size
  have hbx9 := hbx.grown hg9 (by omega)
  have hTa : T < (w9.alloc ob).heap.size := by simp; omega
  have cl : ∀ i, w'.cell? ⟨T, i, none⟩ = w9.cell? ⟨T, i, none⟩ := fun i => World.cell?_of_block (w := w9) ((hg.block T hTa hTo).trans (Below.heap_alloc w9 ob T (by omega)))
  have fl : ∀ i, w'.frozen? ⟨T, i, none⟩ = w9.frozen? ⟨T, i, none⟩ := fun i => World.frozen?_of_block (w := w9) ((hg.block T hTa hTo).trans (Below.heap_alloc w9 ob T (by omega)))
  have hwg : w.grownBy w' (some R) := grown_trans (grown_alloc (grown_trans hg3 hg9 (.inl rfl)) ob) hg (.inr fun g hg => by have := hown0 g hg; omega)
  rw [hl] at ho ⊢
  have hob := OwnV.own_lt ho
  refine ⟨k + 1, xs ++ [x], r3, .slice oa2 (k + 1) cp2, by omega, by simp, hn, hl, hr3, ?_, ⟨oa2, cp2, rfl⟩, ?_, ?_, grown_set_new hwg (by omega)⟩
  · refine ⟨?_, ?_, ?_, ?_, ?_⟩
    · rw [World.cell?_setCell_other _ _ _ _ (by simp), cl 0]; exact hbx9.c0
    · rw [World.cell?_setCell_other _ _ _ _ (by simp), cl 1]; exact hbx9.c1
    · rw [World.cell?_setCell_other _ _ _ _ (by simp), cl 2]; exact hbx9.c2
    · exact World.cell?_setCell_same' _ _ _ (by rw [cl 3, hbx9.c3]; rfl)
    · intro o; rw [World.frozen?_setCell, fl o]; exact hbx9.fr o
  · obtain ⟨lvs, _, _, _, hd4⟩ := id ho
    refine ((OwnV.kept ho (grown_setT w' T 3 _) (.inr fun e => by have := hob T e; omega) (fun j hj e => by injection e with e; have := hj.1; omega) (fun j hj => by have := hj.2.2; omega))).mono (fun j hj => ⟨hj.1, hd4 j hj, by have := hj.2.2; simp [World.setCell]; omega⟩) ?_
    exact fun j hj => hj.2.1
  · refine RdrAt.set ?_ hRT
    exact hrd9.keep fun j hj => (hg.block j (by simp; omega) (hRo j hj)).trans (Below.heap_alloc w9 ob j (by omega))
set_option maxRecDepth 100000 in
set_option maxHeartbeats 4000000 in
theorem value_3 (d : Nat) (hd : d ≤ 16) (ih : ∀ d', d = d' + 1 → ValSaid d') (B R : Nat) (r : List UInt8) (hl : (3 :: r).length ≤ 1000000) (w : World) (hr : RdrAt B w R (3 :: r)) (hRw : R < w.heap.size) :
    Calls Try.prog 32 #[.pointer (some ⟨R, 0, none⟩), .int .i64 (16 - (d : Int))] w (ValPost B R (rdV d (3 :: r)) w) := by
  have HR := Lib.hid hr; clear hr
  have IH := Lib.hid ih; clear ih
  have hrl : r.length ≤ 1000000 := by simp at hl; omega
  cases d with
  | zero =>
    have hn := Lib.hid (rdV_30 r)
    go_enter Try.func32, Try.ntmps32
    go_wp2_with (first
      | (go_at_call 44; refine (value_head B R 3 r hl w HR.out hRw _).mono ?_; rintro e w1 ⟨b, off, cap, v', rfl, rfl, hbR, hbw, hc, hrd⟩)
      | (go_at_call 33; refine (want_false _ _).mono ?_; rintro e w' ⟨rfl, rfl⟩))
    exact ⟨rfl, by rw [hn.out]; exact And.intro rfl (grown_alloc (setCell_grown w R v') _)⟩
  | succ d =>
    have hd' : d ≤ 15 := by omega
    have hv := Lib.hid (rdV_3 d r)
    have hdt : decide ((16 - ((d : Int) + 1)) < 16) = true := by simp; omega
    cases hN : rdLen r with
    | none =>
      have hn : Hid (rdV (d + 1) (3 :: r) = none) := by show _ = _; rw [hv.out, hN]
      have HN := Lib.hid hN; clear hN
      go_enter Try.func32, Try.ntmps32
      go_wp2_with (first
        | (go_at_call 44; refine (value_head B R 3 r hl w HR.out hRw _).mono ?_; rintro e w1 ⟨b, off, cap, v', rfl, rfl, hbR, hbw, hc, hrd⟩)
        | (go_at_call 33; refine (want_true _ _).mono ?_; rintro e w' ⟨rfl, rfl⟩))
      have hszw : (w.setCell ⟨R, 0, none⟩ v').heap.size = w.heap.size := by simp [World.setCell]
      refine (length_any B R r hrl _ (hrd.keep fun k hk => Below.heap_alloc _ _ k (by omega))).mono ?_
      rw [HN.out]
      rintro e w2 ⟨rfl, hg⟩
      exact ⟨rfl, by rw [hn.out]; exact And.intro rfl (grown_trans (grown_alloc (setCell_grown w R v') _) hg (.inl rfl))⟩
    | some p =>
      obtain ⟨n, r'⟩ := p
      have hlen := rdLen_len hN
      have HN := Lib.hid hN; clear hN
      go_enter Try.func32, Try.ntmps32
      go_wp2_with (first
        | (go_at_call 44; refine (value_head B R 3 r hl w HR.out hRw _).mono ?_; rintro e w1 ⟨b, off, cap, v', rfl, rfl, hbR, hbw, hc, hrd⟩)
        | (go_at_call 33; refine (want_true _ _).mono ?_; rintro e w' ⟨rfl, rfl⟩))
      have hszw : (w.setCell ⟨R, 0, none⟩ v').heap.size = w.heap.size := by simp [World.setCell]
      refine (length_any B R r hrl _ (hrd.keep fun k hk => Below.heap_alloc _ _ k (by omega))).mono ?_
      rw [HN.out]
      rintro e w2 ⟨rfl, hrd2, hg⟩
      have hbx := (BoxAt.made (w.setCell ⟨R, 0, none⟩ v') 24 (.int .i64 3) (.int .i64 0) (.string ⟨#[]⟩) (.slice none 0 0)).grown hg (by omega)
      rw [hszw] at hbx
      have hgw : w.grownBy w2 (some R) := grown_trans (grown_alloc (setCell_grown w R v') _) hg (.inl rfl)
      clear hg hc hrd
      have HB := Lib.hid hbx; clear hbx
      go_wp2
      go_loopw [37] (fun i wr => ListRel B R w.heap.size d n w r' i wr) (fun i _ => n - (intOf i).toNat)
      case atStart => exact ⟨0, [], r', .slice none 0 0, Nat.zero_le _, rfl, rfl, rfl, by omega, HB.out, ⟨none, 0, rfl⟩, ⟨[], World.ownsRow_nil _ _ _ _, trivial, by simp, by simp [Value.ownBlock]⟩, hrd2, hgw⟩
      case round =>
        obtain ⟨k, xs, r2, lv, hkn, rfl, hrd, hxl, hr2, hbx, ⟨oa, cp, rfl⟩, hown, hrd3, hg3⟩ := hrel
        have hsz3 := hg3.size
        have hRwr : R < wr.heap.size := by omega
        have Hrd := Lib.hid hrd; have Hxl := Lib.hid hxl; have Hown := Lib.hid hown; have Hrd3 := Lib.hid hrd3; have Hbx := Lib.hid hbx
        clear hrd hxl hown hrd3
        by_cases hlt : k < n
        case neg =>
          obtain rfl : k = n := by omega
          have hn : Hid (rdV (d + 1) (3 :: r) = some (.mk 3 0 ⟨#[]⟩ xs, r2)) := by show _ = _; rw [hv.out, HN.out]; simp only; rw [Hrd.out]
          obtain ⟨x0, x1, x2, x3, xf⟩ := hbx
          go_wp2
          refine bodyPost_ret (v := .agg #[.int .i64 3, .int .i64 0, .string ⟨#[]⟩, .slice oa k cp]) (by simp [results, Try.results32, go_sem, x0, x1, x2, x3]) rfl ?_
          rw [hn.out]
          have hsl : SlVD (fun g => w.heap.size < g ∧ g < wr.heap.size) wr xs (.slice oa k cp) := Hown.out.sl (fun g hg => by have := hg.1; have := hg.2.2; omega) (fun g hg => by have := Hown.out.own_lt g hg; omega)
          exact ⟨_, rfl, ⟨by show I64 3; unfold I64; omega, by show I64 0; unfold I64; omega, Nat.zero_le maxLen, _, rfl, hsl.keep (fun g hg => ⟨by omega, by simp [World.setCell]; omega⟩) (fun g hg => by repeat (first | rfl | refine (Below.heap_setCell _ _ _ _ (by show g ≠ w.heap.size; omega)).trans ?_))⟩, by repeat (first | exact Hrd3.out | refine RdrAt.set ?_ hRw), by repeat (first | exact hg3 | refine grown_set_new ?_ (Nat.le_refl _))⟩
        case pos =>
          cases hE : rdV d r2 with
          | none =>
            have hn : Hid (rdV (d + 1) (3 :: r) = none) := by show _ = _; rw [hv.out, HN.out]; simp only; rw [rdVs_none _ n k _ _ xs hlt Hrd.out hE]
            have HE := Lib.hid hE; clear hE
            have hw : IntKind.i64.wrap (16 - ((d : Int) + 1) + 1) = 16 - (d : Int) := by rw [IntKind.wrap_i64]; omega
            obtain ⟨x0, x1, x2, x3, xf⟩ := hbx
            go_wp2
            have HW := Lib.hid hw
            refine wp_region_any (by kernel_rfl) ?_
            try (change wpAny _ _ _ _ _ _ _ (World.drew _))
            refine wpAny_take (i := 0) (v := ?_) rfl (by kernel_rfl) (by kernel_rfl) (by kernel_rfl) (fun _ _ _ h => h) (Or.inl ⟨by rfl, ?hy0⟩) ?rest0
            case hy0 => (intro w; go_simp; try with_reducible rfl)
            refine wpAny_take (i := 2) (v := ?_) rfl (by kernel_rfl) (by kernel_rfl) (by kernel_rfl) (fun _ _ _ h => h) (Or.inl ⟨by rfl, ?hy2⟩) ?rest2
            case hy2 => (intro w; go_simp; try with_reducible rfl)
            refine wpAny_take (i := 3) (v := ?_) rfl (by kernel_rfl) (by kernel_rfl) (by kernel_rfl) (fun _ _ _ h => h) (Or.inl ⟨by rfl, ?hy3⟩) ?rest3
            case hy3 => (intro w; go_simp; try with_reducible rfl)
            refine wpAny_take (i := 4) (v := ?_) rfl (by kernel_rfl) (by kernel_rfl) (by kernel_rfl) (fun _ _ _ h => h) (Or.inl ⟨by rfl, ?hy4⟩) ?rest4
            case hy4 => (intro w; go_simp; try with_reducible rfl)
            refine wpAny_ready (rs := [1, 5]) (by kernel_rfl) (by simp) ?_
            refine AllReady.cons rfl (fun K hK => ?_) (AllReady.cons rfl (fun K hK => ?_) AllReady.nil)
            · go_simp
              refine hK _ _ ?_
              clear hK K
              refine wpAny_ready (rs := [5]) (by kernel_rfl) (by simp) ?_
              refine AllReady.cons rfl (fun K hK => ?_) AllReady.nil
              go_simp
              go_at_call 32
              refine (IH.out d rfl B R r2 _ (by first | rfl | exact HW.out) hr2 wr.drew (RdrAt.keep Hrd3.out fun j hj => rfl) (by simpa using hRwr)).mono ?_
              rw [HE.out]
              rintro e w9 ⟨rfl, hg9⟩
              go_wp2
              exact ⟨rfl, by rw [hn.out]; exact And.intro rfl (grown_trans (grown_drew' hg3) hg9 (.inl rfl))⟩
            · go_simp
              go_at_call 32
              refine (IH.out d rfl B R r2 _ (by first | rfl | exact HW.out) hr2 wr.drew (RdrAt.keep Hrd3.out fun j hj => rfl) (by simpa using hRwr)).mono ?_
              rw [HE.out]
              rintro e w9 ⟨rfl, hg9⟩
              go_wp2
              exact ⟨rfl, by rw [hn.out]; exact And.intro rfl (grown_trans (grown_drew' hg3) hg9 (.inl rfl))⟩
          | some q =>
            obtain ⟨x, r3⟩ := q
            have HE := Lib.hid hE; clear hE
            have hn : Hid (rdVs (rdV d) (k + 1) r' = some (xs ++ [x], r3)) := rdVs_some _ k _ _ _ _ _ Hrd.out HE.out
            have hw : IntKind.i64.wrap (16 - ((d : Int) + 1) + 1) = 16 - (d : Int) := by rw [IntKind.wrap_i64]; omega
            have HW := Lib.hid hw
            obtain ⟨x0, x1, x2, x3, xf⟩ := hbx
            go_wp2
            have hTwr : w.heap.size < wr.heap.size := World.block_lt_of_cell? wr _ x0
            have ho0 := Hown.out.own_lt
            have hTo : some w.heap.size ≠ (Value.slice oa k cp).ownBlock := fun e => by have := ho0 _ e.symm; omega
            have hO0 := Lib.hid ho0; clear ho0
            go_region_law (first
              | (go_simp; go_at_call 32; refine (IH.out d rfl B R r2 _ (by first | rfl | exact HW.out) hr2 wr.drew (RdrAt.keep Hrd3.out fun j hj => rfl) (by simpa using hRwr)).mono ?_; rw [HE.out]; rintro e w9 ⟨v9, rfl, hv9, hrd9, hg9'⟩
                 have hg9 : wr.grownBy w9 (some R) := grown_trans (grown_drew' (grown_refl wr _)) hg9' (.inl rfl)
                 have y0 : w9.cell? ⟨w.heap.size, 3, none⟩ = some (.slice oa k cp) := hg9.cell x3 (fun e => by injection e with e; exact absurd e (by show w.heap.size ≠ R; omega))
                 have hs9 := hg9.size
                 have hTw9 : w.heap.size < w9.heap.size := by omega
                 obtain ⟨z1, z2, z3, lx, rfl, z4⟩ := hv9
                 have Z := Lib.hid (And.intro z1 (And.intro z2 (And.intro z3 z4)))
                 clear z1 z2 z3 z4 hg9')
              | (refine step_append_V (e := 24) (z := .agg #[.int .i64 0, .int .i64 0, .string ⟨#[]⟩, .slice none 0 0]) (bytes := 56) Try.underlying22 (by kernel_rfl) rfl (by decide) rfl _ _ rfl (fun g => w.heap.size < g ∧ some g ≠ (Value.slice oa k cp).ownBlock ∧ g < (w9.alloc (.cells #[.int .i64 x.kind, .int .i64 x.n, .string x.s, lx] 24)).heap.size) (w.heap.size + 1) (.slice oa k cp) xs rfl ?q1 _ x lx rfl ?q2 Z.out.2.2.2.one ?q3 ?q4 ?q5 ?q6 ?_
                 case q1 =>
                   refine ((Hown.out.kept hg9 (.inr fun e => by have := hO0.out R e; omega) (fun j hj e => by injection e with e; have := hj.1; omega) (fun j hj => hj.2.2)).kept (row := some R) (grown_alloc (grown_refl w9 _) _) (.inr fun e => by have := hO0.out R e; omega) (fun j hj e => by injection e with e; have := hj.1; omega) (fun j hj => by have := hj.2.2; omega)).mono (fun j hj => ⟨hj.1, hj.2.1, by have := hj.2.2; simp; omega⟩) (fun j hj => hj.2.1)
                 case q2 => exact ⟨Z.out.1, Z.out.2.1, Z.out.2.2.1, Z.out.2.2.2.keep (fun j hj => ⟨by have : wr.heap.size ≤ j := hj.1; omega, fun e => by have h1 := (hO0.out j e.symm).2; have h2 : wr.heap.size ≤ j := hj.1; omega, by have := hj.2; simp; omega⟩) (fun j hj => Below.heap_alloc w9 _ j hj.2)⟩
                 case q3 => simp
                 case q4 => (have := Hxl.out; omega)
                 case q5 => simp; omega
                 case q6 => exact fun j hj => hj.2.2
                 intro v' w' ho hg hnx
                 obtain ⟨oa2, cp2, rfl⟩ := ho.shape
                 have hTb := (hg.block w.heap.size (by simp; omega) hTo).trans (Below.heap_alloc w9 _ w.heap.size (by omega))
                 have y3 : w'.cell? ⟨w.heap.size, 3, none⟩ = some (.slice oa k cp) := (World.cell?_of_block (w := w9) hTb).trans y0
                 have yf : w'.frozen? ⟨w.heap.size, 3, none⟩ = false := (World.frozen?_of_block (w := w9) hTb).trans ((World.frozen?_of_block (w := wr) (hg9.block w.heap.size (by omega) (fun e => by injection e with e; omega))).trans (xf 3))
                 clear hTb
                 have HO := Lib.hid ho; clear ho))
            all_goals
              go_wp2
              go_roundw
              case rel =>
                have hll : (xs ++ [x]).length = xs.length + 1 := by simp
                have q := listRel_next rfl hRw hlt Hxl.out hn.out (Nat.le_trans (Nat.le_of_lt (rdV_len d r2 x r3 HE.out)) hr2) Hbx.out hg3 hTwr hg9 hrd9 _ hO0.out HO.out hg
                rw [hll] at q
                exact q
              case measure => simp [intOf]; omega
end Go.Proofs.Ytebedfcdbhgfdaa
