/- Merged: Rco Rbs Rbe Rcl Inl. -/
import Derived.Test.YtgdbmoggpfpkkaaK01
import Derived.Test.YtgdbmoggpfpkkaaK05
import Derived.Test.YtgdbmoggpfpkkaaK06
import Derived.Laws.Cover3
import Derived.Lib.Overlaps
import Derived.Lib.AppendZerosOnto
import Derived.Laws.CopyRow
/- reports in memory; collected. -/
namespace Go.Proofs.Ytgdbmoggpfpkkaa
open Go.RowKit
/-- a report in memory -/
structure RpAt (w : World) (b o : Nat) (r : Rp) : Prop where
  c0 : w.cell? ⟨b, o, none⟩ = some (.int .i64 r.st)
  c1 : w.cell? ⟨b, o + 1, none⟩ = some (.int .i64 r.no)
  c2 : w.cell? ⟨b, o + 2, none⟩ = some (.int .i64 r.mi)
  c3 : w.cell? ⟨b, o + 3, none⟩ = some (.int .i64 r.ar)
  c4 : w.cell? ⟨b, o + 4, none⟩ = some (.string r.cl)
  c5 : w.cell? ⟨b, o + 5, none⟩ = some (.int .i64 r.vo)
theorem RpAt.keep {w w' : World} {b o : Nat} {r : Rp} (h : RpAt w b o r) (hk : w'.heap[b]? = w.heap[b]?) : RpAt w' b o r :=
  ⟨by rw [World.cell?_of_block (w := w) hk]; exact h.c0, by rw [World.cell?_of_block (w := w) hk]; exact h.c1, by rw [World.cell?_of_block (w := w) hk]; exact h.c2, by rw [World.cell?_of_block (w := w) hk]; exact h.c3, by rw [World.cell?_of_block (w := w) hk]; exact h.c4, by rw [World.cell?_of_block (w := w) hk]; exact h.c5⟩
theorem RpAt.of_cb {w : World} {g : Nat} {t : TypeId} {r : Rp} (h : CB w g t r.cells) : RpAt w g 0 r := ⟨h.cell 0, h.cell 1, h.cell 2, h.cell 3, h.cell 4, h.cell 5⟩
/-- reports that are read -/
def RpsAt (B : Nat) (w : World) (l : List Rp) (v : Value) : Prop :=
  (l = [] ∧ ∃ oa cap, v = .slice oa 0 cap) ∨ (∃ b off cap, v = .slice (some ⟨b, off, none⟩) l.length cap ∧ l.length ≤ cap ∧ cap ≤ maxLen ∧ b < B ∧ ∀ j r, l[j]? = some r → RpAt w b (off + j * 6) r)
theorem RpsAt.keep {B B' : Nat} {w w' : World} {l : List Rp} {v : Value} (h : RpsAt B w l v) (hB : B ≤ B') (hs : ∀ k, k < B → w'.heap[k]? = w.heap[k]?) : RpsAt B' w' l v := by
  rcases h with h | ⟨b, off, cap, h1, h2, h3, h4, h5⟩
  · exact .inl h
  · exact .inr ⟨b, off, cap, h1, h2, h3, Nat.lt_of_lt_of_le h4 hB, fun j r hj => (h5 j r hj).keep (hs _ h4)⟩
theorem RpsAt.ext {w w' : World} {l : List Rp} {v : Value} (h : RpsAt w.heap.size w l v) (hb : Below w.heap.size w w') : RpsAt w'.heap.size w' l v := h.keep hb.size hb.block
theorem RpsAt.shape {B : Nat} {w : World} {l : List Rp} {v : Value} (h : RpsAt B w l v) : ∃ oa cap, v = .slice oa l.length cap ∧ l.length ≤ 9223372036854775807 := by
  rcases h with ⟨rfl, oa, cap, rfl⟩ | ⟨b, off, cap, rfl, h2, h3, _⟩
  · exact ⟨oa, cap, rfl, by simp⟩
  · exact ⟨_, cap, rfl, by unfold maxLen at h3; omega⟩
theorem RpsAt.at {B : Nat} {w : World} {l : List Rp} {oa : Option Addr} {cap k : Nat} (h : RpsAt B w l (.slice oa l.length cap)) (hk : k < l.length) :
    ∃ b off, oa = some ⟨b, off, none⟩ ∧ ∀ j r, l[j]? = some r → RpAt w b (off + j * 6) r := by
  rcases h with ⟨rfl, _⟩ | ⟨b, off, cp, h1, _, _, _, h5⟩
  · simp at hk
  · injection h1 with h1 _ _
    exact ⟨b, off, h1, h5⟩
/-- reports in order, behind a place -/
def colF : Option (Int × Int) → List Rp → Bool
  | _, [] => true
  | p, r :: t => (repB 4 3 r && (match p with | none => true | some (s, n) => decide (cmpP s n r.st r.no < 0))) && colF (some (r.st, r.no)) t
def colB (l : List Rp) : Bool := colF none l && decide (l.length ≤ 1024)
/-- the place ahead of index k -/
def prevP (l : List Rp) (k : Nat) : Option (Int × Int) := if k = 0 then none else (l[k - 1]?).map fun r => (r.st, r.no)
def CoRel (l : List Rp) (w : World) (i : Value) (wr : World) : Prop := ∃ k : Nat, k ≤ l.length ∧ i = .int .i64 k ∧ colF none l = colF (prevP l k) (l.drop k) ∧ Below w.heap.size w wr
theorem drop_rp {l : List Rp} {k : Nat} {r : Rp} (h : l[k]? = some r) : l.drop k = r :: l.drop (k + 1) := by
  obtain ⟨h1, h2⟩ := List.getElem?_eq_some_iff.1 h
  rw [List.drop_eq_getElem_cons h1, h2]
theorem prevP_succ {l : List Rp} {k : Nat} {r : Rp} (h : l[k]? = some r) : prevP l (k + 1) = some (r.st, r.no) := by unfold prevP; simp [h]
theorem col_bad {l : List Rp} {k : Nat} {r : Rp} (h : l[k]? = some r) (hi : colF none l = colF (prevP l k) (l.drop k)) (hr : repB 4 3 r = false) : colF none l = false := by
  rw [hi, drop_rp h]; simp [colF, hr]
theorem col_zero {l : List Rp} {r : Rp} (h : l[0]? = some r) (hr : repB 4 3 r = true) : colF none l = colF (prevP l 1) (l.drop 1) := by
  have hd := drop_rp h
  rw [List.drop_zero] at hd
  rw [prevP_succ h]
  conv => lhs; rw [hd]
  simp [colF, hr]
theorem col_step {l : List Rp} {j : Nat} {p r : Rp} (hp : l[j]? = some p) (h : l[j + 1]? = some r) (hi : colF none l = colF (prevP l (j + 1)) (l.drop (j + 1))) (hr : repB 4 3 r = true) :
    colF none l = (decide (cmpP p.st p.no r.st r.no < 0) && colF (prevP l (j + 1 + 1)) (l.drop (j + 1 + 1))) := by
  rw [prevP_succ hp] at hi
  rw [hi, drop_rp h, prevP_succ h]; simp [colF, hr]
theorem Rp.ok_size {r : Rp} (h : r.cl.size ≤ maxLen) : r.cl.size ≤ 9223372036854775807 := by unfold maxLen at h; omega
theorem three : IntKind.i64.wrap (4 - 1) = 3 := by decide
theorem check_t (r : Rp) (h : Hid (repB 4 3 r = true)) (hs : r.cl.size ≤ 9223372036854775807) (w : World) : Calls Try.prog 13 #[.int .i64 4, r.v] w fun e w' => e = .returned (.int .i64 0) ∧ Below w.heap.size w w' :=
  (check22_any 4 3 r w three hs).mono fun _ _ q => ⟨by rw [q.1, h.out]; rfl, q.2⟩
theorem check_f (r : Rp) (h : Hid (repB 4 3 r = false)) (hs : r.cl.size ≤ 9223372036854775807) (w : World) : Calls Try.prog 13 #[.int .i64 4, r.v] w fun e w' => e = .returned (.int .i64 220) ∧ Below w.heap.size w w' :=
  (check22_any 4 3 r w three hs).mono fun _ _ q => ⟨by rw [q.1, h.out]; rfl, q.2⟩
theorem below_undrew' {B : Nat} {w w' : World} (h : Below B w.drew w') : Below B w w' := ⟨h.os, h.tape, h.output, h.size, h.block⟩
def Six (w : World) (b o : Nat) (r : Rp) : Prop := w.cell? ⟨b, o, none⟩ = some (.int .i64 r.st) ∧ w.cell? ⟨b, o + 1, none⟩ = some (.int .i64 r.no) ∧ w.cell? ⟨b, o + 2, none⟩ = some (.int .i64 r.mi) ∧ w.cell? ⟨b, o + 3, none⟩ = some (.int .i64 r.ar) ∧ w.cell? ⟨b, o + 4, none⟩ = some (.string r.cl) ∧ w.cell? ⟨b, o + 5, none⟩ = some (.int .i64 r.vo)
theorem RpAt.six {w : World} {b o : Nat} {r : Rp} (h : RpAt w b o r) : Six w b o r := ⟨h.c0, h.c1, h.c2, h.c3, h.c4, h.c5⟩
theorem Six.ext {w w' : World} {b o : Nat} {r : Rp} (h : Six w b o r) (hb : Below w.heap.size w w') : Six w' b o r := ⟨cell_ext hb h.1, cell_ext hb h.2.1, cell_ext hb h.2.2.1, cell_ext hb h.2.2.2.1, cell_ext hb h.2.2.2.2.1, cell_ext hb h.2.2.2.2.2⟩
theorem RpAt.ext {w w' : World} {b o : Nat} {r : Rp} (h : RpAt w b o r) (hb : Below w.heap.size w w') : RpAt w' b o r := ⟨cell_ext hb h.c0, cell_ext hb h.c1, cell_ext hb h.c2, cell_ext hb h.c3, cell_ext hb h.c4, cell_ext hb h.c5⟩
theorem six_two {w w' : World} {b o b2 o2 : Nat} {r p : Rp} (h : RpAt w b o r) (h2 : RpAt w b2 o2 p) (hb : Below w.heap.size w w') :
    (w'.cell? ⟨b, o, none⟩ = some (.int .i64 r.st) ∧ w'.cell? ⟨b, o + 1, none⟩ = some (.int .i64 r.no) ∧ w'.cell? ⟨b, o + 2, none⟩ = some (.int .i64 r.mi) ∧ w'.cell? ⟨b, o + 3, none⟩ = some (.int .i64 r.ar) ∧ w'.cell? ⟨b, o + 4, none⟩ = some (.string r.cl) ∧ w'.cell? ⟨b, o + 5, none⟩ = some (.int .i64 r.vo)) ∧
    w'.cell? ⟨b2, o2, none⟩ = some (.int .i64 p.st) ∧ w'.cell? ⟨b2, o2 + 1, none⟩ = some (.int .i64 p.no) ∧ w'.cell? ⟨b2, o2 + 2, none⟩ = some (.int .i64 p.mi) ∧ w'.cell? ⟨b2, o2 + 3, none⟩ = some (.int .i64 p.ar) ∧ w'.cell? ⟨b2, o2 + 4, none⟩ = some (.string p.cl) ∧ w'.cell? ⟨b2, o2 + 5, none⟩ = some (.int .i64 p.vo) :=
  ⟨(h.ext hb).six, (h2.ext hb).six⟩
set_option maxRecDepth 100000 in
set_option maxHeartbeats 4000000 in
theorem collected_any (l : List Rp) (v : Value) (w : World) (hl : RpsAt w.heap.size w l v) (hs : ∀ r ∈ l, r.cl.size ≤ 9223372036854775807) :
    Calls Try.prog 40 #[v] w fun e w' => e = .returned (.bool (colB l)) ∧ Below w.heap.size w w' := by
  obtain ⟨oa, cap, rfl, hlm⟩ := hl.shape
  have HR := Lib.hid hl; have HS := Lib.hid hs
  have bl : (l.length : Int) ≤ 9223372036854775807 := by omega
  clear hl hs hlm
  go_enter Try.func40, Try.ntmps40
  go_wp2_with fail
  go_loopw [7] (fun i wr => CoRel l w i wr) (fun i _ => l.length - (intOf i).toNat)
  case atStart => exact ⟨0, by omega, rfl, rfl, Below.refl _ _⟩
  case round =>
    obtain ⟨k, hk, rfl, hi, hb⟩ := hrel
    have HIn := Lib.hid hi; have HB := Lib.hid hb
    clear hi hb
    by_cases hlt : k < l.length
    · have tj : decide ((k : Int) < (l.length : Int)) = true := by simp; omega
      have tj' : decide (k < l.length) = true := by simp; omega
      obtain ⟨r, hr⟩ : ∃ r, l[k]? = some r := ⟨_, List.getElem?_eq_getElem hlt⟩
      obtain ⟨b, off, rfl, hat⟩ := (HR.out.ext HB.out).at hlt
      obtain ⟨c0, c1, c2, c3, c4, c5⟩ := hat k r hr
      have Hat := Lib.hid hat; have Hr := Lib.hid hr
      have Hsz : Hid (r.cl.size ≤ 9223372036854775807) := HS.out r (List.mem_of_getElem? hr)
      clear hat hr
      go_upto_region 4 with fail
      have hcb : Hid (CB (wr.alloc (.cells #[.int .i64 r.st, .int .i64 r.no, .int .i64 r.mi, .int .i64 r.ar, .string r.cl, .int .i64 r.vo] 23)) wr.heap.size 23 r.cells) := CB.new wr _ _
      have hbw := Lib.hid ((Below.refl wr.heap.size wr).alloc (Nat.le_refl _) (.cells #[.int .i64 r.st, .int .i64 r.no, .int .i64 r.mi, .int .i64 r.ar, .string r.cl, .int .i64 r.vo] 23))
      clear c0 c1 c2 c3 c4 c5
      generalize wr.alloc (.cells #[.int .i64 r.st, .int .i64 r.no, .int .i64 r.mi, .int .i64 r.ar, .string r.cl, .int .i64 r.vo] 23) = w1 at *
      have hbS := (Below.refl w1.heap.size w1).drew
      cases hrb : repB 4 3 r
      · have Hrb := Lib.hid hrb
        have hN := Lib.hid (col_bad Hr.out HIn.out hrb)
        clear hrb
        refine wp_region_noPanic ?_
        refine wp_region_held_drew (S := fun w' => w'.cell? ⟨wr.heap.size, 0, none⟩ = some (.int .i64 r.st) ∧ w'.cell? ⟨wr.heap.size, 1, none⟩ = some (.int .i64 r.no) ∧ w'.cell? ⟨wr.heap.size, 2, none⟩ = some (.int .i64 r.mi) ∧ w'.cell? ⟨wr.heap.size, 3, none⟩ = some (.int .i64 r.ar) ∧ w'.cell? ⟨wr.heap.size, 4, none⟩ = some (.string r.cl) ∧ w'.cell? ⟨wr.heap.size, 5, none⟩ = some (.int .i64 r.vo)) (by kernel_rfl) ((RpAt.of_cb hcb.out).ext hbS).six (fun hHeld => ?_)
        refine take_dst (some 12) (i := 0) (v := ?vA0) rfl rfl (by kernel_rfl) (by kernel_rfl) (by kernel_rfl) (fun _ _ _ h => h) (Or.inl ⟨by rfl, fun wS hSw => ?hyA0⟩) (by assumption) ?restA0
        case hyA0 => (obtain ⟨s0, s1, s2, s3, s4, s5⟩ := hSw; go_simp; first | done | with_reducible rfl)
        try simp only [Act.put, List.setIfInBounds_toArray, List.set_cons_zero, List.set_cons_succ]
        refine wpAnyH_ready (rs := [1]) (by kernel_rfl) (by simp) ?_
        refine AllReadyH.cons rfl (fun K hK => ?_) AllReadyH.nil
        go_simp
        refine (check_f r Hrb Hsz.out _).mono ?_
        rintro e w7 ⟨rfl, hb7⟩
        have hbS2 : Below w1.heap.size w1 w7 := below_undrew' hb7
        refine hK.out _ _ ((RpAt.of_cb hcb.out).ext hbS2).six (fun hHeld2 => ?_)
        clear hK K hb7 hbS
        have hbS := hbS2
        clear hbS2
        try simp only [Act.put, List.setIfInBounds_toArray, List.set_cons_zero, List.set_cons_succ]
        refine take_dst (some 14) (i := 2) (v := ?vA2) rfl rfl (by kernel_rfl) (by kernel_rfl) (by kernel_rfl) (fun _ _ _ h => h) (Or.inl ⟨by rfl, fun wS hSw => ?hyA2⟩) (by assumption) ?restA2
        case hyA2 => (obtain ⟨s0, s1, s2, s3, s4, s5⟩ := hSw; go_simp; first | done | with_reducible rfl)
        try simp only [Act.put, List.setIfInBounds_toArray, List.set_cons_zero, List.set_cons_succ]
        refine take_dst (some 15) (i := 3) (v := ?vA3) rfl rfl (by kernel_rfl) (by kernel_rfl) (by kernel_rfl) (fun _ _ _ h => h) (Or.inl ⟨by rfl, fun wS hSw => ?hyA3⟩) (by assumption) ?restA3
        case hyA3 => (obtain ⟨s0, s1, s2, s3, s4, s5⟩ := hSw; go_simp; first | done | with_reducible rfl)
        try simp only [Act.put, List.setIfInBounds_toArray, List.set_cons_zero, List.set_cons_succ]
        refine take_dst (some 16) (i := 4) (v := undef) rfl rfl (by kernel_rfl) (by kernel_rfl) (by kernel_rfl) (fun _ _ _ h => h) (Or.inr ⟨by rfl, rfl⟩) (by assumption) ?restA4
        try simp only [Act.put, List.setIfInBounds_toArray, List.set_cons_zero, List.set_cons_succ]
        refine take_dst (some 17) (i := 5) (v := undef) rfl rfl (by kernel_rfl) (by kernel_rfl) (by kernel_rfl) (fun _ _ _ h => h) (Or.inr ⟨by rfl, rfl⟩) (by assumption) ?restA5
        try simp only [Act.put, List.setIfInBounds_toArray, List.set_cons_zero, List.set_cons_succ]
        refine take_dst (some 18) (i := 6) (v := undef) rfl rfl (by kernel_rfl) (by kernel_rfl) (by kernel_rfl) (fun _ _ _ h => h) (Or.inr ⟨by rfl, rfl⟩) (by assumption) ?restA6
        try simp only [Act.put, List.setIfInBounds_toArray, List.set_cons_zero, List.set_cons_succ]
        refine take_dst (some 19) (i := 7) (v := undef) rfl rfl (by kernel_rfl) (by kernel_rfl) (by kernel_rfl) (fun _ _ _ h => h) (Or.inr ⟨by rfl, rfl⟩) (by assumption) ?restA7
        try simp only [Act.put, List.setIfInBounds_toArray, List.set_cons_zero, List.set_cons_succ]
        refine take_dst (some 20) (i := 8) (v := undef) rfl rfl (by kernel_rfl) (by kernel_rfl) (by kernel_rfl) (fun _ _ _ h => h) (Or.inr ⟨by rfl, rfl⟩) (by assumption) ?restA8
        try simp only [Act.put, List.setIfInBounds_toArray, List.set_cons_zero, List.set_cons_succ]
        refine take_dst (some 21) (i := 9) (v := undef) rfl rfl (by kernel_rfl) (by kernel_rfl) (by kernel_rfl) (fun _ _ _ h => h) (Or.inr ⟨by rfl, rfl⟩) (by assumption) ?restA9
        try simp only [Act.put, List.setIfInBounds_toArray, List.set_cons_zero, List.set_cons_succ]
        refine take_dst (some 22) (i := 10) (v := undef) rfl rfl (by kernel_rfl) (by kernel_rfl) (by kernel_rfl) (fun _ _ _ h => h) (Or.inr ⟨by rfl, rfl⟩) (by assumption) ?restA10
        try simp only [Act.put, List.setIfInBounds_toArray, List.set_cons_zero, List.set_cons_succ]
        refine take_dst (some 23) (i := 11) (v := undef) rfl rfl (by kernel_rfl) (by kernel_rfl) (by kernel_rfl) (fun _ _ _ h => h) (Or.inr ⟨by rfl, rfl⟩) (by assumption) ?restA11
        try simp only [Act.put, List.setIfInBounds_toArray, List.set_cons_zero, List.set_cons_succ]
        refine take_dst (some 24) (i := 12) (v := undef) rfl rfl (by kernel_rfl) (by kernel_rfl) (by kernel_rfl) (fun _ _ _ h => h) (Or.inr ⟨by rfl, rfl⟩) (by assumption) ?restA12
        try simp only [Act.put, List.setIfInBounds_toArray, List.set_cons_zero, List.set_cons_succ]
        refine take_dst (some 25) (i := 13) (v := undef) rfl rfl (by kernel_rfl) (by kernel_rfl) (by kernel_rfl) (fun _ _ _ h => h) (Or.inr ⟨by rfl, rfl⟩) (by assumption) ?restA13
        try simp only [Act.put, List.setIfInBounds_toArray, List.set_cons_zero, List.set_cons_succ]
        refine take_dst (some 26) (i := 14) (v := undef) rfl rfl (by kernel_rfl) (by kernel_rfl) (by kernel_rfl) (fun _ _ _ h => h) (Or.inr ⟨by rfl, rfl⟩) (by assumption) ?restA14
        try simp only [Act.put, List.setIfInBounds_toArray, List.set_cons_zero, List.set_cons_succ]
        refine take_dst (some 27) (i := 15) (v := undef) rfl rfl (by kernel_rfl) (by kernel_rfl) (by kernel_rfl) (fun _ _ _ h => h) (Or.inr ⟨by rfl, rfl⟩) (by assumption) ?restA15
        try simp only [Act.put, List.setIfInBounds_toArray, List.set_cons_zero, List.set_cons_succ]
        refine take_dst (some 28) (i := 16) (v := undef) rfl rfl (by kernel_rfl) (by kernel_rfl) (by kernel_rfl) (fun _ _ _ h => h) (Or.inr ⟨by rfl, rfl⟩) (by assumption) ?restA16
        try simp only [Act.put, List.setIfInBounds_toArray, List.set_cons_zero, List.set_cons_succ]
        refine take_dst (some 29) (i := 17) (v := undef) rfl rfl (by kernel_rfl) (by kernel_rfl) (by kernel_rfl) (fun _ _ _ h => h) (Or.inr ⟨by rfl, rfl⟩) (by assumption) ?restA17
        try simp only [Act.put, List.setIfInBounds_toArray, List.set_cons_zero, List.set_cons_succ]
        refine take_dst (some 30) (i := 18) (v := ?vA18) rfl rfl (by kernel_rfl) (by kernel_rfl) (by kernel_rfl) (fun _ _ _ h => h) (Or.inl ⟨by rfl, fun wS hSw => ?hyA18⟩) (by assumption) ?restA18
        case hyA18 => (obtain ⟨s0, s1, s2, s3, s4, s5⟩ := hSw; go_simp; first | done | with_reducible rfl)
        try simp only [Act.put, List.setIfInBounds_toArray, List.set_cons_zero, List.set_cons_succ]
        refine wpAnyH_done (by kernel_rfl) ?_ _
        refine NoPanic.normal ?_
        have HB2 := Lib.hid (below_ext HB.out (below_ext hbw.out hbS))
        clear hbS
        go_wp2_with fail
        go_ret
        exact ⟨by unfold colB; rw [hN.out]; rfl, HB2.out⟩
      · have Hrb := Lib.hid hrb
        clear hrb
        by_cases hk0 : k = 0
        · subst hk0
          have hN := Lib.hid (col_zero Hr.out Hrb.out)
          have tk : decide ((0 : Int) < ((0 : Nat) : Int)) = false := by simp
          refine wp_region_noPanic ?_
          refine wp_region_held_drew (S := fun w' => w'.cell? ⟨wr.heap.size, 0, none⟩ = some (.int .i64 r.st) ∧ w'.cell? ⟨wr.heap.size, 1, none⟩ = some (.int .i64 r.no) ∧ w'.cell? ⟨wr.heap.size, 2, none⟩ = some (.int .i64 r.mi) ∧ w'.cell? ⟨wr.heap.size, 3, none⟩ = some (.int .i64 r.ar) ∧ w'.cell? ⟨wr.heap.size, 4, none⟩ = some (.string r.cl) ∧ w'.cell? ⟨wr.heap.size, 5, none⟩ = some (.int .i64 r.vo)) (by kernel_rfl) ((RpAt.of_cb hcb.out).ext hbS).six (fun hHeld => ?_)
          refine take_dst (some 12) (i := 0) (v := ?vB0) rfl rfl (by kernel_rfl) (by kernel_rfl) (by kernel_rfl) (fun _ _ _ h => h) (Or.inl ⟨by rfl, fun wS hSw => ?hyB0⟩) (by assumption) ?restB0
          case hyB0 => (obtain ⟨s0, s1, s2, s3, s4, s5⟩ := hSw; go_simp; first | done | with_reducible rfl)
          try simp only [Act.put, List.setIfInBounds_toArray, List.set_cons_zero, List.set_cons_succ]
          refine wpAnyH_ready (rs := [1]) (by kernel_rfl) (by simp) ?_
          refine AllReadyH.cons rfl (fun K hK => ?_) AllReadyH.nil
          go_simp
          refine (check_t r Hrb Hsz.out _).mono ?_
          rintro e w7 ⟨rfl, hb7⟩
          have hbS2 : Below w1.heap.size w1 w7 := below_undrew' hb7
          refine hK.out _ _ ((RpAt.of_cb hcb.out).ext hbS2).six (fun hHeld2 => ?_)
          clear hK K hb7 hbS
          have hbS := hbS2
          clear hbS2
          try simp only [Act.put, List.setIfInBounds_toArray, List.set_cons_zero, List.set_cons_succ]
          refine take_dst (some 14) (i := 2) (v := ?vB2) rfl rfl (by kernel_rfl) (by kernel_rfl) (by kernel_rfl) (fun _ _ _ h => h) (Or.inl ⟨by rfl, fun wS hSw => ?hyB2⟩) (by assumption) ?restB2
          case hyB2 => (obtain ⟨s0, s1, s2, s3, s4, s5⟩ := hSw; go_simp; first | done | with_reducible rfl)
          try simp only [Act.put, List.setIfInBounds_toArray, List.set_cons_zero, List.set_cons_succ]
          refine take_dst (some 15) (i := 3) (v := ?vB3) rfl rfl (by kernel_rfl) (by kernel_rfl) (by kernel_rfl) (fun _ _ _ h => h) (Or.inl ⟨by rfl, fun wS hSw => ?hyB3⟩) (by assumption) ?restB3
          case hyB3 => (obtain ⟨s0, s1, s2, s3, s4, s5⟩ := hSw; go_simp; first | done | with_reducible rfl)
          try simp only [Act.put, List.setIfInBounds_toArray, List.set_cons_zero, List.set_cons_succ]
          refine take_dst (some 16) (i := 4) (v := ?vB4) rfl rfl (by kernel_rfl) (by kernel_rfl) (by kernel_rfl) (fun _ _ _ h => h) (Or.inl ⟨by rfl, fun wS hSw => ?hyB4⟩) (by assumption) ?restB4
          case hyB4 => (obtain ⟨s0, s1, s2, s3, s4, s5⟩ := hSw; go_simp; first | done | with_reducible rfl)
          try simp only [Act.put, List.setIfInBounds_toArray, List.set_cons_zero, List.set_cons_succ]
          refine take_dst (some 17) (i := 5) (v := ?vB5) rfl rfl (by kernel_rfl) (by kernel_rfl) (by kernel_rfl) (fun _ _ _ h => h) (Or.inl ⟨by rfl, fun wS hSw => ?hyB5⟩) (by assumption) ?restB5
          case hyB5 => (obtain ⟨s0, s1, s2, s3, s4, s5⟩ := hSw; go_simp; first | done | with_reducible rfl)
          try simp only [Act.put, List.setIfInBounds_toArray, List.set_cons_zero, List.set_cons_succ]
          refine take_dst (some 18) (i := 6) (v := ?vB6) rfl rfl (by kernel_rfl) (by kernel_rfl) (by kernel_rfl) (fun _ _ _ h => h) (Or.inl ⟨by rfl, fun wS hSw => ?hyB6⟩) (by assumption) ?restB6
          case hyB6 => (obtain ⟨s0, s1, s2, s3, s4, s5⟩ := hSw; go_simp; first | done | with_reducible rfl)
          try simp only [Act.put, List.setIfInBounds_toArray, List.set_cons_zero, List.set_cons_succ]
          refine take_dst (some 19) (i := 7) (v := undef) rfl rfl (by kernel_rfl) (by kernel_rfl) (by kernel_rfl) (fun _ _ _ h => h) (Or.inr ⟨by rfl, rfl⟩) (by assumption) ?restB7
          try simp only [Act.put, List.setIfInBounds_toArray, List.set_cons_zero, List.set_cons_succ]
          refine take_dst (some 20) (i := 8) (v := undef) rfl rfl (by kernel_rfl) (by kernel_rfl) (by kernel_rfl) (fun _ _ _ h => h) (Or.inr ⟨by rfl, rfl⟩) (by assumption) ?restB8
          try simp only [Act.put, List.setIfInBounds_toArray, List.set_cons_zero, List.set_cons_succ]
          refine take_dst (some 21) (i := 9) (v := undef) rfl rfl (by kernel_rfl) (by kernel_rfl) (by kernel_rfl) (fun _ _ _ h => h) (Or.inr ⟨by rfl, rfl⟩) (by assumption) ?restB9
          try simp only [Act.put, List.setIfInBounds_toArray, List.set_cons_zero, List.set_cons_succ]
          refine take_dst (some 22) (i := 10) (v := undef) rfl rfl (by kernel_rfl) (by kernel_rfl) (by kernel_rfl) (fun _ _ _ h => h) (Or.inr ⟨by rfl, rfl⟩) (by assumption) ?restB10
          try simp only [Act.put, List.setIfInBounds_toArray, List.set_cons_zero, List.set_cons_succ]
          refine take_dst (some 23) (i := 11) (v := undef) rfl rfl (by kernel_rfl) (by kernel_rfl) (by kernel_rfl) (fun _ _ _ h => h) (Or.inr ⟨by rfl, rfl⟩) (by assumption) ?restB11
          try simp only [Act.put, List.setIfInBounds_toArray, List.set_cons_zero, List.set_cons_succ]
          refine take_dst (some 24) (i := 12) (v := undef) rfl rfl (by kernel_rfl) (by kernel_rfl) (by kernel_rfl) (fun _ _ _ h => h) (Or.inr ⟨by rfl, rfl⟩) (by assumption) ?restB12
          try simp only [Act.put, List.setIfInBounds_toArray, List.set_cons_zero, List.set_cons_succ]
          refine take_dst (some 25) (i := 13) (v := undef) rfl rfl (by kernel_rfl) (by kernel_rfl) (by kernel_rfl) (fun _ _ _ h => h) (Or.inr ⟨by rfl, rfl⟩) (by assumption) ?restB13
          try simp only [Act.put, List.setIfInBounds_toArray, List.set_cons_zero, List.set_cons_succ]
          refine take_dst (some 26) (i := 14) (v := undef) rfl rfl (by kernel_rfl) (by kernel_rfl) (by kernel_rfl) (fun _ _ _ h => h) (Or.inr ⟨by rfl, rfl⟩) (by assumption) ?restB14
          try simp only [Act.put, List.setIfInBounds_toArray, List.set_cons_zero, List.set_cons_succ]
          refine take_dst (some 27) (i := 15) (v := undef) rfl rfl (by kernel_rfl) (by kernel_rfl) (by kernel_rfl) (fun _ _ _ h => h) (Or.inr ⟨by rfl, rfl⟩) (by assumption) ?restB15
          try simp only [Act.put, List.setIfInBounds_toArray, List.set_cons_zero, List.set_cons_succ]
          refine take_dst (some 28) (i := 16) (v := undef) rfl rfl (by kernel_rfl) (by kernel_rfl) (by kernel_rfl) (fun _ _ _ h => h) (Or.inr ⟨by rfl, rfl⟩) (by assumption) ?restB16
          try simp only [Act.put, List.setIfInBounds_toArray, List.set_cons_zero, List.set_cons_succ]
          refine take_dst (some 29) (i := 17) (v := ?vB17) rfl rfl (by kernel_rfl) (by kernel_rfl) (by kernel_rfl) (fun _ _ _ h => h) (Or.inl ⟨by rfl, fun wS hSw => ?hyB17⟩) (by assumption) ?restB17
          case hyB17 => (obtain ⟨s0, s1, s2, s3, s4, s5⟩ := hSw; go_simp; first | done | with_reducible rfl)
          try simp only [Act.put, List.setIfInBounds_toArray, List.set_cons_zero, List.set_cons_succ]
          refine take_dst (some 30) (i := 18) (v := ?vB18) rfl rfl (by kernel_rfl) (by kernel_rfl) (by kernel_rfl) (fun _ _ _ h => h) (Or.inl ⟨by rfl, fun wS hSw => ?hyB18⟩) (by assumption) ?restB18
          case hyB18 => (obtain ⟨s0, s1, s2, s3, s4, s5⟩ := hSw; go_simp; first | done | with_reducible rfl)
          try simp only [Act.put, List.setIfInBounds_toArray, List.set_cons_zero, List.set_cons_succ]
          refine wpAnyH_done (by kernel_rfl) ?_ _
          refine NoPanic.normal ?_
          have HB2 := Lib.hid (below_ext HB.out (below_ext hbw.out hbS))
          clear hbS tk
          go_wp2_with fail
          go_roundw
          case rel => exact ⟨1, by omega, by first | rfl | go_num, hN.out, HB2.out⟩
          case measure => simp [intOf]; omega
        · obtain ⟨j, hj⟩ : ∃ j, k = j + 1 := ⟨k - 1, by omega⟩
          obtain ⟨p, hp⟩ : ∃ p, l[j]? = some p := ⟨_, List.getElem?_eq_getElem (by omega)⟩
          have hat2 := Lib.hid ((Hat.out j p hp).ext hbw.out)
          have e2 : IntKind.i64.wrap ((k : Int) - 1) = (j : Int) := by rw [IntWalk.i64_in _ (by omega)]; omega
          have tk : decide ((0 : Int) < (k : Int)) = true := by simp; omega
          have tk2 : decide (0 < k) = true := by simp; omega
          have tjj : decide ((j : Int) < (l.length : Int)) = true := by simp; omega
          have tjj' : (j : Int) < (l.length : Int) := by omega
          have hst := Lib.hid (by rw [hj] at Hr HIn; exact col_step hp Hr.out HIn.out Hrb.out)
          rw [← hj] at hst
          obtain ⟨z, hz⟩ : ∃ z, cmpP p.st p.no r.st r.no = z := ⟨_, rfl⟩
          have Hz := Lib.hid hz
          rw [hz] at hst
          clear hz hk0 hj hp
          have hz0 : decide (z < 0) = !decide (0 ≤ z) := by rw [Bool.eq_iff_iff]; simp
          obtain ⟨t, ht⟩ : ∃ t, decide (0 ≤ z) = t := ⟨_, rfl⟩
          rw [hz0, ht] at hst
          clear hz0
          go_region_held3 (fun w' => (w'.cell? ⟨wr.heap.size, 0, none⟩ = some (.int .i64 r.st) ∧ w'.cell? ⟨wr.heap.size, 1, none⟩ = some (.int .i64 r.no) ∧ w'.cell? ⟨wr.heap.size, 2, none⟩ = some (.int .i64 r.mi) ∧ w'.cell? ⟨wr.heap.size, 3, none⟩ = some (.int .i64 r.ar) ∧ w'.cell? ⟨wr.heap.size, 4, none⟩ = some (.string r.cl) ∧ w'.cell? ⟨wr.heap.size, 5, none⟩ = some (.int .i64 r.vo)) ∧ w'.cell? ⟨b, off + j * 6, none⟩ = some (.int .i64 p.st) ∧ w'.cell? ⟨b, off + j * 6 + 1, none⟩ = some (.int .i64 p.no) ∧ w'.cell? ⟨b, off + j * 6 + 2, none⟩ = some (.int .i64 p.mi) ∧ w'.cell? ⟨b, off + j * 6 + 3, none⟩ = some (.int .i64 p.ar) ∧ w'.cell? ⟨b, off + j * 6 + 4, none⟩ = some (.string p.cl) ∧ w'.cell? ⟨b, off + j * 6 + 5, none⟩ = some (.int .i64 p.vo))
            (first
             | exact six_two (RpAt.of_cb hcb.out) hat2.out hbS
             | go_keep)
            (first
             | (go_at_call 13; refine (check_t r Hrb Hsz.out _).mono ?_; rintro e w7 ⟨rfl, hb7⟩; have hbS : Below w1.heap.size w1 w7 := by (first | exact below_ext hbS hb7 | exact below_undrew' hb7))
             | (go_at_call 42; refine (placeOf_any p _).mono ?_; rintro e w7 ⟨rfl, hb7⟩; have hbS : Below w1.heap.size w1 w7 := by (first | exact below_ext hbS hb7 | exact below_undrew' hb7))
             | (go_at_call 42; refine (placeOf_any r _).mono ?_; rintro e w7 ⟨rfl, hb7⟩; have hbS : Below w1.heap.size w1 w7 := by (first | exact below_ext hbS hb7 | exact below_undrew' hb7))
             | (go_at_call 44; refine (cmpp_any p.st p.no r.st r.no _).mono ?_; rw [Hz.out]; rintro e w7 ⟨rfl, hb7⟩; have hbS : Below w1.heap.size w1 w7 := by (first | exact below_ext hbS hb7 | exact below_undrew' hb7)))
          have HB2 := Lib.hid (below_ext HB.out (below_ext hbw.out hbS))
          clear hbS
          cases t
          · go_wp2_with fail
            go_roundw
            case rel => exact ⟨k + 1, by omega, by go_num, by rw [hst.out]; rfl, HB2.out⟩
            case measure => simp [intOf]; omega
          · go_wp2_with fail
            go_ret
            exact ⟨by unfold colB; rw [hst.out]; rfl, HB2.out⟩
    · obtain rfl : k = l.length := by omega
      have tj : decide ((l.length : Int) < (l.length : Int)) = false := by simp
      have hend : Hid (colF none l = true) := by show _ = _; rw [HIn.out, List.drop_of_length_le (Nat.le_refl _)]; unfold colF; rfl
      go_wp2_with fail
      go_ret
      exact ⟨by unfold colB; rw [hend.out]; simp; omega, HB.out⟩
end Go.Proofs.Ytgdbmoggpfpkkaa
/- reports: the search for a place. -/
namespace Go.Proofs.Ytgdbmoggpfpkkaa
open Go.RowKit
theorem cb_two (w : World) (o : Obj) (t : TypeId) (cs : List Value) : CB ((w.alloc o).alloc (.cells cs.toArray t)) (w.heap.size + 1) t cs := by
  have h := CB.new (w.alloc o) t cs
  rw [World.size_alloc] at h
  exact h
theorem below_drewN'' {B : Nat} {w0 w : World} (h : Below B w0 w) (n : Nat) : Below B w0 (w.drewN n) := h.trans ⟨rfl, rfl, rfl, Nat.le_refl _, fun _ _ => rfl⟩
def addS (w' : World) (g : Nat) (r : Rp) (t m : Int) : Prop := Six w' g 0 r ∧ w'.cell? ⟨g + 1, 0, none⟩ = some (.int .i64 t) ∧ w'.cell? ⟨g + 1, 1, none⟩ = some (.int .i64 m)
set_option maxRecDepth 100000 in
set_option maxHeartbeats 2000000 in
theorem add1_any (r : Rp) (t m : Int) (w : World) : Calls Try.prog 43 #[r.v, plV t m] w fun e w' => e = .returned (.int .i64 (cmpP r.st r.no t m)) ∧ Below w.heap.size w w' := by
  have hcb1 : Hid (CB ((w.alloc (.cells #[.int .i64 r.st, .int .i64 r.no, .int .i64 r.mi, .int .i64 r.ar, .string r.cl, .int .i64 r.vo] 23)).alloc (.cells #[.int .i64 t, .int .i64 m] 69)) w.heap.size 23 r.cells) := (CB.new w _ _).alloc _
  have hcb2 : Hid (CB ((w.alloc (.cells #[.int .i64 r.st, .int .i64 r.no, .int .i64 r.mi, .int .i64 r.ar, .string r.cl, .int .i64 r.vo] 23)).alloc (.cells #[.int .i64 t, .int .i64 m] 69)) (w.heap.size + 1) 69 [.int .i64 t, .int .i64 m]) := cb_two w _ _ _
  have hb0 := Lib.hid (((Below.refl w.heap.size w).alloc (Nat.le_refl _) (.cells #[.int .i64 r.st, .int .i64 r.no, .int .i64 r.mi, .int .i64 r.ar, .string r.cl, .int .i64 r.vo] 23)).alloc (by simp) (.cells #[.int .i64 t, .int .i64 m] 69))
  obtain ⟨z, hz⟩ : ∃ z, cmpP r.st r.no t m = z := ⟨_, rfl⟩
  have Hz := Lib.hid hz
  rw [hz]
  clear hz
  change Calls Try.prog 43 #[.agg #[.int .i64 r.st, .int .i64 r.no, .int .i64 r.mi, .int .i64 r.ar, .string r.cl, .int .i64 r.vo], .agg #[.int .i64 t, .int .i64 m]] w _
  go_enter Try.func43, Try.ntmps43
  go_upto_region 1 with fail
  generalize (w.alloc (.cells #[.int .i64 r.st, .int .i64 r.no, .int .i64 r.mi, .int .i64 r.ar, .string r.cl, .int .i64 r.vo] 23)).alloc (.cells #[.int .i64 t, .int .i64 m] 69) = w1 at *
  have hbS := (Below.refl w1.heap.size w1).drew
  go_region_held3 (fun w' => (w'.cell? ⟨w.heap.size, 0, none⟩ = some (.int .i64 r.st) ∧ w'.cell? ⟨w.heap.size, 1, none⟩ = some (.int .i64 r.no) ∧ w'.cell? ⟨w.heap.size, 2, none⟩ = some (.int .i64 r.mi) ∧ w'.cell? ⟨w.heap.size, 3, none⟩ = some (.int .i64 r.ar) ∧ w'.cell? ⟨w.heap.size, 4, none⟩ = some (.string r.cl) ∧ w'.cell? ⟨w.heap.size, 5, none⟩ = some (.int .i64 r.vo)) ∧ w'.cell? ⟨w.heap.size + 1, 0, none⟩ = some (.int .i64 t) ∧ w'.cell? ⟨w.heap.size + 1, 1, none⟩ = some (.int .i64 m))
    (first
     | exact ⟨((RpAt.of_cb hcb1.out).ext hbS).six, cell_ext hbS (hcb2.out.cell 0), cell_ext hbS (hcb2.out.cell 1)⟩
     | go_keep)
    (first
     | (go_at_call 42; refine (placeOf_any r _).mono ?_; rintro e w7 ⟨rfl, hb7⟩; have hbS : Below w1.heap.size w1 w7 := by (first | exact below_ext hbS hb7 | exact below_undrew' hb7))
     | (go_at_call 44; refine (cmpp_any r.st r.no t m _).mono ?_; rw [Hz.out]; rintro e w7 ⟨rfl, hb7⟩; have hbS : Below w1.heap.size w1 w7 := by (first | exact below_ext hbS hb7 | exact below_undrew' hb7)))
  have HB2 := Lib.hid (below_ext hb0.out hbS)
  clear hbS
  go_wp2_with fail
  go_ret
  exact ⟨rfl, HB2.out⟩
/-- the lower bound of a place in reports: below it all come before, from it on none does -/
def LowB (l : List Rp) (t m : Int) (n : Nat) : Prop := n ≤ l.length ∧ ∀ k r, l[k]? = some r → (decide (cmpP r.st r.no t m < 0) = decide (k < n))
def BsRel (n len : Nat) (w : World) (vi vj : Value) (wr : World) : Prop := ∃ i j : Nat, i ≤ n ∧ n ≤ j ∧ j ≤ len ∧ vi = .int .i64 i ∧ vj = .int .i64 j ∧ Below w.heap.size w wr
/-- whether the place at the bound is that place -/
def hitB (l : List Rp) (t m : Int) (n : Nat) : Bool := match l[n]? with | none => false | some r => decide (cmpP r.st r.no t m = 0)
theorem hit_some {l : List Rp} {t m : Int} {n : Nat} {r : Rp} (h : l[n]? = some r) : hitB l t m n = (cmpP r.st r.no t m == 0) := by
  unfold hitB; rw [h, Bool.eq_iff_iff]; simp
theorem hit_none {l : List Rp} {t m : Int} {n : Nat} (h : l.length ≤ n) : hitB l t m n = false := by
  unfold hitB; rw [List.getElem?_eq_none h]
set_option maxRecDepth 100000 in
set_option maxHeartbeats 4000000 in
theorem bsearch_any (l : List Rp) (v : Value) (t m : Int) (n : Nat) (w : World) (hl : RpsAt w.heap.size w l v) (hlen : l.length ≤ 2000) (hlow : LowB l t m n) :
    Calls Try.prog 41 #[v, plV t m, .func (.func 43) #[] #[]] w
      fun e w' => e = .returned (.tuple #[.int .i64 (n : Int), .bool (hitB l t m n)]) ∧ Below w.heap.size w w' := by
  obtain ⟨oa, cap, rfl, hlm⟩ := hl.shape
  have HR := Lib.hid hl; have Hlen := Lib.hid hlen; have HLow := Lib.hid hlow
  clear hl hlm hlow
  have bl : (l.length : Int) ≤ 2000 := by omega
  have hcb0 : Hid (CB (w.alloc (.cells #[.int .i64 t, .int .i64 m] 69)) w.heap.size 69 [.int .i64 t, .int .i64 m]) := CB.new w _ _
  have hb0 := Lib.hid ((Below.refl w.heap.size w).alloc (Nat.le_refl _) (.cells #[.int .i64 t, .int .i64 m] 69))
  clear hlen
  change Calls Try.prog _ #[.slice oa l.length cap, .agg #[.int .i64 t, .int .i64 m], .func (.func 43) #[] #[]] w _
  go_enter Try.func41, Try.ntmps41
  go_upto_region 1 with fail
  generalize w.alloc (.cells #[.int .i64 t, .int .i64 m] 69) = w0 at *
  go_wp2_with fail
  go_loopw [9, 10] (fun vi vj wr => BsRel n l.length w0 vi vj wr) (fun vi vj _ => (intOf vj - intOf vi).toNat)
  case atStart => exact ⟨0, l.length, by omega, HLow.out.1, by omega, rfl, rfl, Below.refl _ _⟩
  case round =>
    obtain ⟨i, j, hi, hj, hjl, rfl, rfl, hb⟩ := hrel
    have HB := Lib.hid hb
    clear hb
    have bi : (i : Int) ≤ 2000 := by omega
    have bj : (j : Int) ≤ 2000 := by omega
    by_cases hlt : i < j
    · have tij : decide ((i : Int) < (j : Int)) = true := by simp; omega
      have tij' : decide (i < j) = true := by simp; omega
      obtain ⟨h, hh⟩ : ∃ h, (i + j) / 2 = h := ⟨_, rfl⟩
      obtain ⟨s, hs⟩ : ∃ s, i + j = s := ⟨_, rfl⟩
      rw [hs] at hh
      have e1 : (i : Int) + (j : Int) = (s : Int) := by omega
      have e3 : (s : Int) / 2 = (h : Int) := by omega
      have e4 : (s : Int).tdiv 2 = (h : Int) := by rw [← hh]; rw [Int.ofNat_tdiv]; rfl
      have bs : (s : Int) ≤ 4000 := by omega
      have hhl : h < l.length := by omega
      have th : decide ((h : Int) < (l.length : Int)) = true := by simp; omega
      have th' : (h : Int) < (l.length : Int) := by omega
      have bh : (h : Int) ≤ 2000 := by omega
      obtain ⟨r, hr⟩ : ∃ r, l[h]? = some r := ⟨_, List.getElem?_eq_getElem hhl⟩
      obtain ⟨b, off, rfl, hat⟩ := (HR.out.ext (below_ext hb0.out HB.out)).at hhl
      have Hat := Lib.hid (hat h r hr)
      have hlo := HLow.out.2 h r hr
      have Hlo := Lib.hid hlo
      have Hh := Lib.hid hh; have Hs := Lib.hid hs; have Hi := Lib.hid hi; have Hj := Lib.hid hj; have Hjl := Lib.hid hjl; have Hlt := Lib.hid hlt; have Hhl := Lib.hid hhl
      clear hat hlo hr hh hs hi hj hjl hlt hhl
      have HT := Lib.hid (hcb0.out.ext HB.out)
      obtain ⟨z, hz⟩ : ∃ z, cmpP r.st r.no t m = z := ⟨_, rfl⟩
      have Hz := Lib.hid hz
      rw [hz] at Hlo
      clear hz
      obtain ⟨tz, htz⟩ : ∃ t, decide (z < 0) = t := ⟨_, rfl⟩
      rw [htz] at Hlo
      have hbS := (Below.refl wr.heap.size wr).drew
      go_upto_region 5 with fail
      go_region_held3 (fun w' => (w'.cell? ⟨b, off + h * 6, none⟩ = some (.int .i64 r.st) ∧ w'.cell? ⟨b, off + h * 6 + 1, none⟩ = some (.int .i64 r.no) ∧ w'.cell? ⟨b, off + h * 6 + 2, none⟩ = some (.int .i64 r.mi) ∧ w'.cell? ⟨b, off + h * 6 + 3, none⟩ = some (.int .i64 r.ar) ∧ w'.cell? ⟨b, off + h * 6 + 4, none⟩ = some (.string r.cl) ∧ w'.cell? ⟨b, off + h * 6 + 5, none⟩ = some (.int .i64 r.vo)) ∧ w'.cell? ⟨w.heap.size, 0, none⟩ = some (.int .i64 t) ∧ w'.cell? ⟨w.heap.size, 1, none⟩ = some (.int .i64 m))
        (first
         | exact ⟨(Hat.out.ext hbS).six, cell_ext hbS (HT.out.cell 0), cell_ext hbS (HT.out.cell 1)⟩
         | go_keep)
        ((go_at_call 43; refine (add1_any r t m _).mono ?_; rw [Hz.out]; rintro e w7 ⟨rfl, hb7⟩; have hbS : Below wr.heap.size wr w7 := by (first | exact below_ext hbS hb7 | exact below_undrew' hb7)))
      have HB2 := Lib.hid (below_ext HB.out hbS)
      clear hbS
      cases tz
      · have hge : Hid (n ≤ h) := by show _ ≤ _; have := Hlo.out; simp at this; omega
        go_wp2_with fail
        go_roundw
        case rel => exact ⟨i, h, Hi.out, hge.out, by have := Hhl.out; omega, rfl, rfl, HB2.out⟩
        case measure => simp [intOf]; have := Hh.out; have := Hs.out; have := Hlt.out; omega
      · have hle : Hid (h + 1 ≤ n) := by show _ ≤ _; have := Hlo.out; simp at this; omega
        go_wp2_with fail
        go_roundw
        case rel => exact ⟨h + 1, j, hle.out, Hj.out, Hjl.out, by go_num, rfl, HB2.out⟩
        case measure => simp [intOf]; have := Hh.out; have := Hs.out; have := Hlt.out; omega
    · obtain rfl : i = n := by omega
      obtain rfl : i = j := by omega
      have tij : decide ((i : Int) < (i : Int)) = false := by simp
      by_cases hil : i < l.length
      · have tl : decide ((i : Int) < (l.length : Int)) = true := by simp; omega
        have tl' : decide (i < l.length) = true := by simp; omega
        have tl2 : (i : Int) < (l.length : Int) := by omega
        obtain ⟨r, hr⟩ : ∃ r, l[i]? = some r := ⟨_, List.getElem?_eq_getElem hil⟩
        obtain ⟨b, off, rfl, hat⟩ := (HR.out.ext (below_ext hb0.out HB.out)).at hil
        have Hat := Lib.hid (hat i r hr)
        have hhit := Lib.hid (hit_some (t := t) (m := m) hr)
        have HT := Lib.hid (hcb0.out.ext HB.out)
        obtain ⟨z, hz⟩ : ∃ z, cmpP r.st r.no t m = z := ⟨_, rfl⟩
        have Hz := Lib.hid hz
        rw [hz] at hhit
        clear hz hat hr hil hi hj hjl hlt
        have hbS := (Below.refl wr.heap.size wr).drew
        go_upto_region 8 with fail
        go_region_held3 (fun w' => (w'.cell? ⟨b, off + i * 6, none⟩ = some (.int .i64 r.st) ∧ w'.cell? ⟨b, off + i * 6 + 1, none⟩ = some (.int .i64 r.no) ∧ w'.cell? ⟨b, off + i * 6 + 2, none⟩ = some (.int .i64 r.mi) ∧ w'.cell? ⟨b, off + i * 6 + 3, none⟩ = some (.int .i64 r.ar) ∧ w'.cell? ⟨b, off + i * 6 + 4, none⟩ = some (.string r.cl) ∧ w'.cell? ⟨b, off + i * 6 + 5, none⟩ = some (.int .i64 r.vo)) ∧ w'.cell? ⟨w.heap.size, 0, none⟩ = some (.int .i64 t) ∧ w'.cell? ⟨w.heap.size, 1, none⟩ = some (.int .i64 m))
          (first
           | exact ⟨(Hat.out.ext hbS).six, cell_ext hbS (HT.out.cell 0), cell_ext hbS (HT.out.cell 1)⟩
           | go_keep)
          ((go_at_call 43; refine (add1_any r t m _).mono ?_; rw [Hz.out]; rintro e w7 ⟨rfl, hb7⟩; have hbS : Below wr.heap.size wr w7 := by (first | exact below_ext hbS hb7 | exact below_undrew' hb7)))
        have HB2 := Lib.hid (below_ext hb0.out (below_ext HB.out hbS))
        clear hbS
        go_wp2_with fail
        go_ret2
        exact ⟨by rw [hhit.out]; rfl, HB2.out⟩
      · have tl : decide ((i : Int) < (l.length : Int)) = false := by simp; omega
        have tl' : decide (i < l.length) = false := by simp; omega
        have hhit := Lib.hid (hit_none (l := l) (t := t) (m := m) (n := i) (by omega))
        have HB2 := Lib.hid (below_ext hb0.out HB.out)
        clear hil hi hj hjl hlt
        go_upto_region 8 with fail
        go_quiet (fail)
        go_wp2_with fail
        go_ret2
        exact ⟨by rw [hhit.out]; rfl, below_drewN'' HB2.out _⟩
end Go.Proofs.Ytgdbmoggpfpkkaa
/- the reference: Before, Few; the law's short. -/
namespace Go.Proofs.Ytgdbmoggpfpkkaa
open Go.RowKit
theorem cmpP_neg (s n t m : Int) : decide (cmpP s n t m < 0) = (decide (s < t) || ((s == t) && decide (n < m))) := by
  unfold cmpP orZ cmpZ
  rw [Bool.eq_iff_iff]
  rcases (by omega : s < t ∨ t < s ∨ s = t) with h | h | h
  · simp [h]
  · have h1 : ¬ s < t := by omega
    have h2 : ¬ s = t := by omega
    simp [h, h1, h2]
  · subst h
    rcases (by omega : n < m ∨ m < n ∨ n = m) with h | h | h
    · simp [h]
    · have h1 : ¬ n < m := by omega
      simp [h, h1]
    · subst h; simp
set_option maxRecDepth 100000 in
set_option maxHeartbeats 1000000 in
theorem before_any (a b : Rp) (t : Bool) (w : World) (h : Hid (decide (cmpP a.st a.no b.st b.no < 0) = t)) : Calls Try.prog 48 #[a.v, b.v] w fun e w' => e = .returned (.bool t) ∧ Below w.heap.size w w' := by
  obtain ⟨t1, h1⟩ : ∃ x, decide (a.st < b.st) = x := ⟨_, rfl⟩
  obtain ⟨t2, h2⟩ : ∃ x, (a.st == b.st) = x := ⟨_, rfl⟩
  obtain ⟨t3, h3⟩ : ∃ x, decide (a.no < b.no) = x := ⟨_, rfl⟩
  have hf : Hid (t = (t1 || (t2 && t3))) := by show _ = _; rw [← h.out, cmpP_neg, h1, h2, h3]
  have hcb1 : Hid (CB ((w.alloc (.cells #[.int .i64 a.st, .int .i64 a.no, .int .i64 a.mi, .int .i64 a.ar, .string a.cl, .int .i64 a.vo] 23)).alloc (.cells #[.int .i64 b.st, .int .i64 b.no, .int .i64 b.mi, .int .i64 b.ar, .string b.cl, .int .i64 b.vo] 23)) w.heap.size 23 a.cells) := (CB.new w _ _).alloc _
  have hcb2 : Hid (CB ((w.alloc (.cells #[.int .i64 a.st, .int .i64 a.no, .int .i64 a.mi, .int .i64 a.ar, .string a.cl, .int .i64 a.vo] 23)).alloc (.cells #[.int .i64 b.st, .int .i64 b.no, .int .i64 b.mi, .int .i64 b.ar, .string b.cl, .int .i64 b.vo] 23)) (w.heap.size + 1) 23 b.cells) := cb_two w _ _ _
  have hb0 := Lib.hid (((Below.refl w.heap.size w).alloc (Nat.le_refl _) (.cells #[.int .i64 a.st, .int .i64 a.no, .int .i64 a.mi, .int .i64 a.ar, .string a.cl, .int .i64 a.vo] 23)).alloc (by simp) (.cells #[.int .i64 b.st, .int .i64 b.no, .int .i64 b.mi, .int .i64 b.ar, .string b.cl, .int .i64 b.vo] 23))
  change Calls Try.prog 48 #[.agg #[.int .i64 a.st, .int .i64 a.no, .int .i64 a.mi, .int .i64 a.ar, .string a.cl, .int .i64 a.vo], .agg #[.int .i64 b.st, .int .i64 b.no, .int .i64 b.mi, .int .i64 b.ar, .string b.cl, .int .i64 b.vo]] w _
  go_enter Try.func48, Try.ntmps48
  go_upto_region 1 with fail
  generalize (w.alloc (.cells #[.int .i64 a.st, .int .i64 a.no, .int .i64 a.mi, .int .i64 a.ar, .string a.cl, .int .i64 a.vo] 23)).alloc (.cells #[.int .i64 b.st, .int .i64 b.no, .int .i64 b.mi, .int .i64 b.ar, .string b.cl, .int .i64 b.vo] 23) = w1 at *
  have c0 : w1.cell? ⟨w.heap.size, 0, none⟩ = some (.int .i64 a.st) := hcb1.out.cell 0
  have c1 : w1.cell? ⟨w.heap.size, 1, none⟩ = some (.int .i64 a.no) := hcb1.out.cell 1
  have d0 : w1.cell? ⟨w.heap.size + 1, 0, none⟩ = some (.int .i64 b.st) := hcb2.out.cell 0
  have d1 : w1.cell? ⟨w.heap.size + 1, 1, none⟩ = some (.int .i64 b.no) := hcb2.out.cell 1
  cases t1 <;> cases t2
  all_goals
    go_wp2_with fail
    go_ret
    exact ⟨by rw [hf.out]; simp, hb0.out⟩
theorem few22_any (l : List Rp) (oa : Option Addr) (cap : Nat) (w : World) : Calls Try.prog 25 #[.slice oa l.length cap] w fun e w' => e = .returned (.bool (decide (l.length ≤ 40))) ∧ w = w' := by
  have h : decide ((l.length : Int) ≤ 40) = decide (l.length ≤ 40) := by rw [Bool.eq_iff_iff]; simp; omega
  obtain ⟨t, ht⟩ : ∃ t, decide (l.length ≤ 40) = t := ⟨_, rfl⟩
  rw [ht] at h ⊢
  clear ht
  go_enter Try.func25, Try.ntmps25
  go_wp2
  go_ret
  exact ⟨by rfl, rfl⟩
/-- short: call signs at most 200 bytes, at most 40 reports -/
def shortB (l : List Rp) : Bool := (l.all fun r => decide (r.cl.size ≤ 200)) && decide (l.length ≤ 40)
def ShRel (l : List Rp) (w : World) (i : Value) (wr : World) : Prop := ∃ k : Nat, k ≤ l.length ∧ i = .int .i64 k ∧ ((l.take k).all fun r => decide (r.cl.size ≤ 200)) = true ∧ Below w.heap.size w wr
set_option maxRecDepth 100000 in
set_option maxHeartbeats 2000000 in
theorem short_any (l : List Rp) (v : Value) (w : World) (hl : RpsAt w.heap.size w l v) : Calls Try.prog 12 #[v] w fun e w' => e = .returned (.bool (shortB l)) ∧ Below w.heap.size w w' := by
  obtain ⟨oa, cap, rfl, hlm⟩ := hl.shape
  have HR := Lib.hid hl
  have bl : (l.length : Int) ≤ 9223372036854775807 := by omega
  clear hl hlm
  go_enter Try.func12, Try.ntmps12
  go_wp2_with fail
  go_loopw [7] (fun i wr => ShRel l w i wr) (fun i _ => l.length - (intOf i).toNat)
  case atStart => exact ⟨0, by omega, rfl, rfl, Below.refl _ _⟩
  case round =>
    obtain ⟨k, hk, rfl, ha, hb⟩ := hrel
    have HA := Lib.hid ha; have HB := Lib.hid hb
    clear ha hb
    by_cases hlt : k < l.length
    · have tj : decide ((k : Int) < (l.length : Int)) = true := by simp; omega
      have tj' : decide (k < l.length) = true := by simp; omega
      obtain ⟨r, hr⟩ : ∃ r, l[k]? = some r := ⟨_, List.getElem?_eq_getElem hlt⟩
      obtain ⟨b, off, rfl, hat⟩ := (HR.out.ext HB.out).at hlt
      obtain ⟨c0, c1, c2, c3, c4, c5⟩ := hat k r hr
      have Hr := Lib.hid hr
      have HB2 := Lib.hid (HB.out.alloc HB.out.size (.cells #[.int .i64 r.st, .int .i64 r.no, .int .i64 r.mi, .int .i64 r.ar, .string r.cl, .int .i64 r.vo] 23))
      clear hat hr
      by_cases h2 : r.cl.size ≤ 200
      · have t2 : decide ((200 : Int) < (r.cl.size : Int)) = false := by simp; omega
        have hN : Hid (((l.take (k + 1)).all fun r => decide (r.cl.size ≤ 200)) = true) := by
          show _ = _
          rw [List.take_add_one, Hr.out, List.all_append, HA.out]; simp [h2]
        clear h2
        go_wp2_with fail
        go_roundw
        case rel => exact ⟨k + 1, by omega, by go_num, hN.out, HB2.out⟩
        case measure => simp [intOf]; omega
      · have t2 : decide ((200 : Int) < (r.cl.size : Int)) = true := by simp; omega
        have hN : Hid (shortB l = false) := by
          show _ = _
          have : (l.all fun r => decide (r.cl.size ≤ 200)) = false := by
            rw [List.all_eq_false]; exact ⟨r, List.mem_of_getElem? Hr.out, by simp; omega⟩
          unfold shortB; rw [this]; rfl
        clear h2
        go_wp2_with fail
        go_ret
        exact ⟨by rw [hN.out]; rfl, HB2.out⟩
    · obtain rfl : k = l.length := by omega
      have tj : decide ((l.length : Int) < (l.length : Int)) = false := by simp
      have hend : Hid (shortB l = decide (l.length ≤ 40)) := by
        show _ = _
        have := HA.out; rw [List.take_of_length_le (Nat.le_refl _)] at this
        unfold shortB; rw [this]; rfl
      go_wp2_with fail
      refine (few22_any l oa cap _).mono ?_
      rw [← hend.out]
      rintro e w2 ⟨rfl, rfl⟩
      go_wp2_with fail
      go_ret
      exact ⟨rfl, HB.out⟩
end Go.Proofs.Ytgdbmoggpfpkkaa
/- slices.Clone of reports. -/
namespace Go.Proofs.Ytgdbmoggpfpkkaa
open Go.RowKit
def rcells (l : List Rp) : List Value := l.flatMap Rp.cells
theorem rcells_len (l : List Rp) : (rcells l).length = l.length * 6 := by
  induction l with
  | nil => rfl
  | cons a r ih => unfold rcells at *; rw [List.flatMap_cons, List.length_append, ih, List.length_cons]; show 6 + _ = _; omega
theorem rcells_one (l : List Rp) : ∀ u ∈ rcells l, u.oneCell' = true := by
  intro u hu
  obtain ⟨r, _, h⟩ := List.mem_flatMap.1 hu
  simp only [Rp.cells, List.mem_cons, List.not_mem_nil, or_false] at h
  rcases h with rfl | rfl | rfl | rfl | rfl | rfl <;> rfl
theorem rcells_at : ∀ (l : List Rp) (w : World) (b off : Nat), (∀ j r, l[j]? = some r → RpAt w b (off + j * 6) r) → ∀ j u, (rcells l)[j]? = some u → w.cell? ⟨b, off + j, none⟩ = some u
  | [], _, _, _, _, j, u, h => by simp [rcells] at h
  | a :: r, w, b, off, hat, j, u, h => by
    have h0 := hat 0 a rfl
    simp only [Nat.zero_mul, Nat.add_zero] at h0
    by_cases hj : j < 6
    · have hu : a.cells[j]? = some u := by
        unfold rcells at h
        rw [List.flatMap_cons, List.getElem?_append_left (by show j < 6; omega)] at h; exact h
      match j, hj, hu with
      | 0, _, hu => injection hu with hu; subst hu; exact h0.c0
      | 1, _, hu => injection hu with hu; subst hu; exact h0.c1
      | 2, _, hu => injection hu with hu; subst hu; exact h0.c2
      | 3, _, hu => injection hu with hu; subst hu; exact h0.c3
      | 4, _, hu => injection hu with hu; subst hu; exact h0.c4
      | 5, _, hu => injection hu with hu; subst hu; exact h0.c5
    · have h2 : (rcells r)[j - 6]? = some u := by
        unfold rcells at h ⊢
        rw [List.flatMap_cons, List.getElem?_append_right (by show 6 ≤ j; omega)] at h; exact h
      have := rcells_at r w b (off + 6) (fun k x hx => by
        have := hat (k + 1) x (by simpa using hx)
        rw [show off + 6 + k * 6 = off + (k + 1) * 6 by omega]; exact this) (j - 6) u h2
      rw [show off + j = off + 6 + (j - 6) by omega]; exact this
def OwnR (w : World) (base : Nat) (v : Value) (l : List Rp) : Prop := w.ownsRow base 23 6 v l.length (rcells l)
theorem OwnR.nil (w : World) (base : Nat) : OwnR w base (.slice none 0 0) [] := World.ownsRow_nil w base _ 6
theorem OwnR.lt {w : World} {base : Nat} {v : Value} {l : List Rp} (h : OwnR w base v l) (g : Nat) (hg : v.ownBlock = some g) : base ≤ g ∧ g < w.heap.size := World.ownsRow.lt h g hg
theorem OwnR.rd {w : World} {base : Nat} {v : Value} {l : List Rp} (h : OwnR w base v l) : RpsAt w.heap.size w l v := by
  have hlt := h.lt
  rcases h.2 with ⟨rfl, h0⟩ | ⟨g, cap, cur, rfl, hb, hg, hn, hm, hcs, ht⟩
  · rw [List.eq_nil_of_length_eq_zero h0]
    exact .inl ⟨rfl, _, _, rfl⟩
  · have hc := World.ownsRow.cells (e := 23) h (g := g) rfl
    have key : ∀ (l : List Rp) (off : Nat), (∀ j u, (rcells l)[j]? = some u → w.cell? ⟨g, off + j, none⟩ = some u) → ∀ j r, l[j]? = some r → RpAt w g (off + j * 6) r := by
      intro l
      induction l with
      | nil => intro off _ j r hr; simp at hr
      | cons a t ih =>
        intro off hh j r hr
        cases j with
        | zero =>
          simp at hr; subst hr
          have hx : ∀ i u, i < 6 → a.cells[i]? = some u → w.cell? ⟨g, off + i, none⟩ = some u := fun i u hi hu => hh i u (by
            unfold rcells; rw [List.flatMap_cons, List.getElem?_append_left (by show i < 6; exact hi)]; exact hu)
          exact ⟨by have := hx 0 _ (by omega) rfl; simpa using this, by have := hx 1 _ (by omega) rfl; simpa using this, by have := hx 2 _ (by omega) rfl; simpa using this, by have := hx 3 _ (by omega) rfl; simpa using this, by have := hx 4 _ (by omega) rfl; simpa using this, by have := hx 5 _ (by omega) rfl; simpa using this⟩
        | succ j =>
          have := ih (off + 6) (fun i u hu => by
            have := hh (i + 6) u (by unfold rcells at hu ⊢; rw [List.flatMap_cons, List.getElem?_append_right (by show 6 ≤ i + 6; omega)]; simpa [Rp.cells] using hu)
            rw [show off + 6 + i = off + (i + 6) by omega]; exact this) j r (by simpa using hr)
          rw [show off + (j + 1) * 6 = off + 6 + j * 6 by omega]; exact this
    have hat := key l 0 fun j u hu => by
      have := hc j u hu
      have hpl : (⟨g, 0, none⟩ : Addr).add j = ⟨g, 0 + j, none⟩ := by unfold Addr.add; split <;> simp_all
      rw [hpl] at this; exact this
    exact .inr ⟨g, 0, cap, rfl, hn, hm, (hlt g rfl).2, fun j r hr => hat j r hr⟩
theorem made_ownR (w : World) : OwnR (w.alloc (.cells #[] 23)) w.heap.size (.slice (some ⟨w.heap.size, 0, none⟩) 0 0) [] :=
  World.ownsRow_made (e := 23) (base := w.heap.size) (size := 6) w #[] 0 (Nat.le_refl _) (Nat.zero_le _) rfl
theorem rp_info : (Try.prog.info? 23).map (fun i => (i.zero, i.size, i.bytes)) = some (some (.agg #[.int .i64 0, .int .i64 0, .int .i64 0, .int .i64 0, .string ⟨#[]⟩, .int .i64 0]), 6, 56) := by kernel_rfl
theorem eql_nil {P : Program} (w : World) (t e : TypeId) (a : Option Addr) (l c : Nat) (h : P.underlying t = some (.slice e)) : (binOp .eql t (.slice a l c) (.slice none 0 0)).run P w = .ok (.bool a.isNone) w := by
  simp only [binOp]
  simp [run_equal_slice_nil w t e a l c h]
set_option maxRecDepth 100000 in
set_option maxHeartbeats 2000000 in
theorem clone_any (l : List Rp) (v : Value) (w : World) (hl : RpsAt w.heap.size w l v) (hlen : l.length ≤ 2000) :
    Calls Try.prog 46 #[v] w fun e w' => ∃ v', e = .returned v' ∧ OwnR w' w.heap.size v' l ∧ Below w.heap.size w w' := by
  obtain ⟨oa, cap, rfl, hlm⟩ := hl.shape
  clear hlm
  cases oa with
  | none =>
    have h0 : l = [] := by
      rcases hl with ⟨h, _⟩ | ⟨b, off, cp, h1, _⟩
      · exact h
      · cases h1
    subst h0
    clear hl hlen
    have q1 : ∀ w : World, (binOp .eql 39 (.slice none 0 cap) (.slice none 0 0)).run Try.prog w = .ok (.bool true) w := fun w => eql_nil w _ _ none 0 cap Try.underlying39
    go_enter Try.func46, Try.ntmps46
    go_wp2
    go_ret
    exact ⟨_, rfl, OwnR.nil _ _, Below.refl _ _⟩
  | some ad =>
    have hsrc : Hid (Src Try.prog 6 39 (.slice (some ad) l.length cap) l.length (rcells l) (w.alloc (.cells #[] 23))) := by
      show Src _ _ _ _ _ _ _
      refine Src.ofSlice _ Try.underlying39 ad l.length cap _ (rcells_len l) ?_ (rcells_one l)
      intro j u hu
      rcases hl with ⟨h, _⟩ | ⟨b, off, cp, h1, _, _, hb, hat⟩
      · subst h; simp [rcells] at hu
      · injection h1 with h1 _ _
        injection h1 with h1
        subst h1
        have := rcells_at l w b off hat j u hu
        have hpl : (⟨b, off, none⟩ : Addr).add j = ⟨b, off + j, none⟩ := by unfold Addr.add; split <;> simp_all
        rw [hpl]
        exact cell_ext ((Below.refl w.heap.size w).alloc (Nat.le_refl _) _) this
    have hO := Lib.hid (made_ownR w)
    have hb0 := Lib.hid ((Below.refl w.heap.size w).alloc (Nat.le_refl _) (.cells #[] 23))
    have Hlen : Hid (l.length ≤ 2000) := hlen
    clear hl hlen
    have q1 : ∀ w : World, (binOp .eql 39 (.slice (some ad) l.length cap) (.slice none 0 0)).run Try.prog w = .ok (.bool false) w := fun w => eql_nil w _ _ (some ad) l.length cap Try.underlying39
    go_enter Try.func46, Try.ntmps46
    go_wp2_with (at_builtin; refine wpList_append_x (e := 23) (z := (.agg #[.int .i64 0, .int .i64 0, .int .i64 0, .int .i64 0, .string ⟨#[]⟩, .int .i64 0])) (size := 6) (bytes := 56) Try.underlying39 rp_info rfl rfl _ _ rfl w.heap.size _ 0 [] rfl hO.out _ l.length (rcells l) rfl hsrc.out (by have := Hlen.out; unfold maxLen; omega) (by have := Hlen.out; omega) hb0.out.size ?_; intro v5 w5 ho5 hg5 hn5)
    have hb5 := hb0.out.grown hg5 hb0.out.size (fun g hg => (World.ownsRow.lt hO.out g hg).1)
    have HO5 : Hid (OwnR w5 w.heap.size v5 l) := by
      show w5.ownsRow _ _ _ _ _ _
      rw [Nat.zero_add, List.nil_append] at ho5; exact ho5
    have HB5 := Lib.hid hb5
    clear ho5 hg5 hn5 hb5
    go_wp2_with fail
    go_ret
    exact ⟨_, rfl, HO5.out, HB5.out⟩
end Go.Proofs.Ytgdbmoggpfpkkaa
/- laws for slices.Insert: a copy into a row that is known whole; where the cells lie behind two copies. -/
namespace Go.Proofs.Ytgdbmoggpfpkkaa
open Go.RowKit
def putL (c : List Value) (o : Nat) (x : List Value) : List Value := c.take o ++ x ++ c.drop (o + x.length)
theorem putL_len {c x : List Value} {o : Nat} (h : o + x.length ≤ c.length) : (putL c o x).length = c.length := by
  unfold putL; simp only [List.length_append, List.length_take, List.length_drop]; omega
theorem take_len_append {a b : List Value} {n : Nat} (h : n = a.length) : (a ++ b).take n = a := by subst h; exact List.take_left
theorem drop_len_append {a b : List Value} {n : Nat} (h : n = a.length) : (a ++ b).drop n = b := by subst h; exact List.drop_left
theorem put_back {c a b d : List Value} {o : Nat} (ha : c.take o = a) (hf : o + b.length + d.length ≤ c.length) : (putL (putL c (o + b.length) d) o b).take (o + b.length + d.length) = a ++ b ++ d := by
  have hal : a.length = o := by rw [← ha, List.length_take]; omega
  have h1 : (putL c (o + b.length) d).take o = a := by
    unfold putL
    rw [List.append_assoc, List.take_append_of_le_length (by rw [List.length_take]; omega), List.take_take, Nat.min_eq_left (by omega), ha]
  have h2 : (putL c (o + b.length) d).drop (o + b.length) = d ++ c.drop (o + b.length + d.length) := by
    unfold putL
    rw [List.append_assoc, drop_len_append (by rw [List.length_take]; omega)]
  show (List.take o (putL c (o + b.length) d) ++ b ++ List.drop (o + b.length) (putL c (o + b.length) d)).take _ = _
  rw [h1, h2, ← List.append_assoc, take_len_append (by simp only [List.length_append]; omega)]
theorem put_forth {c a b d : List Value} {o : Nat} (ha : c.take o = a) (hf : o + b.length + d.length ≤ c.length) : (putL (putL c o b) (o + b.length) d).take (o + b.length + d.length) = a ++ b ++ d := by
  have hal : a.length = o := by rw [← ha, List.length_take]; omega
  have h1 : (putL c o b).take (o + b.length) = a ++ b := by
    unfold putL
    rw [ha, take_len_append (by simp only [List.length_append]; omega)]
  show (List.take (o + b.length) (putL c o b) ++ d ++ List.drop (o + b.length + d.length) (putL c o b)).take _ = _
  rw [h1, take_len_append (by simp only [List.length_append]; omega)]
section
variable {P : Program}
theorem run_copy_put (w : World) (dT sT ty e : TypeId) (size g off dLen dCap : Nat) (cur : Array Value) (a : Addr) (sLen sCap m : Nat) (cs : List Value)
    (hu : P.underlying dT = some (.slice e)) (hs : (P.info? e).map (·.size) = some size) (hm : Nat.min sLen dLen = m) (hcl : cs.length = m * size)
    (hsrc : ∀ j v, cs[j]? = some v → w.cell? (a.add j) = some v) (hg : w.heap[g]? = some (.cells cur e (0, 0))) (hfit : off + cs.length ≤ cur.size) (h1 : ∀ v ∈ cs, v.oneCell' = true) :
    (Builtin.copy_ #[dT, sT] ty #[.slice (some ⟨g, off, none⟩) dLen dCap, .slice (some a) sLen sCap]).run P w = .ok (goInt m) (w.setRow g (putL cur.toList off cs).toArray) := by
  have hl := run_loadCells_list (P := P) w a cs hsrc
  have hst := run_storeCells_at P g off e cs 0 cur w hg (by simpa using hfit) h1
  cases hq : P.info? e with
  | none => simp [hq] at hs
  | some i =>
    have hi : i.size = size := by simpa [hq] using hs
    rw [hcl] at hl
    simp only [Nat.add_zero] at hst
    simp [Builtin.copy_, run_underlying hu, Builtin.lenOf, Builtin.firstCells, sizeOf, typeInfo, hq, hi, hm, hl, hst, putL]
theorem wpList_copy_h (w : World) {ops : Array Oper} {rest : List Oper} {o : Oper} {a : Act} {Q : Exit → Act → World → Prop} (hgd : o.guard = none) (d s : Operand) (t t' : TypeId)
    (ho : o.op = .call { callee := .builtin .copy, args := #[d, s], argTypes := #[t, t'] }) (v u : Value) (hd : a.eval d = v) (hs : a.eval s = u) {v' : Value} {w' : World}
    (hr : (Builtin.copy_ #[t, t'] o.type #[v, u]).run P w = .ok v' w') (h : wpList P ops Q rest (a.put o.dst v') w') : wpList P ops Q (o :: rest) a w := by
  refine wpList_plain hgd fun _ hK => ?_
  unfold Oper.wp execOp
  simp only [ho, resolve, invoke, builtin, Sem.run_bind, Sem.run_pure, Result.andThen_ok, List.map_toArray, List.map_cons, List.map_nil, hd, hs, hr]
  exact hK _ _ h
theorem step_copy_h {ops : Array Oper} {o : Oper} {a : Act} {w : World} {K : Act → World → Prop} {Q : Exit → Act → World → Prop} {E : Prop}
    (hgd : o.guard = none) (d s : Operand) (t t' : TypeId) (ho : o.op = .call { callee := .builtin .copy, args := #[d, s], argTypes := #[t, t'] })
    (v u : Value) (hd : a.eval d = v) (hs : a.eval s = u) {v' : Value} {w' : World} (hr : (Builtin.copy_ #[t, t'] o.type #[v, u]).run P w = .ok v' w') (h : K (a.put o.dst v') w') :
    if Region.wanted o (yielded ops a.tmps) = true then Oper.wp P o a w K Q else E := by
  have hw : Region.wanted o (yielded ops a.tmps) = true := by simp [Region.wanted, hgd]
  rw [if_pos hw]
  unfold Oper.wp execOp
  simp only [ho, resolve, invoke, builtin, Sem.run_bind, Sem.run_pure, Result.andThen_ok, List.map_toArray, List.map_cons, List.map_nil, hd, hs, hr]
  exact h
theorem wpList_append_h (w : World) {ops : Array Oper} {rest : List Oper} {o : Oper} {a : Act} {Q : Exit → Act → World → Prop} (hgd : o.guard = none) (d s : Operand) (t t' : TypeId)
    (ho : o.op = .call { callee := .builtin .append, args := #[d, s], argTypes := #[t, t'] }) (v u : Value) (hd : a.eval d = v) (hs : a.eval s = u) {v' : Value} {w' : World}
    (hr : (Builtin.append_ #[t, t'] o.type #[v, u]).run P w = .ok v' w') (h : wpList P ops Q rest (a.put o.dst v') w') : wpList P ops Q (o :: rest) a w := by
  refine wpList_plain hgd fun _ hK => ?_
  unfold Oper.wp execOp
  simp only [ho, resolve, invoke, builtin, Sem.run_bind, Sem.run_pure, Result.andThen_ok, List.map_toArray, List.map_cons, List.map_nil, hd, hs, hr]
  exact hK _ _ h
end
/-- a row that is known whole, behind a setRow -/
theorem row_set {w : World} {g : Nat} {cur : Array Value} {e : TypeId} (hg : w.heap[g]? = some (.cells cur e (0, 0))) (c : Array Value) : (w.setRow g c).heap[g]? = some (.cells c e (0, 0)) := setRow_heap w g cur c e _ hg
theorem grown_setRow (w : World) (g : Nat) (c : Array Value) : w.grownBy (w.setRow g c) (some g) := ⟨rfl, rfl, rfl, by simp, fun k _ hk => setRow_other w g k _ (fun e => hk (by rw [e]))⟩
theorem grown_setRow' {w w1 : World} {g : Nat} (h : w.grownBy w1 (some g)) (c : Array Value) : w.grownBy (w1.setRow g c) (some g) := grown_trans h (grown_setRow w1 g c) (.inl rfl)
theorem grown_setRow_new {w w1 : World} {G : Option Nat} {g : Nat} (h : w.grownBy w1 G) (hg : w.heap.size ≤ g) (c : Array Value) : w.grownBy (w1.setRow g c) G := grown_trans h (grown_setRow w1 g c) (.inr fun k hk => by cases hk; exact hg)
theorem add0 (g o j : Nat) : (⟨g, o, none⟩ : Addr).add j = ⟨g, o + j, none⟩ := by unfold Addr.add; split <;> simp_all
theorem cell_row {w : World} {g : Nat} {cur : Array Value} {e : TypeId} (hg : w.heap[g]? = some (.cells cur e (0, 0))) (j : Nat) : w.cell? ⟨g, j, none⟩ = cur[j]? := cell_of_row w g j cur e (0, 0) hg
end Go.Proofs.Ytgdbmoggpfpkkaa
