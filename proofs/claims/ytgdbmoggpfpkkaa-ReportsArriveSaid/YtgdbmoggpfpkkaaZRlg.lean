/- ReportsKept: the walk. (Printed by gen22k.py.) -/
import Derived.Test.YtgdbmoggpfpkkaaZRle
namespace Go.Proofs.Ytgdbmoggpfpkkaa
open Go.RowKit
theorem befB_not {t m : Int} {x : Rp} (h : befB t m x = false) : ¬ cmpP x.st x.no t m < 0 := by unfold befB at h; simpa using h
/-- what is put in in its place stays in order -/
theorem col_ins (r : Rp) (hr : repB 4 3 r = true) : ∀ (l : List Rp) (p : Option (Int × Int)), colF p l = true → (∀ s n, p = some (s, n) → cmpP s n r.st r.no < 0) → hitB l r.st r.no (lowN l r.st r.no) = false → colF p (insL l (lowN l r.st r.no) r) = true
  | [], p, _, hp, _ => by
    show colF p [r] = true
    simp only [colF, hr, Bool.true_and, Bool.and_true]
    cases p with
    | none => rfl
    | some q => exact decide_eq_true (hp q.1 q.2 rfl)
  | x :: t, p, hc, hp, hh => by
    simp only [colF, Bool.and_eq_true] at hc
    by_cases hb : befB r.st r.no x = true
    · have e : lowN (x :: t) r.st r.no = lowN t r.st r.no + 1 := by unfold lowN; rw [List.takeWhile_cons_of_pos hb]; rfl
      rw [e] at hh ⊢
      have ih := col_ins r hr t (some (x.st, x.no)) hc.2 (fun s n h => by injection h with h; injection h with h1 h2; subst h1 h2; unfold befB at hb; simpa using hb) hh
      show colF p (x :: insL t (lowN t r.st r.no) r) = true
      simp only [colF, Bool.and_eq_true]
      exact ⟨hc.1, ih⟩
    · have hb : befB r.st r.no x = false := by simpa using hb
      have e : lowN (x :: t) r.st r.no = 0 := by unfold lowN; rw [List.takeWhile_cons_of_neg (by simp [hb])]; rfl
      rw [e] at hh ⊢
      have h1 := befB_not hb
      have h2 : ¬ cmpP x.st x.no r.st r.no = 0 := by
        rw [hit_some (l := x :: t) (n := 0) (r := x) rfl] at hh; simpa using hh
      have h3 : cmpP r.st r.no x.st x.no < 0 := by
        rw [cmpP_zero] at h2; rw [cmpP_lt] at h1 ⊢; omega
      show colF p (r :: x :: t) = true
      simp only [colF, Bool.and_eq_true, hr, true_and]
      refine ⟨?_, ⟨hc.1.1, decide_eq_true h3⟩, hc.2⟩
      cases p with
      | none => rfl
      | some q => exact decide_eq_true (hp q.1 q.2 rfl)
theorem col_B {l : List Rp} (h : colF none l = true) (hl : l.length ≤ 1024) : colB l = true := by unfold colB; rw [h]; simp [hl]
theorem insL_get {l : List Rp} {n : Nat} (r : Rp) (h : n ≤ l.length) : (insL l n r)[n]? = some r := by
  unfold insL
  rw [List.getElem?_append_right (by rw [List.length_take]; omega), List.length_take, Nat.min_eq_left h, Nat.sub_self]; rfl
theorem insL_lt {l : List Rp} {n i : Nat} (r : Rp) (h : n ≤ l.length) (hi : i < n) : (insL l n r)[i]? = l[i]? := by
  unfold insL
  rw [List.getElem?_append_left (by rw [List.length_take]; omega), List.getElem?_take, if_pos hi]
theorem insL_gt {l : List Rp} {n i : Nat} (r : Rp) (h : n ≤ l.length) (hi : n < i) : (insL l n r)[i]? = l[i - 1]? := by
  unfold insL
  rw [List.getElem?_append_right (by rw [List.length_take]; omega), List.length_take, Nat.min_eq_left h]
  obtain ⟨j, rfl⟩ : ∃ j, i = n + j + 1 := ⟨i - n - 1, by omega⟩
  rw [show n + j + 1 - n = j + 1 by omega, List.getElem?_cons_succ, List.getElem?_drop, show n + j + 1 - 1 = n + j by omega]
theorem insL_mem {l : List Rp} {n : Nat} {r y : Rp} : y ∈ insL l n r ↔ y = r ∨ y ∈ l := by
  unfold insL
  rw [List.mem_append, List.mem_cons]
  constructor
  · rintro (h | h | h)
    · exact .inr (List.mem_of_mem_take h)
    · exact .inl h
    · exact .inr (List.mem_of_mem_drop h)
  · rintro (h | h)
    · exact .inr (.inl h)
    · rw [← List.take_append_drop n l, List.mem_append] at h
      rcases h with h | h
      · exact .inl h
      · exact .inr (.inr h)
/-- what Add answers without an error -/
structure AddOk (l : List Rp) (r : Rp) (L : List Rp) (n : Nat) (b : Bool) : Prop where
  col : colB l = true
  rep : repB 4 3 r = true
  colL : colB L = true
  at_n : L[n]? = some r
  le : n ≤ l.length
  ins : b = true → L = insL l n r ∧ l.length + 1 ≤ 1024 ∧ ∀ x ∈ l, ¬ (x.st = r.st ∧ x.no = r.no)
  own : b = false → L = l
theorem add_ok {l L : List Rp} {r : Rp} {E : Int} (h : addX l r = (L, E)) : (E ≠ 0 ∧ L = []) ∨ (E = 0 ∧ ∃ n b, AddOk l r L n b) := by
  cases hc : colB l with
  | false => rw [addX_1 r hc] at h; injection h with h1 h2; exact .inl ⟨by omega, h1.symm⟩
  | true =>
  cases hr : repB 4 3 r with
  | false => rw [addX_2 hr] at h; injection h with h1 h2; exact .inl ⟨by omega, h1.symm⟩
  | true =>
  have hlow := low_of_col r.st r.no l none (colB_F hc)
  have hlen : l.length ≤ 1024 := by have := hc; unfold colB at this; simp only [Bool.and_eq_true, decide_eq_true_eq] at this; exact this.2
  cases hh : hitB l r.st r.no (lowN l r.st r.no) with
  | true =>
    cases he : eqAt l (lowN l r.st r.no) r with
    | false => rw [addX_4 hc hr hh he] at h; injection h with h1 h2; exact .inl ⟨by omega, h1.symm⟩
    | true =>
      rw [addX_3 hc hr hh he] at h; injection h with h1 h2
      subst h1
      obtain ⟨x, hx⟩ := hit_ex hh
      rw [eqAt_some r hx] at he
      have := (rpEq_iff x r).1 he
      subst this
      exact .inr ⟨h2.symm, lowN l x.st x.no, false, ⟨hc, hr, hc, hx, hlow.1, (fun h => by cases h), (fun _ => rfl)⟩⟩
  | false =>
    by_cases hl : l.length = 1024
    · rw [addX_5 hc hr hh hl] at h; injection h with h1 h2; exact .inl ⟨by omega, h1.symm⟩
    · rw [addX_6 hc hr hh hl] at h; injection h with h1 h2
      subst h1
      refine .inr ⟨h2.symm, lowN l r.st r.no, true, ⟨hc, hr, ?_, insL_get r hlow.1, hlow.1, (fun _ => ⟨rfl, by omega, ?_⟩), (fun h => by cases h)⟩⟩
      · exact col_B (col_ins r hr l none (colB_F hc) (fun s n h => by cases h) hh) (by rw [insL_len r hlow.1]; omega)
      · rintro x hx ⟨h3, h4⟩
        obtain ⟨i, hi⟩ := List.getElem?_of_mem hx
        have := hit_own hc hi
        rw [h3, h4, hh] at this; cases this
/-- the counters behind i reports -/
def kSt (b : Bool) (n i : Nat) : Nat × Nat := if b = true ∧ n < i then (i - 1, 1) else (i, 0)
theorem kSt_zero (b : Bool) (n : Nat) : kSt b n 0 = (0, 0) := by unfold kSt; rw [if_neg (by omega)]
theorem kept_step {l L : List Rp} {r a : Rp} {n i : Nat} {b : Bool} (h : AddOk l r L n b) (ha : L[i]? = some a) :
    (l[(kSt b n i).1]? = some a ∧ kSt b n (i + 1) = ((kSt b n i).1 + 1, (kSt b n i).2)) ∨
    ((l[(kSt b n i).1]? = none ∨ ∃ y, l[(kSt b n i).1]? = some y ∧ y ≠ a) ∧ r = a ∧ kSt b n (i + 1) = ((kSt b n i).1, (kSt b n i).2 + 1)) := by
  cases b with
  | false =>
    have := h.own rfl
    subst this
    unfold kSt
    simp only [Bool.false_eq_true, false_and, if_false]
    exact .inl ⟨ha, by simp⟩
  | true =>
    obtain ⟨hL, _, hno⟩ := h.ins rfl
    rw [hL] at ha
    rcases Nat.lt_trichotomy i n with hi | rfl | hi
    · rw [insL_lt r h.le hi] at ha
      unfold kSt
      rw [if_neg (by omega), if_neg (by omega)]
      exact .inl ⟨ha, rfl⟩
    · rw [insL_get r h.le] at ha
      injection ha with ha
      unfold kSt
      rw [if_neg (by omega), if_pos ⟨rfl, by omega⟩]
      refine .inr ⟨?_, ha, by simp⟩
      cases hy : l[i]? with
      | none => exact .inl rfl
      | some y => exact .inr ⟨y, rfl, fun e => hno y (List.mem_of_getElem? hy) (by rw [e, ha]; exact ⟨rfl, rfl⟩)⟩
    · rw [insL_gt r h.le hi] at ha
      unfold kSt
      rw [if_pos ⟨rfl, hi⟩, if_pos ⟨rfl, by omega⟩]
      exact .inl ⟨ha, by simp; omega⟩
theorem kept_end {l L : List Rp} {r : Rp} {n : Nat} {b : Bool} (h : AddOk l r L n b) : kSt b n L.length = (l.length, if b then 1 else 0) := by
  cases b with
  | false => rw [h.own rfl]; unfold kSt; simp
  | true =>
    rw [(h.ins rfl).1, insL_len r h.le]
    unfold kSt
    rw [if_pos ⟨rfl, by have := h.le; omega⟩]; simp
theorem met_end {l L : List Rp} {r : Rp} {n : Nat} {b : Bool} (h : AddOk l r L n b) : (l.any fun x => rpEq x r) = !b := by
  cases b with
  | false =>
    have := h.own rfl
    subst this
    have h1 : (L.any fun x => rpEq x r) = true := List.any_eq_true.2 ⟨r, List.mem_of_getElem? h.at_n, (rpEq_iff r r).2 rfl⟩
    rw [h1]; rfl
  | true =>
    have hno := (h.ins rfl).2.2
    have h1 : (l.any fun x => rpEq x r) = false := List.any_eq_false.2 fun x hx he => hno x hx (by rw [(rpEq_iff x r).1 he]; exact ⟨rfl, rfl⟩)
    rw [h1]; rfl
def KpRel (w : World) (l L : List Rp) (r : Rp) (n : Nat) (b : Bool) (vk va vi : Value) (wr : World) : Prop := ∃ i : Nat, i ≤ L.length ∧ vk = .int .i64 ((kSt b n i).1 : Nat) ∧ va = .int .i64 ((kSt b n i).2 : Nat) ∧ vi = .int .i64 i ∧ Below w.heap.size w wr
def MtRel (w : World) (l : List Rp) (r : Rp) (vm vi : Value) (wr : World) : Prop := ∃ i : Nat, i ≤ l.length ∧ vm = .bool ((l.take i).any fun x => rpEq x r) ∧ vi = .int .i64 i ∧ Below w.heap.size w wr
set_option maxRecDepth 100000 in
set_option maxHeartbeats 4000000 in
theorem kept22_walk (l : List Rp) (v : Value) (r : Rp) (w : World) (hl : RpsAt w.heap.size w l v) (hz : ∀ x ∈ l, x.cl.size ≤ maxLen) (hs : r.cl.size ≤ maxLen) : Calls Try.prog 7 #[v, r.v] w (BoolPost true w) := by
  have HL := Lib.hid hl
  obtain ⟨oa, cap, rfl, hlm⟩ := hl.shape
  have bl : (l.length : Int) ≤ 9223372036854775807 := by omega
  have Hs : Hid (r.cl.size ≤ 9223372036854775807) := by show _ ≤ _; unfold maxLen at hs; omega
  have Hz : Hid (∀ x ∈ l, x.cl.size ≤ 9223372036854775807) := fun x hx => by have := hz x hx; unfold maxLen at this; omega
  clear hl hlm hs hz
  have hcb0 : Hid (CB (w.alloc (.cells #[.int .i64 r.st, .int .i64 r.no, .int .i64 r.mi, .int .i64 r.ar, .string r.cl, .int .i64 r.vo] 23)) w.heap.size 23 r.cells) := CB.new w _ _
  have hb0 := Lib.hid ((Below.refl w.heap.size w).alloc (Nat.le_refl _) (.cells #[.int .i64 r.st, .int .i64 r.no, .int .i64 r.mi, .int .i64 r.ar, .string r.cl, .int .i64 r.vo] 23))
  change Calls Try.prog 7 #[.slice oa l.length cap, .agg #[.int .i64 r.st, .int .i64 r.no, .int .i64 r.mi, .int .i64 r.ar, .string r.cl, .int .i64 r.vo]] w _
  obtain ⟨sh, hsh⟩ : ∃ t, decide (r.cl.size ≤ 200) = t := ⟨_, rfl⟩
  have Hsh := Lib.hid hsh; clear hsh
  obtain ⟨sl, hsl⟩ : ∃ t, shortB l = t := ⟨_, rfl⟩
  have Hsl := Lib.hid hsl; clear hsl
  go_enter Try.func7, Try.ntmps7
  go_upto_region 1 with fail
  generalize w.alloc (.cells #[.int .i64 r.st, .int .i64 r.no, .int .i64 r.mi, .int .i64 r.ar, .string r.cl, .int .i64 r.vo] 23) = w0 at *
  go_wp2_with fail
  refine (sane22_any _).mono ?_
  rintro e w1 ⟨rfl, hb⟩
  have H1 := Lib.hid (below_ext hb0.out hb)
  have HA1 := Lib.hid (hcb0.out.ext hb)
  clear hb hb0 hcb0
  go_wp2_with fail
  refine (short_any l _ _ (HL.out.ext H1.out)).mono ?_
  rw [Hsl.out]
  rintro e w2 ⟨rfl, hb⟩
  have H2 := Lib.hid (below_ext H1.out hb)
  have HA2 := Lib.hid (HA1.out.ext hb)
  clear hb H1 HA1
  cases sl
  case false =>
    go_wp2_with fail
    go_ret
    exact ⟨rfl, H2.out⟩
  case true =>
  obtain ⟨c0, c1, c2, c3, c4, c5⟩ := RpAt.of_cb HA2.out
  go_wp2_with fail
  refine (short1 r sh Hsh.out _).mono ?_
  rintro e w3 ⟨rfl, hb⟩
  have H3 := Lib.hid (below_ext H2.out hb)
  have HA3 := Lib.hid (HA2.out.ext hb)
  clear hb c0 c1 c2 c3 c4 c5 H2 HA2
  cases sh
  case false =>
    go_wp2_with fail
    go_ret
    exact ⟨rfl, H3.out⟩
  case true =>
  obtain ⟨L, E, hLE⟩ : ∃ L E, addX l r = (L, E) := ⟨_, _, rfl⟩
  have HLE := Lib.hid hLE
  clear hLE
  obtain ⟨c0, c1, c2, c3, c4, c5⟩ := RpAt.of_cb HA3.out
  go_wp2_with fail
  refine (add_any l _ r _ (HL.out.ext H3.out) Hz.out Hs.out).mono ?_
  intro e w4 hp
  obtain ⟨oa4, cap4, rfl, hv4, hb⟩ := hp.as HLE.out
  have H4 := Lib.hid (below_ext H3.out hb)
  have HA4 := Lib.hid (HA3.out.ext hb)
  have HX4 := Lib.hid hv4
  clear hb hp hv4 c0 c1 c2 c3 c4 c5 H3 HA3
  rcases add_ok HLE.out with ⟨hE, hL0⟩ | ⟨rfl, n, b, hok⟩
  · have tE : (E != 0) = true := by rw [bne_iff_ne]; exact hE
    subst hL0
    clear hE
    go_wp2_with fail
    go_ret
    exact ⟨rfl, H4.out⟩
  have HOK := Lib.hid hok
  have hLlen : L.length ≤ 1024 := by have := hok.colL; unfold colB at this; simp only [Bool.and_eq_true, decide_eq_true_eq] at this; exact this.2
  have bL : (L.length : Int) ≤ 1024 := by omega
  clear hok hLlen
  go_wp2_with fail
  go_loopw [7, 8, 40] (fun vk va vi wr => KpRel w4 l L r n b vk va vi wr) (fun _ _ vi _ => L.length - (intOf vi).toNat)
  case atStart => exact ⟨0, Nat.zero_le _, by rw [kSt_zero]; rfl, by rw [kSt_zero]; rfl, rfl, Below.refl _ _⟩
  case round =>
    obtain ⟨i, hil, rfl, rfl, rfl, hbw⟩ := hrel
    have HBw := Lib.hid hbw
    clear hbw
    obtain ⟨k, ad, hka⟩ : ∃ k ad, kSt b n i = (k, ad) := ⟨_, _, rfl⟩
    by_cases hlt : i < L.length
    · have tj : decide ((i : Int) < (L.length : Int)) = true := by simp; omega
      have tj' : (i : Int) < (L.length : Int) := by omega
      obtain ⟨a, ha⟩ : ∃ a, L[i]? = some a := ⟨_, List.getElem?_eq_getElem hlt⟩
      have Hst := Lib.hid (kept_step HOK.out ha)
      have hcg := col_get L none i a (colB_F HOK.out.colL) ha
      have HVa : Hid (repB 4 3 a = true) := hcg.1
      have Hcg := Lib.hid hcg.2
      have Hsa : Hid (a.cl.size ≤ 9223372036854775807) := by show _ ≤ _; have := (repB_sound hcg.1).2.2; omega
      have bk : (k : Int) ≤ 1024 := by
        have h1 : (kSt b n i).1 ≤ i := by unfold kSt; split <;> simp
        rw [hka] at h1; have : k ≤ i := h1; omega
      have bad : (ad : Int) ≤ 1 := by
        have h1 : (kSt b n i).2 ≤ 1 := by unfold kSt; split <;> simp
        rw [hka] at h1; have : ad ≤ 1 := h1; omega
      rw [hka] at Hst ⊢
      change Hid ((l[k]? = some a ∧ kSt b n (i + 1) = (k + 1, ad)) ∨ ((l[k]? = none ∨ ∃ y, l[k]? = some y ∧ y ≠ a) ∧ r = a ∧ kSt b n (i + 1) = (k, ad + 1))) at Hst
      have Hka := Lib.hid hka
      obtain ⟨b', off, rfl, hat⟩ := (HX4.out.ext HBw.out).at hlt
      obtain ⟨c0, c1, c2, c3, c4, c5⟩ := hat i a ha
      have Hat := Lib.hid hat
      have HC0 := Lib.hid (HA4.out.ext HBw.out)
      clear hat hcg hka
      go_upto_region 12 with fail
      have hbz := (Below.refl wr.heap.size wr).alloc (Nat.le_refl _) (.cells #[.int .i64 a.st, .int .i64 a.no, .int .i64 a.mi, .int .i64 a.ar, .string a.cl, .int .i64 a.vo] 23)
      have HAB : Hid (CB (wr.alloc (.cells #[.int .i64 a.st, .int .i64 a.no, .int .i64 a.mi, .int .i64 a.ar, .string a.cl, .int .i64 a.vo] 23)) wr.heap.size 23 a.cells) := CB.new wr _ _
      have HC1 := Lib.hid (CB.ext HC0.out hbz)
      have HBz := Lib.hid (below_ext HBw.out hbz)
      have Hbz := Lib.hid hbz
      clear c0 c1 c2 c3 c4 c5 hbz
      generalize wr.alloc (.cells #[.int .i64 a.st, .int .i64 a.no, .int .i64 a.mi, .int .i64 a.ar, .string a.cl, .int .i64 a.vo] 23) = w1 at *
      have hbS := (Below.refl w1.heap.size w1).drew
      by_cases hi0 : i = 0
      · subst hi0
        have tk0 : decide ((0 : Int) < ((0 : Nat) : Int)) = false := by simp
        clear ha
        refine wp_region_noPanic ?_
        refine wp_region_held_drew (S := fun w' => w'.cell? ⟨wr.heap.size, 0, none⟩ = some (.int .i64 a.st) ∧ w'.cell? ⟨wr.heap.size, 1, none⟩ = some (.int .i64 a.no) ∧ w'.cell? ⟨wr.heap.size, 2, none⟩ = some (.int .i64 a.mi) ∧ w'.cell? ⟨wr.heap.size, 3, none⟩ = some (.int .i64 a.ar) ∧ w'.cell? ⟨wr.heap.size, 4, none⟩ = some (.string a.cl) ∧ w'.cell? ⟨wr.heap.size, 5, none⟩ = some (.int .i64 a.vo)) (by kernel_rfl) (RpAt.ext (RpAt.of_cb HAB.out) hbS).six (fun hHeld => ?_)
        refine take_dst (some 45) (i := 0) (v := ?vA0) rfl rfl (by kernel_rfl) (by kernel_rfl) (by kernel_rfl) (fun _ _ _ h => h) (Or.inl ⟨by rfl, fun wS hSw => ?hyA0⟩) (by assumption) ?restA0
        case hyA0 => (obtain ⟨s0, s1, s2, s3, s4, s5⟩ := hSw; go_simp; first | done | with_reducible rfl)
        try simp only [Act.put, List.setIfInBounds_toArray, List.set_cons_zero, List.set_cons_succ]
        refine take_dst (some 46) (i := 1) (v := ?vA1) rfl rfl (by kernel_rfl) (by kernel_rfl) (by kernel_rfl) (fun _ _ _ h => h) (Or.inl ⟨by rfl, fun wS hSw => ?hyA1⟩) (by assumption) ?restA1
        case hyA1 => (obtain ⟨s0, s1, s2, s3, s4, s5⟩ := hSw; go_simp; first | done | with_reducible rfl)
        try simp only [Act.put, List.setIfInBounds_toArray, List.set_cons_zero, List.set_cons_succ]
        refine take_dst (some 47) (i := 2) (v := ?vA2) rfl rfl (by kernel_rfl) (by kernel_rfl) (by kernel_rfl) (fun _ _ _ h => h) (Or.inl ⟨by rfl, fun wS hSw => ?hyA2⟩) (by assumption) ?restA2
        case hyA2 => (obtain ⟨s0, s1, s2, s3, s4, s5⟩ := hSw; go_simp; first | done | with_reducible rfl)
        try simp only [Act.put, List.setIfInBounds_toArray, List.set_cons_zero, List.set_cons_succ]
        refine take_dst (some 48) (i := 3) (v := undef) rfl rfl (by kernel_rfl) (by kernel_rfl) (by kernel_rfl) (fun _ _ _ h => h) (Or.inr ⟨by rfl, rfl⟩) (by assumption) ?restA3
        try simp only [Act.put, List.setIfInBounds_toArray, List.set_cons_zero, List.set_cons_succ]
        refine take_dst (some 49) (i := 4) (v := undef) rfl rfl (by kernel_rfl) (by kernel_rfl) (by kernel_rfl) (fun _ _ _ h => h) (Or.inr ⟨by rfl, rfl⟩) (by assumption) ?restA4
        try simp only [Act.put, List.setIfInBounds_toArray, List.set_cons_zero, List.set_cons_succ]
        refine take_dst (some 50) (i := 5) (v := undef) rfl rfl (by kernel_rfl) (by kernel_rfl) (by kernel_rfl) (fun _ _ _ h => h) (Or.inr ⟨by rfl, rfl⟩) (by assumption) ?restA5
        try simp only [Act.put, List.setIfInBounds_toArray, List.set_cons_zero, List.set_cons_succ]
        refine take_dst (some 51) (i := 6) (v := undef) rfl rfl (by kernel_rfl) (by kernel_rfl) (by kernel_rfl) (fun _ _ _ h => h) (Or.inr ⟨by rfl, rfl⟩) (by assumption) ?restA6
        try simp only [Act.put, List.setIfInBounds_toArray, List.set_cons_zero, List.set_cons_succ]
        refine take_dst (some 52) (i := 7) (v := undef) rfl rfl (by kernel_rfl) (by kernel_rfl) (by kernel_rfl) (fun _ _ _ h => h) (Or.inr ⟨by rfl, rfl⟩) (by assumption) ?restA7
        try simp only [Act.put, List.setIfInBounds_toArray, List.set_cons_zero, List.set_cons_succ]
        refine take_dst (some 53) (i := 8) (v := undef) rfl rfl (by kernel_rfl) (by kernel_rfl) (by kernel_rfl) (fun _ _ _ h => h) (Or.inr ⟨by rfl, rfl⟩) (by assumption) ?restA8
        try simp only [Act.put, List.setIfInBounds_toArray, List.set_cons_zero, List.set_cons_succ]
        refine take_dst (some 54) (i := 9) (v := undef) rfl rfl (by kernel_rfl) (by kernel_rfl) (by kernel_rfl) (fun _ _ _ h => h) (Or.inr ⟨by rfl, rfl⟩) (by assumption) ?restA9
        try simp only [Act.put, List.setIfInBounds_toArray, List.set_cons_zero, List.set_cons_succ]
        refine take_dst (some 55) (i := 10) (v := undef) rfl rfl (by kernel_rfl) (by kernel_rfl) (by kernel_rfl) (fun _ _ _ h => h) (Or.inr ⟨by rfl, rfl⟩) (by assumption) ?restA10
        try simp only [Act.put, List.setIfInBounds_toArray, List.set_cons_zero, List.set_cons_succ]
        refine take_dst (some 56) (i := 11) (v := undef) rfl rfl (by kernel_rfl) (by kernel_rfl) (by kernel_rfl) (fun _ _ _ h => h) (Or.inr ⟨by rfl, rfl⟩) (by assumption) ?restA11
        try simp only [Act.put, List.setIfInBounds_toArray, List.set_cons_zero, List.set_cons_succ]
        refine take_dst (some 57) (i := 12) (v := undef) rfl rfl (by kernel_rfl) (by kernel_rfl) (by kernel_rfl) (fun _ _ _ h => h) (Or.inr ⟨by rfl, rfl⟩) (by assumption) ?restA12
        try simp only [Act.put, List.setIfInBounds_toArray, List.set_cons_zero, List.set_cons_succ]
        refine take_dst (some 58) (i := 13) (v := undef) rfl rfl (by kernel_rfl) (by kernel_rfl) (by kernel_rfl) (fun _ _ _ h => h) (Or.inr ⟨by rfl, rfl⟩) (by assumption) ?restA13
        try simp only [Act.put, List.setIfInBounds_toArray, List.set_cons_zero, List.set_cons_succ]
        refine take_dst (some 59) (i := 14) (v := undef) rfl rfl (by kernel_rfl) (by kernel_rfl) (by kernel_rfl) (fun _ _ _ h => h) (Or.inr ⟨by rfl, rfl⟩) (by assumption) ?restA14
        try simp only [Act.put, List.setIfInBounds_toArray, List.set_cons_zero, List.set_cons_succ]
        refine take_dst (some 60) (i := 15) (v := undef) rfl rfl (by kernel_rfl) (by kernel_rfl) (by kernel_rfl) (fun _ _ _ h => h) (Or.inr ⟨by rfl, rfl⟩) (by assumption) ?restA15
        try simp only [Act.put, List.setIfInBounds_toArray, List.set_cons_zero, List.set_cons_succ]
        refine take_dst (some 61) (i := 16) (v := undef) rfl rfl (by kernel_rfl) (by kernel_rfl) (by kernel_rfl) (fun _ _ _ h => h) (Or.inr ⟨by rfl, rfl⟩) (by assumption) ?restA16
        try simp only [Act.put, List.setIfInBounds_toArray, List.set_cons_zero, List.set_cons_succ]
        refine take_dst (some 62) (i := 17) (v := undef) rfl rfl (by kernel_rfl) (by kernel_rfl) (by kernel_rfl) (fun _ _ _ h => h) (Or.inr ⟨by rfl, rfl⟩) (by assumption) ?restA17
        try simp only [Act.put, List.setIfInBounds_toArray, List.set_cons_zero, List.set_cons_succ]
        refine take_dst (some 63) (i := 18) (v := undef) rfl rfl (by kernel_rfl) (by kernel_rfl) (by kernel_rfl) (fun _ _ _ h => h) (Or.inr ⟨by rfl, rfl⟩) (by assumption) ?restA18
        try simp only [Act.put, List.setIfInBounds_toArray, List.set_cons_zero, List.set_cons_succ]
        refine take_dst (some 64) (i := 19) (v := undef) rfl rfl (by kernel_rfl) (by kernel_rfl) (by kernel_rfl) (fun _ _ _ h => h) (Or.inr ⟨by rfl, rfl⟩) (by assumption) ?restA19
        try simp only [Act.put, List.setIfInBounds_toArray, List.set_cons_zero, List.set_cons_succ]
        refine take_dst (some 65) (i := 20) (v := undef) rfl rfl (by kernel_rfl) (by kernel_rfl) (by kernel_rfl) (fun _ _ _ h => h) (Or.inr ⟨by rfl, rfl⟩) (by assumption) ?restA20
        try simp only [Act.put, List.setIfInBounds_toArray, List.set_cons_zero, List.set_cons_succ]
        refine take_dst (some 66) (i := 21) (v := undef) rfl rfl (by kernel_rfl) (by kernel_rfl) (by kernel_rfl) (fun _ _ _ h => h) (Or.inr ⟨by rfl, rfl⟩) (by assumption) ?restA21
        try simp only [Act.put, List.setIfInBounds_toArray, List.set_cons_zero, List.set_cons_succ]
        refine take_dst (some 67) (i := 22) (v := undef) rfl rfl (by kernel_rfl) (by kernel_rfl) (by kernel_rfl) (fun _ _ _ h => h) (Or.inr ⟨by rfl, rfl⟩) (by assumption) ?restA22
        try simp only [Act.put, List.setIfInBounds_toArray, List.set_cons_zero, List.set_cons_succ]
        refine take_dst (some 68) (i := 23) (v := undef) rfl rfl (by kernel_rfl) (by kernel_rfl) (by kernel_rfl) (fun _ _ _ h => h) (Or.inr ⟨by rfl, rfl⟩) (by assumption) ?restA23
        try simp only [Act.put, List.setIfInBounds_toArray, List.set_cons_zero, List.set_cons_succ]
        refine take_dst (some 69) (i := 24) (v := undef) rfl rfl (by kernel_rfl) (by kernel_rfl) (by kernel_rfl) (fun _ _ _ h => h) (Or.inr ⟨by rfl, rfl⟩) (by assumption) ?restA24
        try simp only [Act.put, List.setIfInBounds_toArray, List.set_cons_zero, List.set_cons_succ]
        refine take_dst (some 70) (i := 25) (v := undef) rfl rfl (by kernel_rfl) (by kernel_rfl) (by kernel_rfl) (fun _ _ _ h => h) (Or.inr ⟨by rfl, rfl⟩) (by assumption) ?restA25
        try simp only [Act.put, List.setIfInBounds_toArray, List.set_cons_zero, List.set_cons_succ]
        refine take_dst (some 71) (i := 26) (v := undef) rfl rfl (by kernel_rfl) (by kernel_rfl) (by kernel_rfl) (fun _ _ _ h => h) (Or.inr ⟨by rfl, rfl⟩) (by assumption) ?restA26
        try simp only [Act.put, List.setIfInBounds_toArray, List.set_cons_zero, List.set_cons_succ]
        refine take_dst (some 72) (i := 27) (v := undef) rfl rfl (by kernel_rfl) (by kernel_rfl) (by kernel_rfl) (fun _ _ _ h => h) (Or.inr ⟨by rfl, rfl⟩) (by assumption) ?restA27
        try simp only [Act.put, List.setIfInBounds_toArray, List.set_cons_zero, List.set_cons_succ]
        refine take_dst (some 73) (i := 28) (v := undef) rfl rfl (by kernel_rfl) (by kernel_rfl) (by kernel_rfl) (fun _ _ _ h => h) (Or.inr ⟨by rfl, rfl⟩) (by assumption) ?restA28
        try simp only [Act.put, List.setIfInBounds_toArray, List.set_cons_zero, List.set_cons_succ]
        refine take_dst (some 74) (i := 29) (v := undef) rfl rfl (by kernel_rfl) (by kernel_rfl) (by kernel_rfl) (fun _ _ _ h => h) (Or.inr ⟨by rfl, rfl⟩) (by assumption) ?restA29
        try simp only [Act.put, List.setIfInBounds_toArray, List.set_cons_zero, List.set_cons_succ]
        refine take_dst (some 75) (i := 30) (v := undef) rfl rfl (by kernel_rfl) (by kernel_rfl) (by kernel_rfl) (fun _ _ _ h => h) (Or.inr ⟨by rfl, rfl⟩) (by assumption) ?restA30
        try simp only [Act.put, List.setIfInBounds_toArray, List.set_cons_zero, List.set_cons_succ]
        refine take_dst (some 76) (i := 31) (v := undef) rfl rfl (by kernel_rfl) (by kernel_rfl) (by kernel_rfl) (fun _ _ _ h => h) (Or.inr ⟨by rfl, rfl⟩) (by assumption) ?restA31
        try simp only [Act.put, List.setIfInBounds_toArray, List.set_cons_zero, List.set_cons_succ]
        refine take_dst (some 77) (i := 32) (v := undef) rfl rfl (by kernel_rfl) (by kernel_rfl) (by kernel_rfl) (fun _ _ _ h => h) (Or.inr ⟨by rfl, rfl⟩) (by assumption) ?restA32
        try simp only [Act.put, List.setIfInBounds_toArray, List.set_cons_zero, List.set_cons_succ]
        refine take_dst (some 78) (i := 33) (v := undef) rfl rfl (by kernel_rfl) (by kernel_rfl) (by kernel_rfl) (fun _ _ _ h => h) (Or.inr ⟨by rfl, rfl⟩) (by assumption) ?restA33
        try simp only [Act.put, List.setIfInBounds_toArray, List.set_cons_zero, List.set_cons_succ]
        refine take_dst (some 79) (i := 34) (v := ?vA34) rfl rfl (by kernel_rfl) (by kernel_rfl) (by kernel_rfl) (fun _ _ _ h => h) (Or.inl ⟨by rfl, fun wS hSw => ?hyA34⟩) (by assumption) ?restA34
        case hyA34 => (obtain ⟨s0, s1, s2, s3, s4, s5⟩ := hSw; go_simp; first | done | with_reducible rfl)
        try simp only [Act.put, List.setIfInBounds_toArray, List.set_cons_zero, List.set_cons_succ]
        refine take_dst (some 80) (i := 35) (v := ?vA35) rfl rfl (by kernel_rfl) (by kernel_rfl) (by kernel_rfl) (fun _ _ _ h => h) (Or.inl ⟨by rfl, fun wS hSw => ?hyA35⟩) (by assumption) ?restA35
        case hyA35 => (obtain ⟨s0, s1, s2, s3, s4, s5⟩ := hSw; go_simp; first | done | with_reducible rfl)
        try simp only [Act.put, List.setIfInBounds_toArray, List.set_cons_zero, List.set_cons_succ]
        refine take_dst (some 81) (i := 36) (v := ?vA36) rfl rfl (by kernel_rfl) (by kernel_rfl) (by kernel_rfl) (fun _ _ _ h => h) (Or.inl ⟨by rfl, fun wS hSw => ?hyA36⟩) (by assumption) ?restA36
        case hyA36 => (obtain ⟨s0, s1, s2, s3, s4, s5⟩ := hSw; go_simp; first | done | with_reducible rfl)
        try simp only [Act.put, List.setIfInBounds_toArray, List.set_cons_zero, List.set_cons_succ]
        refine wpAnyH_ready (rs := [37]) (by kernel_rfl) (by simp) ?_
        refine AllReadyH.cons rfl (fun K hK => ?_) AllReadyH.nil
        go_simp
        refine (chk_ok 4 3 a _ three Hsa.out HVa.out).mono ?_
        rintro e w7 ⟨rfl, hb7⟩
        have hbS2 : Below w1.heap.size w1 w7 := below_undrew' hb7
        refine hK.out _ _ (RpAt.ext (RpAt.of_cb HAB.out) hbS2).six (fun hHeld => ?_)
        clear hK K
        try simp only [Act.put, List.setIfInBounds_toArray, List.set_cons_zero, List.set_cons_succ]
        refine take_dst (some 83) (i := 38) (v := ?vA38) rfl rfl (by kernel_rfl) (by kernel_rfl) (by kernel_rfl) (fun _ _ _ h => h) (Or.inl ⟨by rfl, fun wS hSw => ?hyA38⟩) (by assumption) ?restA38
        case hyA38 => (obtain ⟨s0, s1, s2, s3, s4, s5⟩ := hSw; go_simp; first | done | with_reducible rfl)
        try simp only [Act.put, List.setIfInBounds_toArray, List.set_cons_zero, List.set_cons_succ]
        refine take_dst (some 84) (i := 39) (v := ?vA39) rfl rfl (by kernel_rfl) (by kernel_rfl) (by kernel_rfl) (fun _ _ _ h => h) (Or.inl ⟨by rfl, fun wS hSw => ?hyA39⟩) (by assumption) ?restA39
        case hyA39 => (obtain ⟨s0, s1, s2, s3, s4, s5⟩ := hSw; go_simp; first | done | with_reducible rfl)
        try simp only [Act.put, List.setIfInBounds_toArray, List.set_cons_zero, List.set_cons_succ]
        refine wpAnyH_done (by kernel_rfl) ?_ _
        refine NoPanic.normal ?_
        have HBn := Lib.hid (below_ext HBz.out hbS2)
        clear tk0
        have HB2 := HBn
        have HAB2 := Lib.hid (CB.ext HAB.out hbS2)
        have HC2 := Lib.hid (HC1.out.ext hbS2)
        clear hbS hbS2 hb7 hHeld
        generalize hw7 : w7 = w8 at *
        clear hw7
        obtain ⟨a0, a1, a2, a3, a4, a5⟩ := RpAt.of_cb HAB2.out
        obtain ⟨r0, r1, r2, r3, r4, r5⟩ := RpAt.of_cb HC2.out
        rcases Hst.out with ⟨hk, hn⟩ | ⟨hk, rfl, hn⟩
        · have hkl : k < l.length := (List.getElem?_eq_some_iff.1 hk).1
          have tk : decide ((k : Int) < (l.length : Int)) = true := by simp; omega
          have tk' : (k : Int) < (l.length : Int) := by omega
          obtain ⟨bl, ol, rfl, hatl⟩ := (HL.out.ext (below_ext H4.out HB2.out)).at hkl
          obtain ⟨l0, l1, l2, l3, l4, l5⟩ := hatl k a hk
          have heq : ∀ w : World, (Op.equalIn 10000 23 (.agg #[.int .i64 a.st, .int .i64 a.no, .int .i64 a.mi, .int .i64 a.ar, .string a.cl, .int .i64 a.vo]) (.agg #[.int .i64 a.st, .int .i64 a.no, .int .i64 a.mi, .int .i64 a.ar, .string a.cl, .int .i64 a.vo])).run Try.prog w = .ok true w := fun w => by rw [← (rpEq_iff a a).2 rfl]; exact eq_rp a a w
          have Hn := Lib.hid hn
          clear hatl hk hn
          go_upto_region 14 with fail
          go_quiet (fail)
          go_wp2_with fail
          go_roundw
          case rel => exact ⟨0 + 1, by omega, by rw [Hn.out]; go_num, by rw [Hn.out], by go_num, below_drewN'' HB2.out _⟩
          case measure => simp [intOf]; omega
        · have heqr : ∀ w : World, (Op.equalIn 10000 23 (.agg #[.int .i64 r.st, .int .i64 r.no, .int .i64 r.mi, .int .i64 r.ar, .string r.cl, .int .i64 r.vo]) (.agg #[.int .i64 r.st, .int .i64 r.no, .int .i64 r.mi, .int .i64 r.ar, .string r.cl, .int .i64 r.vo])).run Try.prog w = .ok true w := fun w => by rw [← (rpEq_iff r r).2 rfl]; exact eq_rp r r w
          have Hn := Lib.hid hn
          clear hn
          go_upto_region 14 with fail
          rcases hk with hk | ⟨y, hk, hne⟩
          · have hkl : ¬ k < l.length := by intro h; rw [List.getElem?_eq_getElem h] at hk; cases hk
            have tk : decide ((k : Int) < (l.length : Int)) = false := by simp; omega
            clear hk
            go_quiet (fail)
            have HB3 := Lib.hid (below_drewN'' HB2.out nq)
            have HC3 := Lib.hid (HC2.out.keep (w' := w8.drewN nq) rfl)
            have HA3 := Lib.hid (HAB2.out.keep (w' := w8.drewN nq) rfl)
            clear a0 a1 a2 a3 a4 a5 r0 r1 r2 r3 r4 r5
            generalize w8.drewN nq = w9 at *
            obtain ⟨a0, a1, a2, a3, a4, a5⟩ := RpAt.of_cb HA3.out
            obtain ⟨r0, r1, r2, r3, r4, r5⟩ := RpAt.of_cb HC3.out
            go_wp2_with fail
            go_roundw
            case rel => exact ⟨0 + 1, by omega, by rw [Hn.out], by rw [Hn.out]; go_num, by go_num, HB3.out⟩
            case measure => simp [intOf]; omega
          · have hkl : k < l.length := (List.getElem?_eq_some_iff.1 hk).1
            have tk : decide ((k : Int) < (l.length : Int)) = true := by simp; omega
            have tk' : (k : Int) < (l.length : Int) := by omega
            obtain ⟨bl, ol, rfl, hatl⟩ := (HL.out.ext (below_ext H4.out HB2.out)).at hkl
            obtain ⟨l0, l1, l2, l3, l4, l5⟩ := hatl k y hk
            have heq : ∀ w : World, (Op.equalIn 10000 23 (.agg #[.int .i64 y.st, .int .i64 y.no, .int .i64 y.mi, .int .i64 y.ar, .string y.cl, .int .i64 y.vo]) (.agg #[.int .i64 r.st, .int .i64 r.no, .int .i64 r.mi, .int .i64 r.ar, .string r.cl, .int .i64 r.vo])).run Try.prog w = .ok false w := fun w => by
              have : rpEq y r = false := by
                cases hq : rpEq y r with
                | false => rfl
                | true => exact absurd ((rpEq_iff y r).1 hq) hne
              rw [← this]; exact eq_rp y r w
            clear hatl hk hne
            go_quiet (fail)
            have HB3 := Lib.hid (below_drewN'' HB2.out nq)
            have HC3 := Lib.hid (HC2.out.keep (w' := w8.drewN nq) rfl)
            have HA3 := Lib.hid (HAB2.out.keep (w' := w8.drewN nq) rfl)
            clear a0 a1 a2 a3 a4 a5 r0 r1 r2 r3 r4 r5 l0 l1 l2 l3 l4 l5
            generalize w8.drewN nq = w9 at *
            obtain ⟨a0, a1, a2, a3, a4, a5⟩ := RpAt.of_cb HA3.out
            obtain ⟨r0, r1, r2, r3, r4, r5⟩ := RpAt.of_cb HC3.out
            go_wp2_with fail
            go_roundw
            case rel => exact ⟨0 + 1, by omega, by rw [Hn.out], by rw [Hn.out]; go_num, by go_num, HB3.out⟩
            case measure => simp [intOf]; omega
      · obtain ⟨j, hj⟩ : ∃ j, i = j + 1 := ⟨i - 1, by omega⟩
        obtain ⟨p, hp⟩ : ∃ p, L[j]? = some p := ⟨_, List.getElem?_eq_getElem (by omega)⟩
        have HP := Lib.hid ((Hat.out j p hp).ext Hbz.out)
        have hcm := Hcg.out j p (by omega) hp
        rw [cmpP_lt] at hcm
        have e2 : IntKind.i64.wrap ((i : Int) - 1) = (j : Int) := by rw [IntWalk.i64_in _ (by omega)]; omega
        have tk0 : decide ((0 : Int) < (i : Int)) = true := by simp; omega
        have tk1 : decide (0 < i) = true := by simp; omega
        have tjj : decide ((j : Int) < (L.length : Int)) = true := by simp; omega
        have tjj' : (j : Int) < (L.length : Int) := by omega
        clear hi0 hj hp ha
        by_cases hst : p.st < a.st
        · have t1 : decide (a.st < p.st) = false := by simp; omega
          have t2 : (p.st == a.st) = false := by rw [beq_eq_false_iff_ne]; omega
          clear hst hcm
          refine wp_region_noPanic ?_
          refine wp_region_held_drew (S := fun w' => (w'.cell? ⟨wr.heap.size, 0, none⟩ = some (.int .i64 a.st) ∧ w'.cell? ⟨wr.heap.size, 1, none⟩ = some (.int .i64 a.no) ∧ w'.cell? ⟨wr.heap.size, 2, none⟩ = some (.int .i64 a.mi) ∧ w'.cell? ⟨wr.heap.size, 3, none⟩ = some (.int .i64 a.ar) ∧ w'.cell? ⟨wr.heap.size, 4, none⟩ = some (.string a.cl) ∧ w'.cell? ⟨wr.heap.size, 5, none⟩ = some (.int .i64 a.vo)) ∧ w'.cell? ⟨b', off + j * 6, none⟩ = some (.int .i64 p.st) ∧ w'.cell? ⟨b', off + j * 6 + 1, none⟩ = some (.int .i64 p.no)) (by kernel_rfl) ⟨(RpAt.ext (RpAt.of_cb HAB.out) hbS).six, cell_ext hbS HP.out.c0, cell_ext hbS HP.out.c1⟩ (fun hHeld => ?_)
          refine take_dst (some 45) (i := 0) (v := ?vB0) rfl rfl (by kernel_rfl) (by kernel_rfl) (by kernel_rfl) (fun _ _ _ h => h) (Or.inl ⟨by rfl, fun wS hSw => ?hyB0⟩) (by assumption) ?restB0
          case hyB0 => (obtain ⟨⟨s0, s1, s2, s3, s4, s5⟩, s6, s7⟩ := hSw; go_simp; first | done | with_reducible rfl)
          try simp only [Act.put, List.setIfInBounds_toArray, List.set_cons_zero, List.set_cons_succ]
          refine take_dst (some 46) (i := 1) (v := ?vB1) rfl rfl (by kernel_rfl) (by kernel_rfl) (by kernel_rfl) (fun _ _ _ h => h) (Or.inl ⟨by rfl, fun wS hSw => ?hyB1⟩) (by assumption) ?restB1
          case hyB1 => (obtain ⟨⟨s0, s1, s2, s3, s4, s5⟩, s6, s7⟩ := hSw; go_simp; first | done | with_reducible rfl)
          try simp only [Act.put, List.setIfInBounds_toArray, List.set_cons_zero, List.set_cons_succ]
          refine take_dst (some 47) (i := 2) (v := ?vB2) rfl rfl (by kernel_rfl) (by kernel_rfl) (by kernel_rfl) (fun _ _ _ h => h) (Or.inl ⟨by rfl, fun wS hSw => ?hyB2⟩) (by assumption) ?restB2
          case hyB2 => (obtain ⟨⟨s0, s1, s2, s3, s4, s5⟩, s6, s7⟩ := hSw; go_simp; first | done | with_reducible rfl)
          try simp only [Act.put, List.setIfInBounds_toArray, List.set_cons_zero, List.set_cons_succ]
          refine take_dst (some 48) (i := 3) (v := ?vB3) rfl rfl (by kernel_rfl) (by kernel_rfl) (by kernel_rfl) (fun _ _ _ h => h) (Or.inl ⟨by rfl, fun wS hSw => ?hyB3⟩) (by assumption) ?restB3
          case hyB3 => (obtain ⟨⟨s0, s1, s2, s3, s4, s5⟩, s6, s7⟩ := hSw; go_simp; first | done | with_reducible rfl)
          try simp only [Act.put, List.setIfInBounds_toArray, List.set_cons_zero, List.set_cons_succ]
          refine take_dst (some 49) (i := 4) (v := ?vB4) rfl rfl (by kernel_rfl) (by kernel_rfl) (by kernel_rfl) (fun _ _ _ h => h) (Or.inl ⟨by rfl, fun wS hSw => ?hyB4⟩) (by assumption) ?restB4
          case hyB4 => (obtain ⟨⟨s0, s1, s2, s3, s4, s5⟩, s6, s7⟩ := hSw; go_simp; first | done | with_reducible rfl)
          try simp only [Act.put, List.setIfInBounds_toArray, List.set_cons_zero, List.set_cons_succ]
          refine take_dst (some 50) (i := 5) (v := ?vB5) rfl rfl (by kernel_rfl) (by kernel_rfl) (by kernel_rfl) (fun _ _ _ h => h) (Or.inl ⟨by rfl, fun wS hSw => ?hyB5⟩) (by assumption) ?restB5
          case hyB5 => (obtain ⟨⟨s0, s1, s2, s3, s4, s5⟩, s6, s7⟩ := hSw; go_simp; first | done | with_reducible rfl)
          try simp only [Act.put, List.setIfInBounds_toArray, List.set_cons_zero, List.set_cons_succ]
          refine take_dst (some 51) (i := 6) (v := ?vB6) rfl rfl (by kernel_rfl) (by kernel_rfl) (by kernel_rfl) (fun _ _ _ h => h) (Or.inl ⟨by rfl, fun wS hSw => ?hyB6⟩) (by assumption) ?restB6
          case hyB6 => (obtain ⟨⟨s0, s1, s2, s3, s4, s5⟩, s6, s7⟩ := hSw; go_simp; first | done | with_reducible rfl)
          try simp only [Act.put, List.setIfInBounds_toArray, List.set_cons_zero, List.set_cons_succ]
          refine take_dst (some 52) (i := 7) (v := ?vB7) rfl rfl (by kernel_rfl) (by kernel_rfl) (by kernel_rfl) (fun _ _ _ h => h) (Or.inl ⟨by rfl, fun wS hSw => ?hyB7⟩) (by assumption) ?restB7
          case hyB7 => (obtain ⟨⟨s0, s1, s2, s3, s4, s5⟩, s6, s7⟩ := hSw; go_simp; first | done | with_reducible rfl)
          try simp only [Act.put, List.setIfInBounds_toArray, List.set_cons_zero, List.set_cons_succ]
          refine take_dst (some 53) (i := 8) (v := ?vB8) rfl rfl (by kernel_rfl) (by kernel_rfl) (by kernel_rfl) (fun _ _ _ h => h) (Or.inl ⟨by rfl, fun wS hSw => ?hyB8⟩) (by assumption) ?restB8
          case hyB8 => (obtain ⟨⟨s0, s1, s2, s3, s4, s5⟩, s6, s7⟩ := hSw; go_simp; first | done | with_reducible rfl)
          try simp only [Act.put, List.setIfInBounds_toArray, List.set_cons_zero, List.set_cons_succ]
          refine take_dst (some 54) (i := 9) (v := ?vB9) rfl rfl (by kernel_rfl) (by kernel_rfl) (by kernel_rfl) (fun _ _ _ h => h) (Or.inl ⟨by rfl, fun wS hSw => ?hyB9⟩) (by assumption) ?restB9
          case hyB9 => (obtain ⟨⟨s0, s1, s2, s3, s4, s5⟩, s6, s7⟩ := hSw; go_simp; first | done | with_reducible rfl)
          try simp only [Act.put, List.setIfInBounds_toArray, List.set_cons_zero, List.set_cons_succ]
          refine take_dst (some 55) (i := 10) (v := ?vB10) rfl rfl (by kernel_rfl) (by kernel_rfl) (by kernel_rfl) (fun _ _ _ h => h) (Or.inl ⟨by rfl, fun wS hSw => ?hyB10⟩) (by assumption) ?restB10
          case hyB10 => (obtain ⟨⟨s0, s1, s2, s3, s4, s5⟩, s6, s7⟩ := hSw; go_simp; first | done | with_reducible rfl)
          try simp only [Act.put, List.setIfInBounds_toArray, List.set_cons_zero, List.set_cons_succ]
          refine take_dst (some 56) (i := 11) (v := ?vB11) rfl rfl (by kernel_rfl) (by kernel_rfl) (by kernel_rfl) (fun _ _ _ h => h) (Or.inl ⟨by rfl, fun wS hSw => ?hyB11⟩) (by assumption) ?restB11
          case hyB11 => (obtain ⟨⟨s0, s1, s2, s3, s4, s5⟩, s6, s7⟩ := hSw; go_simp; first | done | with_reducible rfl)
          try simp only [Act.put, List.setIfInBounds_toArray, List.set_cons_zero, List.set_cons_succ]
          refine take_dst (some 57) (i := 12) (v := ?vB12) rfl rfl (by kernel_rfl) (by kernel_rfl) (by kernel_rfl) (fun _ _ _ h => h) (Or.inl ⟨by rfl, fun wS hSw => ?hyB12⟩) (by assumption) ?restB12
          case hyB12 => (obtain ⟨⟨s0, s1, s2, s3, s4, s5⟩, s6, s7⟩ := hSw; go_simp; first | done | with_reducible rfl)
          try simp only [Act.put, List.setIfInBounds_toArray, List.set_cons_zero, List.set_cons_succ]
          refine take_dst (some 58) (i := 13) (v := ?vB13) rfl rfl (by kernel_rfl) (by kernel_rfl) (by kernel_rfl) (fun _ _ _ h => h) (Or.inl ⟨by rfl, fun wS hSw => ?hyB13⟩) (by assumption) ?restB13
          case hyB13 => (obtain ⟨⟨s0, s1, s2, s3, s4, s5⟩, s6, s7⟩ := hSw; go_simp; first | done | with_reducible rfl)
          try simp only [Act.put, List.setIfInBounds_toArray, List.set_cons_zero, List.set_cons_succ]
          refine take_dst (some 59) (i := 14) (v := ?vB14) rfl rfl (by kernel_rfl) (by kernel_rfl) (by kernel_rfl) (fun _ _ _ h => h) (Or.inl ⟨by rfl, fun wS hSw => ?hyB14⟩) (by assumption) ?restB14
          case hyB14 => (obtain ⟨⟨s0, s1, s2, s3, s4, s5⟩, s6, s7⟩ := hSw; go_simp; first | done | with_reducible rfl)
          try simp only [Act.put, List.setIfInBounds_toArray, List.set_cons_zero, List.set_cons_succ]
          refine take_dst (some 60) (i := 15) (v := ?vB15) rfl rfl (by kernel_rfl) (by kernel_rfl) (by kernel_rfl) (fun _ _ _ h => h) (Or.inl ⟨by rfl, fun wS hSw => ?hyB15⟩) (by assumption) ?restB15
          case hyB15 => (obtain ⟨⟨s0, s1, s2, s3, s4, s5⟩, s6, s7⟩ := hSw; go_simp; first | done | with_reducible rfl)
          try simp only [Act.put, List.setIfInBounds_toArray, List.set_cons_zero, List.set_cons_succ]
          refine take_dst (some 61) (i := 16) (v := ?vB16) rfl rfl (by kernel_rfl) (by kernel_rfl) (by kernel_rfl) (fun _ _ _ h => h) (Or.inl ⟨by rfl, fun wS hSw => ?hyB16⟩) (by assumption) ?restB16
          case hyB16 => (obtain ⟨⟨s0, s1, s2, s3, s4, s5⟩, s6, s7⟩ := hSw; go_simp; first | done | with_reducible rfl)
          try simp only [Act.put, List.setIfInBounds_toArray, List.set_cons_zero, List.set_cons_succ]
          refine take_dst (some 62) (i := 17) (v := ?vB17) rfl rfl (by kernel_rfl) (by kernel_rfl) (by kernel_rfl) (fun _ _ _ h => h) (Or.inl ⟨by rfl, fun wS hSw => ?hyB17⟩) (by assumption) ?restB17
          case hyB17 => (obtain ⟨⟨s0, s1, s2, s3, s4, s5⟩, s6, s7⟩ := hSw; go_simp; first | done | with_reducible rfl)
          try simp only [Act.put, List.setIfInBounds_toArray, List.set_cons_zero, List.set_cons_succ]
          refine take_dst (some 63) (i := 18) (v := ?vB18) rfl rfl (by kernel_rfl) (by kernel_rfl) (by kernel_rfl) (fun _ _ _ h => h) (Or.inl ⟨by rfl, fun wS hSw => ?hyB18⟩) (by assumption) ?restB18
          case hyB18 => (obtain ⟨⟨s0, s1, s2, s3, s4, s5⟩, s6, s7⟩ := hSw; go_simp; first | done | with_reducible rfl)
          try simp only [Act.put, List.setIfInBounds_toArray, List.set_cons_zero, List.set_cons_succ]
          refine take_dst (some 64) (i := 19) (v := ?vB19) rfl rfl (by kernel_rfl) (by kernel_rfl) (by kernel_rfl) (fun _ _ _ h => h) (Or.inl ⟨by rfl, fun wS hSw => ?hyB19⟩) (by assumption) ?restB19
          case hyB19 => (obtain ⟨⟨s0, s1, s2, s3, s4, s5⟩, s6, s7⟩ := hSw; go_simp; first | done | with_reducible rfl)
          try simp only [Act.put, List.setIfInBounds_toArray, List.set_cons_zero, List.set_cons_succ]
          refine take_dst (some 65) (i := 20) (v := ?vB20) rfl rfl (by kernel_rfl) (by kernel_rfl) (by kernel_rfl) (fun _ _ _ h => h) (Or.inl ⟨by rfl, fun wS hSw => ?hyB20⟩) (by assumption) ?restB20
          case hyB20 => (obtain ⟨⟨s0, s1, s2, s3, s4, s5⟩, s6, s7⟩ := hSw; go_simp; first | done | with_reducible rfl)
          try simp only [Act.put, List.setIfInBounds_toArray, List.set_cons_zero, List.set_cons_succ]
          refine take_dst (some 66) (i := 21) (v := ?vB21) rfl rfl (by kernel_rfl) (by kernel_rfl) (by kernel_rfl) (fun _ _ _ h => h) (Or.inl ⟨by rfl, fun wS hSw => ?hyB21⟩) (by assumption) ?restB21
          case hyB21 => (obtain ⟨⟨s0, s1, s2, s3, s4, s5⟩, s6, s7⟩ := hSw; go_simp; first | done | with_reducible rfl)
          try simp only [Act.put, List.setIfInBounds_toArray, List.set_cons_zero, List.set_cons_succ]
          refine take_dst (some 67) (i := 22) (v := ?vB22) rfl rfl (by kernel_rfl) (by kernel_rfl) (by kernel_rfl) (fun _ _ _ h => h) (Or.inl ⟨by rfl, fun wS hSw => ?hyB22⟩) (by assumption) ?restB22
          case hyB22 => (obtain ⟨⟨s0, s1, s2, s3, s4, s5⟩, s6, s7⟩ := hSw; go_simp; first | done | with_reducible rfl)
          try simp only [Act.put, List.setIfInBounds_toArray, List.set_cons_zero, List.set_cons_succ]
          refine take_dst (some 68) (i := 23) (v := undef) rfl rfl (by kernel_rfl) (by kernel_rfl) (by kernel_rfl) (fun _ _ _ h => h) (Or.inr ⟨by rfl, rfl⟩) (by assumption) ?restB23
          try simp only [Act.put, List.setIfInBounds_toArray, List.set_cons_zero, List.set_cons_succ]
          refine take_dst (some 69) (i := 24) (v := undef) rfl rfl (by kernel_rfl) (by kernel_rfl) (by kernel_rfl) (fun _ _ _ h => h) (Or.inr ⟨by rfl, rfl⟩) (by assumption) ?restB24
          try simp only [Act.put, List.setIfInBounds_toArray, List.set_cons_zero, List.set_cons_succ]
          refine take_dst (some 70) (i := 25) (v := undef) rfl rfl (by kernel_rfl) (by kernel_rfl) (by kernel_rfl) (fun _ _ _ h => h) (Or.inr ⟨by rfl, rfl⟩) (by assumption) ?restB25
          try simp only [Act.put, List.setIfInBounds_toArray, List.set_cons_zero, List.set_cons_succ]
          refine take_dst (some 71) (i := 26) (v := undef) rfl rfl (by kernel_rfl) (by kernel_rfl) (by kernel_rfl) (fun _ _ _ h => h) (Or.inr ⟨by rfl, rfl⟩) (by assumption) ?restB26
          try simp only [Act.put, List.setIfInBounds_toArray, List.set_cons_zero, List.set_cons_succ]
          refine take_dst (some 72) (i := 27) (v := undef) rfl rfl (by kernel_rfl) (by kernel_rfl) (by kernel_rfl) (fun _ _ _ h => h) (Or.inr ⟨by rfl, rfl⟩) (by assumption) ?restB27
          try simp only [Act.put, List.setIfInBounds_toArray, List.set_cons_zero, List.set_cons_succ]
          refine take_dst (some 73) (i := 28) (v := undef) rfl rfl (by kernel_rfl) (by kernel_rfl) (by kernel_rfl) (fun _ _ _ h => h) (Or.inr ⟨by rfl, rfl⟩) (by assumption) ?restB28
          try simp only [Act.put, List.setIfInBounds_toArray, List.set_cons_zero, List.set_cons_succ]
          refine take_dst (some 74) (i := 29) (v := undef) rfl rfl (by kernel_rfl) (by kernel_rfl) (by kernel_rfl) (fun _ _ _ h => h) (Or.inr ⟨by rfl, rfl⟩) (by assumption) ?restB29
          try simp only [Act.put, List.setIfInBounds_toArray, List.set_cons_zero, List.set_cons_succ]
          refine take_dst (some 75) (i := 30) (v := undef) rfl rfl (by kernel_rfl) (by kernel_rfl) (by kernel_rfl) (fun _ _ _ h => h) (Or.inr ⟨by rfl, rfl⟩) (by assumption) ?restB30
          try simp only [Act.put, List.setIfInBounds_toArray, List.set_cons_zero, List.set_cons_succ]
          refine take_dst (some 76) (i := 31) (v := undef) rfl rfl (by kernel_rfl) (by kernel_rfl) (by kernel_rfl) (fun _ _ _ h => h) (Or.inr ⟨by rfl, rfl⟩) (by assumption) ?restB31
          try simp only [Act.put, List.setIfInBounds_toArray, List.set_cons_zero, List.set_cons_succ]
          refine take_dst (some 77) (i := 32) (v := ?vB32) rfl rfl (by kernel_rfl) (by kernel_rfl) (by kernel_rfl) (fun _ _ _ h => h) (Or.inl ⟨by rfl, fun wS hSw => ?hyB32⟩) (by assumption) ?restB32
          case hyB32 => (obtain ⟨⟨s0, s1, s2, s3, s4, s5⟩, s6, s7⟩ := hSw; go_simp; first | done | with_reducible rfl)
          try simp only [Act.put, List.setIfInBounds_toArray, List.set_cons_zero, List.set_cons_succ]
          refine take_dst (some 78) (i := 33) (v := ?vB33) rfl rfl (by kernel_rfl) (by kernel_rfl) (by kernel_rfl) (fun _ _ _ h => h) (Or.inl ⟨by rfl, fun wS hSw => ?hyB33⟩) (by assumption) ?restB33
          case hyB33 => (obtain ⟨⟨s0, s1, s2, s3, s4, s5⟩, s6, s7⟩ := hSw; go_simp; first | done | with_reducible rfl)
          try simp only [Act.put, List.setIfInBounds_toArray, List.set_cons_zero, List.set_cons_succ]
          refine take_dst (some 79) (i := 34) (v := ?vB34) rfl rfl (by kernel_rfl) (by kernel_rfl) (by kernel_rfl) (fun _ _ _ h => h) (Or.inl ⟨by rfl, fun wS hSw => ?hyB34⟩) (by assumption) ?restB34
          case hyB34 => (obtain ⟨⟨s0, s1, s2, s3, s4, s5⟩, s6, s7⟩ := hSw; go_simp; first | done | with_reducible rfl)
          try simp only [Act.put, List.setIfInBounds_toArray, List.set_cons_zero, List.set_cons_succ]
          refine take_dst (some 80) (i := 35) (v := ?vB35) rfl rfl (by kernel_rfl) (by kernel_rfl) (by kernel_rfl) (fun _ _ _ h => h) (Or.inl ⟨by rfl, fun wS hSw => ?hyB35⟩) (by assumption) ?restB35
          case hyB35 => (obtain ⟨⟨s0, s1, s2, s3, s4, s5⟩, s6, s7⟩ := hSw; go_simp; first | done | with_reducible rfl)
          try simp only [Act.put, List.setIfInBounds_toArray, List.set_cons_zero, List.set_cons_succ]
          refine take_dst (some 81) (i := 36) (v := ?vB36) rfl rfl (by kernel_rfl) (by kernel_rfl) (by kernel_rfl) (fun _ _ _ h => h) (Or.inl ⟨by rfl, fun wS hSw => ?hyB36⟩) (by assumption) ?restB36
          case hyB36 => (obtain ⟨⟨s0, s1, s2, s3, s4, s5⟩, s6, s7⟩ := hSw; go_simp; first | done | with_reducible rfl)
          try simp only [Act.put, List.setIfInBounds_toArray, List.set_cons_zero, List.set_cons_succ]
          refine wpAnyH_ready (rs := [37]) (by kernel_rfl) (by simp) ?_
          refine AllReadyH.cons rfl (fun K hK => ?_) AllReadyH.nil
          go_simp
          refine (chk_ok 4 3 a _ three Hsa.out HVa.out).mono ?_
          rintro e w7 ⟨rfl, hb7⟩
          have hbS2 : Below w1.heap.size w1 w7 := below_undrew' hb7
          refine hK.out _ _ ⟨(RpAt.ext (RpAt.of_cb HAB.out) hbS2).six, cell_ext hbS2 HP.out.c0, cell_ext hbS2 HP.out.c1⟩ (fun hHeld => ?_)
          clear hK K
          try simp only [Act.put, List.setIfInBounds_toArray, List.set_cons_zero, List.set_cons_succ]
          refine take_dst (some 83) (i := 38) (v := ?vB38) rfl rfl (by kernel_rfl) (by kernel_rfl) (by kernel_rfl) (fun _ _ _ h => h) (Or.inl ⟨by rfl, fun wS hSw => ?hyB38⟩) (by assumption) ?restB38
          case hyB38 => (obtain ⟨⟨s0, s1, s2, s3, s4, s5⟩, s6, s7⟩ := hSw; go_simp; first | done | with_reducible rfl)
          try simp only [Act.put, List.setIfInBounds_toArray, List.set_cons_zero, List.set_cons_succ]
          refine take_dst (some 84) (i := 39) (v := ?vB39) rfl rfl (by kernel_rfl) (by kernel_rfl) (by kernel_rfl) (fun _ _ _ h => h) (Or.inl ⟨by rfl, fun wS hSw => ?hyB39⟩) (by assumption) ?restB39
          case hyB39 => (obtain ⟨⟨s0, s1, s2, s3, s4, s5⟩, s6, s7⟩ := hSw; go_simp; first | done | with_reducible rfl)
          try simp only [Act.put, List.setIfInBounds_toArray, List.set_cons_zero, List.set_cons_succ]
          refine wpAnyH_done (by kernel_rfl) ?_ _
          refine NoPanic.normal ?_
          have HBn := Lib.hid (below_ext HBz.out hbS2)
          clear tk0 tk1 tjj tjj' e2 t1 t2
          have HB2 := HBn
          have HAB2 := Lib.hid (CB.ext HAB.out hbS2)
          have HC2 := Lib.hid (HC1.out.ext hbS2)
          clear hbS hbS2 hb7 hHeld
          generalize hw7 : w7 = w8 at *
          clear hw7
          obtain ⟨a0, a1, a2, a3, a4, a5⟩ := RpAt.of_cb HAB2.out
          obtain ⟨r0, r1, r2, r3, r4, r5⟩ := RpAt.of_cb HC2.out
          rcases Hst.out with ⟨hk, hn⟩ | ⟨hk, rfl, hn⟩
          · have hkl : k < l.length := (List.getElem?_eq_some_iff.1 hk).1
            have tk : decide ((k : Int) < (l.length : Int)) = true := by simp; omega
            have tk' : (k : Int) < (l.length : Int) := by omega
            obtain ⟨bl, ol, rfl, hatl⟩ := (HL.out.ext (below_ext H4.out HB2.out)).at hkl
            obtain ⟨l0, l1, l2, l3, l4, l5⟩ := hatl k a hk
            have heq : ∀ w : World, (Op.equalIn 10000 23 (.agg #[.int .i64 a.st, .int .i64 a.no, .int .i64 a.mi, .int .i64 a.ar, .string a.cl, .int .i64 a.vo]) (.agg #[.int .i64 a.st, .int .i64 a.no, .int .i64 a.mi, .int .i64 a.ar, .string a.cl, .int .i64 a.vo])).run Try.prog w = .ok true w := fun w => by rw [← (rpEq_iff a a).2 rfl]; exact eq_rp a a w
            have Hn := Lib.hid hn
            clear hatl hk hn
            go_upto_region 14 with fail
            go_quiet (fail)
            go_wp2_with fail
            go_roundw
            case rel => exact ⟨i + 1, by omega, by rw [Hn.out]; go_num, by rw [Hn.out], by go_num, below_drewN'' HB2.out _⟩
            case measure => simp [intOf]; omega
          · have heqr : ∀ w : World, (Op.equalIn 10000 23 (.agg #[.int .i64 r.st, .int .i64 r.no, .int .i64 r.mi, .int .i64 r.ar, .string r.cl, .int .i64 r.vo]) (.agg #[.int .i64 r.st, .int .i64 r.no, .int .i64 r.mi, .int .i64 r.ar, .string r.cl, .int .i64 r.vo])).run Try.prog w = .ok true w := fun w => by rw [← (rpEq_iff r r).2 rfl]; exact eq_rp r r w
            have Hn := Lib.hid hn
            clear hn
            go_upto_region 14 with fail
            rcases hk with hk | ⟨y, hk, hne⟩
            · have hkl : ¬ k < l.length := by intro h; rw [List.getElem?_eq_getElem h] at hk; cases hk
              have tk : decide ((k : Int) < (l.length : Int)) = false := by simp; omega
              clear hk
              go_quiet (fail)
              have HB3 := Lib.hid (below_drewN'' HB2.out nq)
              have HC3 := Lib.hid (HC2.out.keep (w' := w8.drewN nq) rfl)
              have HA3 := Lib.hid (HAB2.out.keep (w' := w8.drewN nq) rfl)
              clear a0 a1 a2 a3 a4 a5 r0 r1 r2 r3 r4 r5
              generalize w8.drewN nq = w9 at *
              obtain ⟨a0, a1, a2, a3, a4, a5⟩ := RpAt.of_cb HA3.out
              obtain ⟨r0, r1, r2, r3, r4, r5⟩ := RpAt.of_cb HC3.out
              go_wp2_with fail
              go_roundw
              case rel => exact ⟨i + 1, by omega, by rw [Hn.out], by rw [Hn.out]; go_num, by go_num, HB3.out⟩
              case measure => simp [intOf]; omega
            · have hkl : k < l.length := (List.getElem?_eq_some_iff.1 hk).1
              have tk : decide ((k : Int) < (l.length : Int)) = true := by simp; omega
              have tk' : (k : Int) < (l.length : Int) := by omega
              obtain ⟨bl, ol, rfl, hatl⟩ := (HL.out.ext (below_ext H4.out HB2.out)).at hkl
              obtain ⟨l0, l1, l2, l3, l4, l5⟩ := hatl k y hk
              have heq : ∀ w : World, (Op.equalIn 10000 23 (.agg #[.int .i64 y.st, .int .i64 y.no, .int .i64 y.mi, .int .i64 y.ar, .string y.cl, .int .i64 y.vo]) (.agg #[.int .i64 r.st, .int .i64 r.no, .int .i64 r.mi, .int .i64 r.ar, .string r.cl, .int .i64 r.vo])).run Try.prog w = .ok false w := fun w => by
                have : rpEq y r = false := by
                  cases hq : rpEq y r with
                  | false => rfl
                  | true => exact absurd ((rpEq_iff y r).1 hq) hne
                rw [← this]; exact eq_rp y r w
              clear hatl hk hne
              go_quiet (fail)
              have HB3 := Lib.hid (below_drewN'' HB2.out nq)
              have HC3 := Lib.hid (HC2.out.keep (w' := w8.drewN nq) rfl)
              have HA3 := Lib.hid (HAB2.out.keep (w' := w8.drewN nq) rfl)
              clear a0 a1 a2 a3 a4 a5 r0 r1 r2 r3 r4 r5 l0 l1 l2 l3 l4 l5
              generalize w8.drewN nq = w9 at *
              obtain ⟨a0, a1, a2, a3, a4, a5⟩ := RpAt.of_cb HA3.out
              obtain ⟨r0, r1, r2, r3, r4, r5⟩ := RpAt.of_cb HC3.out
              go_wp2_with fail
              go_roundw
              case rel => exact ⟨i + 1, by omega, by rw [Hn.out], by rw [Hn.out]; go_num, by go_num, HB3.out⟩
              case measure => simp [intOf]; omega
        · have hno : p.st = a.st ∧ p.no < a.no := by omega
          have t1 : decide (a.st < p.st) = false := by simp; omega
          have t2 : (p.st == a.st) = true := by rw [beq_iff_eq]; omega
          have t3 : decide (a.no ≤ p.no) = false := by simp; omega
          clear hst hcm hno
          refine wp_region_noPanic ?_
          refine wp_region_held_drew (S := fun w' => (w'.cell? ⟨wr.heap.size, 0, none⟩ = some (.int .i64 a.st) ∧ w'.cell? ⟨wr.heap.size, 1, none⟩ = some (.int .i64 a.no) ∧ w'.cell? ⟨wr.heap.size, 2, none⟩ = some (.int .i64 a.mi) ∧ w'.cell? ⟨wr.heap.size, 3, none⟩ = some (.int .i64 a.ar) ∧ w'.cell? ⟨wr.heap.size, 4, none⟩ = some (.string a.cl) ∧ w'.cell? ⟨wr.heap.size, 5, none⟩ = some (.int .i64 a.vo)) ∧ w'.cell? ⟨b', off + j * 6, none⟩ = some (.int .i64 p.st) ∧ w'.cell? ⟨b', off + j * 6 + 1, none⟩ = some (.int .i64 p.no)) (by kernel_rfl) ⟨(RpAt.ext (RpAt.of_cb HAB.out) hbS).six, cell_ext hbS HP.out.c0, cell_ext hbS HP.out.c1⟩ (fun hHeld => ?_)
          refine take_dst (some 45) (i := 0) (v := ?vC0) rfl rfl (by kernel_rfl) (by kernel_rfl) (by kernel_rfl) (fun _ _ _ h => h) (Or.inl ⟨by rfl, fun wS hSw => ?hyC0⟩) (by assumption) ?restC0
          case hyC0 => (obtain ⟨⟨s0, s1, s2, s3, s4, s5⟩, s6, s7⟩ := hSw; go_simp; first | done | with_reducible rfl)
          try simp only [Act.put, List.setIfInBounds_toArray, List.set_cons_zero, List.set_cons_succ]
          refine take_dst (some 46) (i := 1) (v := ?vC1) rfl rfl (by kernel_rfl) (by kernel_rfl) (by kernel_rfl) (fun _ _ _ h => h) (Or.inl ⟨by rfl, fun wS hSw => ?hyC1⟩) (by assumption) ?restC1
          case hyC1 => (obtain ⟨⟨s0, s1, s2, s3, s4, s5⟩, s6, s7⟩ := hSw; go_simp; first | done | with_reducible rfl)
          try simp only [Act.put, List.setIfInBounds_toArray, List.set_cons_zero, List.set_cons_succ]
          refine take_dst (some 47) (i := 2) (v := ?vC2) rfl rfl (by kernel_rfl) (by kernel_rfl) (by kernel_rfl) (fun _ _ _ h => h) (Or.inl ⟨by rfl, fun wS hSw => ?hyC2⟩) (by assumption) ?restC2
          case hyC2 => (obtain ⟨⟨s0, s1, s2, s3, s4, s5⟩, s6, s7⟩ := hSw; go_simp; first | done | with_reducible rfl)
          try simp only [Act.put, List.setIfInBounds_toArray, List.set_cons_zero, List.set_cons_succ]
          refine take_dst (some 48) (i := 3) (v := ?vC3) rfl rfl (by kernel_rfl) (by kernel_rfl) (by kernel_rfl) (fun _ _ _ h => h) (Or.inl ⟨by rfl, fun wS hSw => ?hyC3⟩) (by assumption) ?restC3
          case hyC3 => (obtain ⟨⟨s0, s1, s2, s3, s4, s5⟩, s6, s7⟩ := hSw; go_simp; first | done | with_reducible rfl)
          try simp only [Act.put, List.setIfInBounds_toArray, List.set_cons_zero, List.set_cons_succ]
          refine take_dst (some 49) (i := 4) (v := ?vC4) rfl rfl (by kernel_rfl) (by kernel_rfl) (by kernel_rfl) (fun _ _ _ h => h) (Or.inl ⟨by rfl, fun wS hSw => ?hyC4⟩) (by assumption) ?restC4
          case hyC4 => (obtain ⟨⟨s0, s1, s2, s3, s4, s5⟩, s6, s7⟩ := hSw; go_simp; first | done | with_reducible rfl)
          try simp only [Act.put, List.setIfInBounds_toArray, List.set_cons_zero, List.set_cons_succ]
          refine take_dst (some 50) (i := 5) (v := ?vC5) rfl rfl (by kernel_rfl) (by kernel_rfl) (by kernel_rfl) (fun _ _ _ h => h) (Or.inl ⟨by rfl, fun wS hSw => ?hyC5⟩) (by assumption) ?restC5
          case hyC5 => (obtain ⟨⟨s0, s1, s2, s3, s4, s5⟩, s6, s7⟩ := hSw; go_simp; first | done | with_reducible rfl)
          try simp only [Act.put, List.setIfInBounds_toArray, List.set_cons_zero, List.set_cons_succ]
          refine take_dst (some 51) (i := 6) (v := ?vC6) rfl rfl (by kernel_rfl) (by kernel_rfl) (by kernel_rfl) (fun _ _ _ h => h) (Or.inl ⟨by rfl, fun wS hSw => ?hyC6⟩) (by assumption) ?restC6
          case hyC6 => (obtain ⟨⟨s0, s1, s2, s3, s4, s5⟩, s6, s7⟩ := hSw; go_simp; first | done | with_reducible rfl)
          try simp only [Act.put, List.setIfInBounds_toArray, List.set_cons_zero, List.set_cons_succ]
          refine take_dst (some 52) (i := 7) (v := ?vC7) rfl rfl (by kernel_rfl) (by kernel_rfl) (by kernel_rfl) (fun _ _ _ h => h) (Or.inl ⟨by rfl, fun wS hSw => ?hyC7⟩) (by assumption) ?restC7
          case hyC7 => (obtain ⟨⟨s0, s1, s2, s3, s4, s5⟩, s6, s7⟩ := hSw; go_simp; first | done | with_reducible rfl)
          try simp only [Act.put, List.setIfInBounds_toArray, List.set_cons_zero, List.set_cons_succ]
          refine take_dst (some 53) (i := 8) (v := ?vC8) rfl rfl (by kernel_rfl) (by kernel_rfl) (by kernel_rfl) (fun _ _ _ h => h) (Or.inl ⟨by rfl, fun wS hSw => ?hyC8⟩) (by assumption) ?restC8
          case hyC8 => (obtain ⟨⟨s0, s1, s2, s3, s4, s5⟩, s6, s7⟩ := hSw; go_simp; first | done | with_reducible rfl)
          try simp only [Act.put, List.setIfInBounds_toArray, List.set_cons_zero, List.set_cons_succ]
          refine take_dst (some 54) (i := 9) (v := ?vC9) rfl rfl (by kernel_rfl) (by kernel_rfl) (by kernel_rfl) (fun _ _ _ h => h) (Or.inl ⟨by rfl, fun wS hSw => ?hyC9⟩) (by assumption) ?restC9
          case hyC9 => (obtain ⟨⟨s0, s1, s2, s3, s4, s5⟩, s6, s7⟩ := hSw; go_simp; first | done | with_reducible rfl)
          try simp only [Act.put, List.setIfInBounds_toArray, List.set_cons_zero, List.set_cons_succ]
          refine take_dst (some 55) (i := 10) (v := ?vC10) rfl rfl (by kernel_rfl) (by kernel_rfl) (by kernel_rfl) (fun _ _ _ h => h) (Or.inl ⟨by rfl, fun wS hSw => ?hyC10⟩) (by assumption) ?restC10
          case hyC10 => (obtain ⟨⟨s0, s1, s2, s3, s4, s5⟩, s6, s7⟩ := hSw; go_simp; first | done | with_reducible rfl)
          try simp only [Act.put, List.setIfInBounds_toArray, List.set_cons_zero, List.set_cons_succ]
          refine take_dst (some 56) (i := 11) (v := ?vC11) rfl rfl (by kernel_rfl) (by kernel_rfl) (by kernel_rfl) (fun _ _ _ h => h) (Or.inl ⟨by rfl, fun wS hSw => ?hyC11⟩) (by assumption) ?restC11
          case hyC11 => (obtain ⟨⟨s0, s1, s2, s3, s4, s5⟩, s6, s7⟩ := hSw; go_simp; first | done | with_reducible rfl)
          try simp only [Act.put, List.setIfInBounds_toArray, List.set_cons_zero, List.set_cons_succ]
          refine take_dst (some 57) (i := 12) (v := ?vC12) rfl rfl (by kernel_rfl) (by kernel_rfl) (by kernel_rfl) (fun _ _ _ h => h) (Or.inl ⟨by rfl, fun wS hSw => ?hyC12⟩) (by assumption) ?restC12
          case hyC12 => (obtain ⟨⟨s0, s1, s2, s3, s4, s5⟩, s6, s7⟩ := hSw; go_simp; first | done | with_reducible rfl)
          try simp only [Act.put, List.setIfInBounds_toArray, List.set_cons_zero, List.set_cons_succ]
          refine take_dst (some 58) (i := 13) (v := ?vC13) rfl rfl (by kernel_rfl) (by kernel_rfl) (by kernel_rfl) (fun _ _ _ h => h) (Or.inl ⟨by rfl, fun wS hSw => ?hyC13⟩) (by assumption) ?restC13
          case hyC13 => (obtain ⟨⟨s0, s1, s2, s3, s4, s5⟩, s6, s7⟩ := hSw; go_simp; first | done | with_reducible rfl)
          try simp only [Act.put, List.setIfInBounds_toArray, List.set_cons_zero, List.set_cons_succ]
          refine take_dst (some 59) (i := 14) (v := ?vC14) rfl rfl (by kernel_rfl) (by kernel_rfl) (by kernel_rfl) (fun _ _ _ h => h) (Or.inl ⟨by rfl, fun wS hSw => ?hyC14⟩) (by assumption) ?restC14
          case hyC14 => (obtain ⟨⟨s0, s1, s2, s3, s4, s5⟩, s6, s7⟩ := hSw; go_simp; first | done | with_reducible rfl)
          try simp only [Act.put, List.setIfInBounds_toArray, List.set_cons_zero, List.set_cons_succ]
          refine take_dst (some 60) (i := 15) (v := ?vC15) rfl rfl (by kernel_rfl) (by kernel_rfl) (by kernel_rfl) (fun _ _ _ h => h) (Or.inl ⟨by rfl, fun wS hSw => ?hyC15⟩) (by assumption) ?restC15
          case hyC15 => (obtain ⟨⟨s0, s1, s2, s3, s4, s5⟩, s6, s7⟩ := hSw; go_simp; first | done | with_reducible rfl)
          try simp only [Act.put, List.setIfInBounds_toArray, List.set_cons_zero, List.set_cons_succ]
          refine take_dst (some 61) (i := 16) (v := ?vC16) rfl rfl (by kernel_rfl) (by kernel_rfl) (by kernel_rfl) (fun _ _ _ h => h) (Or.inl ⟨by rfl, fun wS hSw => ?hyC16⟩) (by assumption) ?restC16
          case hyC16 => (obtain ⟨⟨s0, s1, s2, s3, s4, s5⟩, s6, s7⟩ := hSw; go_simp; first | done | with_reducible rfl)
          try simp only [Act.put, List.setIfInBounds_toArray, List.set_cons_zero, List.set_cons_succ]
          refine take_dst (some 62) (i := 17) (v := ?vC17) rfl rfl (by kernel_rfl) (by kernel_rfl) (by kernel_rfl) (fun _ _ _ h => h) (Or.inl ⟨by rfl, fun wS hSw => ?hyC17⟩) (by assumption) ?restC17
          case hyC17 => (obtain ⟨⟨s0, s1, s2, s3, s4, s5⟩, s6, s7⟩ := hSw; go_simp; first | done | with_reducible rfl)
          try simp only [Act.put, List.setIfInBounds_toArray, List.set_cons_zero, List.set_cons_succ]
          refine take_dst (some 63) (i := 18) (v := ?vC18) rfl rfl (by kernel_rfl) (by kernel_rfl) (by kernel_rfl) (fun _ _ _ h => h) (Or.inl ⟨by rfl, fun wS hSw => ?hyC18⟩) (by assumption) ?restC18
          case hyC18 => (obtain ⟨⟨s0, s1, s2, s3, s4, s5⟩, s6, s7⟩ := hSw; go_simp; first | done | with_reducible rfl)
          try simp only [Act.put, List.setIfInBounds_toArray, List.set_cons_zero, List.set_cons_succ]
          refine take_dst (some 64) (i := 19) (v := ?vC19) rfl rfl (by kernel_rfl) (by kernel_rfl) (by kernel_rfl) (fun _ _ _ h => h) (Or.inl ⟨by rfl, fun wS hSw => ?hyC19⟩) (by assumption) ?restC19
          case hyC19 => (obtain ⟨⟨s0, s1, s2, s3, s4, s5⟩, s6, s7⟩ := hSw; go_simp; first | done | with_reducible rfl)
          try simp only [Act.put, List.setIfInBounds_toArray, List.set_cons_zero, List.set_cons_succ]
          refine take_dst (some 65) (i := 20) (v := ?vC20) rfl rfl (by kernel_rfl) (by kernel_rfl) (by kernel_rfl) (fun _ _ _ h => h) (Or.inl ⟨by rfl, fun wS hSw => ?hyC20⟩) (by assumption) ?restC20
          case hyC20 => (obtain ⟨⟨s0, s1, s2, s3, s4, s5⟩, s6, s7⟩ := hSw; go_simp; first | done | with_reducible rfl)
          try simp only [Act.put, List.setIfInBounds_toArray, List.set_cons_zero, List.set_cons_succ]
          refine take_dst (some 66) (i := 21) (v := ?vC21) rfl rfl (by kernel_rfl) (by kernel_rfl) (by kernel_rfl) (fun _ _ _ h => h) (Or.inl ⟨by rfl, fun wS hSw => ?hyC21⟩) (by assumption) ?restC21
          case hyC21 => (obtain ⟨⟨s0, s1, s2, s3, s4, s5⟩, s6, s7⟩ := hSw; go_simp; first | done | with_reducible rfl)
          try simp only [Act.put, List.setIfInBounds_toArray, List.set_cons_zero, List.set_cons_succ]
          refine take_dst (some 67) (i := 22) (v := ?vC22) rfl rfl (by kernel_rfl) (by kernel_rfl) (by kernel_rfl) (fun _ _ _ h => h) (Or.inl ⟨by rfl, fun wS hSw => ?hyC22⟩) (by assumption) ?restC22
          case hyC22 => (obtain ⟨⟨s0, s1, s2, s3, s4, s5⟩, s6, s7⟩ := hSw; go_simp; first | done | with_reducible rfl)
          try simp only [Act.put, List.setIfInBounds_toArray, List.set_cons_zero, List.set_cons_succ]
          refine take_dst (some 68) (i := 23) (v := ?vC23) rfl rfl (by kernel_rfl) (by kernel_rfl) (by kernel_rfl) (fun _ _ _ h => h) (Or.inl ⟨by rfl, fun wS hSw => ?hyC23⟩) (by assumption) ?restC23
          case hyC23 => (obtain ⟨⟨s0, s1, s2, s3, s4, s5⟩, s6, s7⟩ := hSw; go_simp; first | done | with_reducible rfl)
          try simp only [Act.put, List.setIfInBounds_toArray, List.set_cons_zero, List.set_cons_succ]
          refine take_dst (some 69) (i := 24) (v := ?vC24) rfl rfl (by kernel_rfl) (by kernel_rfl) (by kernel_rfl) (fun _ _ _ h => h) (Or.inl ⟨by rfl, fun wS hSw => ?hyC24⟩) (by assumption) ?restC24
          case hyC24 => (obtain ⟨⟨s0, s1, s2, s3, s4, s5⟩, s6, s7⟩ := hSw; go_simp; first | done | with_reducible rfl)
          try simp only [Act.put, List.setIfInBounds_toArray, List.set_cons_zero, List.set_cons_succ]
          refine take_dst (some 70) (i := 25) (v := ?vC25) rfl rfl (by kernel_rfl) (by kernel_rfl) (by kernel_rfl) (fun _ _ _ h => h) (Or.inl ⟨by rfl, fun wS hSw => ?hyC25⟩) (by assumption) ?restC25
          case hyC25 => (obtain ⟨⟨s0, s1, s2, s3, s4, s5⟩, s6, s7⟩ := hSw; go_simp; first | done | with_reducible rfl)
          try simp only [Act.put, List.setIfInBounds_toArray, List.set_cons_zero, List.set_cons_succ]
          refine take_dst (some 71) (i := 26) (v := ?vC26) rfl rfl (by kernel_rfl) (by kernel_rfl) (by kernel_rfl) (fun _ _ _ h => h) (Or.inl ⟨by rfl, fun wS hSw => ?hyC26⟩) (by assumption) ?restC26
          case hyC26 => (obtain ⟨⟨s0, s1, s2, s3, s4, s5⟩, s6, s7⟩ := hSw; go_simp; first | done | with_reducible rfl)
          try simp only [Act.put, List.setIfInBounds_toArray, List.set_cons_zero, List.set_cons_succ]
          refine take_dst (some 72) (i := 27) (v := ?vC27) rfl rfl (by kernel_rfl) (by kernel_rfl) (by kernel_rfl) (fun _ _ _ h => h) (Or.inl ⟨by rfl, fun wS hSw => ?hyC27⟩) (by assumption) ?restC27
          case hyC27 => (obtain ⟨⟨s0, s1, s2, s3, s4, s5⟩, s6, s7⟩ := hSw; go_simp; first | done | with_reducible rfl)
          try simp only [Act.put, List.setIfInBounds_toArray, List.set_cons_zero, List.set_cons_succ]
          refine take_dst (some 73) (i := 28) (v := ?vC28) rfl rfl (by kernel_rfl) (by kernel_rfl) (by kernel_rfl) (fun _ _ _ h => h) (Or.inl ⟨by rfl, fun wS hSw => ?hyC28⟩) (by assumption) ?restC28
          case hyC28 => (obtain ⟨⟨s0, s1, s2, s3, s4, s5⟩, s6, s7⟩ := hSw; go_simp; first | done | with_reducible rfl)
          try simp only [Act.put, List.setIfInBounds_toArray, List.set_cons_zero, List.set_cons_succ]
          refine take_dst (some 74) (i := 29) (v := ?vC29) rfl rfl (by kernel_rfl) (by kernel_rfl) (by kernel_rfl) (fun _ _ _ h => h) (Or.inl ⟨by rfl, fun wS hSw => ?hyC29⟩) (by assumption) ?restC29
          case hyC29 => (obtain ⟨⟨s0, s1, s2, s3, s4, s5⟩, s6, s7⟩ := hSw; go_simp; first | done | with_reducible rfl)
          try simp only [Act.put, List.setIfInBounds_toArray, List.set_cons_zero, List.set_cons_succ]
          refine take_dst (some 75) (i := 30) (v := ?vC30) rfl rfl (by kernel_rfl) (by kernel_rfl) (by kernel_rfl) (fun _ _ _ h => h) (Or.inl ⟨by rfl, fun wS hSw => ?hyC30⟩) (by assumption) ?restC30
          case hyC30 => (obtain ⟨⟨s0, s1, s2, s3, s4, s5⟩, s6, s7⟩ := hSw; go_simp; first | done | with_reducible rfl)
          try simp only [Act.put, List.setIfInBounds_toArray, List.set_cons_zero, List.set_cons_succ]
          refine take_dst (some 76) (i := 31) (v := ?vC31) rfl rfl (by kernel_rfl) (by kernel_rfl) (by kernel_rfl) (fun _ _ _ h => h) (Or.inl ⟨by rfl, fun wS hSw => ?hyC31⟩) (by assumption) ?restC31
          case hyC31 => (obtain ⟨⟨s0, s1, s2, s3, s4, s5⟩, s6, s7⟩ := hSw; go_simp; first | done | with_reducible rfl)
          try simp only [Act.put, List.setIfInBounds_toArray, List.set_cons_zero, List.set_cons_succ]
          refine take_dst (some 77) (i := 32) (v := ?vC32) rfl rfl (by kernel_rfl) (by kernel_rfl) (by kernel_rfl) (fun _ _ _ h => h) (Or.inl ⟨by rfl, fun wS hSw => ?hyC32⟩) (by assumption) ?restC32
          case hyC32 => (obtain ⟨⟨s0, s1, s2, s3, s4, s5⟩, s6, s7⟩ := hSw; go_simp; first | done | with_reducible rfl)
          try simp only [Act.put, List.setIfInBounds_toArray, List.set_cons_zero, List.set_cons_succ]
          refine take_dst (some 78) (i := 33) (v := ?vC33) rfl rfl (by kernel_rfl) (by kernel_rfl) (by kernel_rfl) (fun _ _ _ h => h) (Or.inl ⟨by rfl, fun wS hSw => ?hyC33⟩) (by assumption) ?restC33
          case hyC33 => (obtain ⟨⟨s0, s1, s2, s3, s4, s5⟩, s6, s7⟩ := hSw; go_simp; first | done | with_reducible rfl)
          try simp only [Act.put, List.setIfInBounds_toArray, List.set_cons_zero, List.set_cons_succ]
          refine take_dst (some 79) (i := 34) (v := ?vC34) rfl rfl (by kernel_rfl) (by kernel_rfl) (by kernel_rfl) (fun _ _ _ h => h) (Or.inl ⟨by rfl, fun wS hSw => ?hyC34⟩) (by assumption) ?restC34
          case hyC34 => (obtain ⟨⟨s0, s1, s2, s3, s4, s5⟩, s6, s7⟩ := hSw; go_simp; first | done | with_reducible rfl)
          try simp only [Act.put, List.setIfInBounds_toArray, List.set_cons_zero, List.set_cons_succ]
          refine take_dst (some 80) (i := 35) (v := ?vC35) rfl rfl (by kernel_rfl) (by kernel_rfl) (by kernel_rfl) (fun _ _ _ h => h) (Or.inl ⟨by rfl, fun wS hSw => ?hyC35⟩) (by assumption) ?restC35
          case hyC35 => (obtain ⟨⟨s0, s1, s2, s3, s4, s5⟩, s6, s7⟩ := hSw; go_simp; first | done | with_reducible rfl)
          try simp only [Act.put, List.setIfInBounds_toArray, List.set_cons_zero, List.set_cons_succ]
          refine take_dst (some 81) (i := 36) (v := ?vC36) rfl rfl (by kernel_rfl) (by kernel_rfl) (by kernel_rfl) (fun _ _ _ h => h) (Or.inl ⟨by rfl, fun wS hSw => ?hyC36⟩) (by assumption) ?restC36
          case hyC36 => (obtain ⟨⟨s0, s1, s2, s3, s4, s5⟩, s6, s7⟩ := hSw; go_simp; first | done | with_reducible rfl)
          try simp only [Act.put, List.setIfInBounds_toArray, List.set_cons_zero, List.set_cons_succ]
          refine wpAnyH_ready (rs := [37]) (by kernel_rfl) (by simp) ?_
          refine AllReadyH.cons rfl (fun K hK => ?_) AllReadyH.nil
          go_simp
          refine (chk_ok 4 3 a _ three Hsa.out HVa.out).mono ?_
          rintro e w7 ⟨rfl, hb7⟩
          have hbS2 : Below w1.heap.size w1 w7 := below_undrew' hb7
          refine hK.out _ _ ⟨(RpAt.ext (RpAt.of_cb HAB.out) hbS2).six, cell_ext hbS2 HP.out.c0, cell_ext hbS2 HP.out.c1⟩ (fun hHeld => ?_)
          clear hK K
          try simp only [Act.put, List.setIfInBounds_toArray, List.set_cons_zero, List.set_cons_succ]
          refine take_dst (some 83) (i := 38) (v := ?vC38) rfl rfl (by kernel_rfl) (by kernel_rfl) (by kernel_rfl) (fun _ _ _ h => h) (Or.inl ⟨by rfl, fun wS hSw => ?hyC38⟩) (by assumption) ?restC38
          case hyC38 => (obtain ⟨⟨s0, s1, s2, s3, s4, s5⟩, s6, s7⟩ := hSw; go_simp; first | done | with_reducible rfl)
          try simp only [Act.put, List.setIfInBounds_toArray, List.set_cons_zero, List.set_cons_succ]
          refine take_dst (some 84) (i := 39) (v := ?vC39) rfl rfl (by kernel_rfl) (by kernel_rfl) (by kernel_rfl) (fun _ _ _ h => h) (Or.inl ⟨by rfl, fun wS hSw => ?hyC39⟩) (by assumption) ?restC39
          case hyC39 => (obtain ⟨⟨s0, s1, s2, s3, s4, s5⟩, s6, s7⟩ := hSw; go_simp; first | done | with_reducible rfl)
          try simp only [Act.put, List.setIfInBounds_toArray, List.set_cons_zero, List.set_cons_succ]
          refine wpAnyH_done (by kernel_rfl) ?_ _
          refine NoPanic.normal ?_
          have HBn := Lib.hid (below_ext HBz.out hbS2)
          clear tk0 tk1 tjj tjj' e2 t1 t2 t3
          have HB2 := HBn
          have HAB2 := Lib.hid (CB.ext HAB.out hbS2)
          have HC2 := Lib.hid (HC1.out.ext hbS2)
          clear hbS hbS2 hb7 hHeld
          generalize hw7 : w7 = w8 at *
          clear hw7
          obtain ⟨a0, a1, a2, a3, a4, a5⟩ := RpAt.of_cb HAB2.out
          obtain ⟨r0, r1, r2, r3, r4, r5⟩ := RpAt.of_cb HC2.out
          rcases Hst.out with ⟨hk, hn⟩ | ⟨hk, rfl, hn⟩
          · have hkl : k < l.length := (List.getElem?_eq_some_iff.1 hk).1
            have tk : decide ((k : Int) < (l.length : Int)) = true := by simp; omega
            have tk' : (k : Int) < (l.length : Int) := by omega
            obtain ⟨bl, ol, rfl, hatl⟩ := (HL.out.ext (below_ext H4.out HB2.out)).at hkl
            obtain ⟨l0, l1, l2, l3, l4, l5⟩ := hatl k a hk
            have heq : ∀ w : World, (Op.equalIn 10000 23 (.agg #[.int .i64 a.st, .int .i64 a.no, .int .i64 a.mi, .int .i64 a.ar, .string a.cl, .int .i64 a.vo]) (.agg #[.int .i64 a.st, .int .i64 a.no, .int .i64 a.mi, .int .i64 a.ar, .string a.cl, .int .i64 a.vo])).run Try.prog w = .ok true w := fun w => by rw [← (rpEq_iff a a).2 rfl]; exact eq_rp a a w
            have Hn := Lib.hid hn
            clear hatl hk hn
            go_upto_region 14 with fail
            go_quiet (fail)
            go_wp2_with fail
            go_roundw
            case rel => exact ⟨i + 1, by omega, by rw [Hn.out]; go_num, by rw [Hn.out], by go_num, below_drewN'' HB2.out _⟩
            case measure => simp [intOf]; omega
          · have heqr : ∀ w : World, (Op.equalIn 10000 23 (.agg #[.int .i64 r.st, .int .i64 r.no, .int .i64 r.mi, .int .i64 r.ar, .string r.cl, .int .i64 r.vo]) (.agg #[.int .i64 r.st, .int .i64 r.no, .int .i64 r.mi, .int .i64 r.ar, .string r.cl, .int .i64 r.vo])).run Try.prog w = .ok true w := fun w => by rw [← (rpEq_iff r r).2 rfl]; exact eq_rp r r w
            have Hn := Lib.hid hn
            clear hn
            go_upto_region 14 with fail
            rcases hk with hk | ⟨y, hk, hne⟩
            · have hkl : ¬ k < l.length := by intro h; rw [List.getElem?_eq_getElem h] at hk; cases hk
              have tk : decide ((k : Int) < (l.length : Int)) = false := by simp; omega
              clear hk
              go_quiet (fail)
              have HB3 := Lib.hid (below_drewN'' HB2.out nq)
              have HC3 := Lib.hid (HC2.out.keep (w' := w8.drewN nq) rfl)
              have HA3 := Lib.hid (HAB2.out.keep (w' := w8.drewN nq) rfl)
              clear a0 a1 a2 a3 a4 a5 r0 r1 r2 r3 r4 r5
              generalize w8.drewN nq = w9 at *
              obtain ⟨a0, a1, a2, a3, a4, a5⟩ := RpAt.of_cb HA3.out
              obtain ⟨r0, r1, r2, r3, r4, r5⟩ := RpAt.of_cb HC3.out
              go_wp2_with fail
              go_roundw
              case rel => exact ⟨i + 1, by omega, by rw [Hn.out], by rw [Hn.out]; go_num, by go_num, HB3.out⟩
              case measure => simp [intOf]; omega
            · have hkl : k < l.length := (List.getElem?_eq_some_iff.1 hk).1
              have tk : decide ((k : Int) < (l.length : Int)) = true := by simp; omega
              have tk' : (k : Int) < (l.length : Int) := by omega
              obtain ⟨bl, ol, rfl, hatl⟩ := (HL.out.ext (below_ext H4.out HB2.out)).at hkl
              obtain ⟨l0, l1, l2, l3, l4, l5⟩ := hatl k y hk
              have heq : ∀ w : World, (Op.equalIn 10000 23 (.agg #[.int .i64 y.st, .int .i64 y.no, .int .i64 y.mi, .int .i64 y.ar, .string y.cl, .int .i64 y.vo]) (.agg #[.int .i64 r.st, .int .i64 r.no, .int .i64 r.mi, .int .i64 r.ar, .string r.cl, .int .i64 r.vo])).run Try.prog w = .ok false w := fun w => by
                have : rpEq y r = false := by
                  cases hq : rpEq y r with
                  | false => rfl
                  | true => exact absurd ((rpEq_iff y r).1 hq) hne
                rw [← this]; exact eq_rp y r w
              clear hatl hk hne
              go_quiet (fail)
              have HB3 := Lib.hid (below_drewN'' HB2.out nq)
              have HC3 := Lib.hid (HC2.out.keep (w' := w8.drewN nq) rfl)
              have HA3 := Lib.hid (HAB2.out.keep (w' := w8.drewN nq) rfl)
              clear a0 a1 a2 a3 a4 a5 r0 r1 r2 r3 r4 r5 l0 l1 l2 l3 l4 l5
              generalize w8.drewN nq = w9 at *
              obtain ⟨a0, a1, a2, a3, a4, a5⟩ := RpAt.of_cb HA3.out
              obtain ⟨r0, r1, r2, r3, r4, r5⟩ := RpAt.of_cb HC3.out
              go_wp2_with fail
              go_roundw
              case rel => exact ⟨i + 1, by omega, by rw [Hn.out], by rw [Hn.out]; go_num, by go_num, HB3.out⟩
              case measure => simp [intOf]; omega
    · obtain rfl : i = L.length := by omega
      have tj : decide ((L.length : Int) < (L.length : Int)) = false := by simp
      have hke := kept_end HOK.out
      have hme := Lib.hid (met_end HOK.out)
      obtain ⟨d, hd⟩ : ∃ d : Nat, (if b = true then 1 else 0) = d := ⟨_, rfl⟩
      have Hd := Lib.hid hd
      have bd : (d : Int) ≤ 1 := by rw [← hd]; split <;> simp
      rw [hd] at hke
      rw [hke]
      have H5 := Lib.hid (below_ext H4.out HBw.out)
      have HA5 := Lib.hid (HA4.out.ext HBw.out)
      have HX5 := Lib.hid (HX4.out.ext HBw.out)
      clear hke HX4 H4 HA4 HBw
      go_wp2_with fail
      generalize hw5 : wr = w5 at *
      clear hw5
      go_loopw [11, 107] (fun vm vi wr => MtRel w5 l r vm vi wr) (fun _ vi _ => l.length - (intOf vi).toNat)
      case atStart => exact ⟨0, Nat.zero_le _, rfl, rfl, Below.refl _ _⟩
      case round =>
        obtain ⟨i, hil, rfl, rfl, hbw⟩ := hrel
        have HBw := Lib.hid hbw
        clear hbw
        obtain ⟨m, hm⟩ : ∃ m, ((l.take i).any fun x => rpEq x r) = m := ⟨_, rfl⟩
        have Hm := Lib.hid hm
        rw [hm]
        clear hm
        by_cases hlt : i < l.length
        · have tj : decide ((i : Int) < (l.length : Int)) = true := by simp; omega
          have tj' : (i : Int) < (l.length : Int) := by omega
          obtain ⟨a, ha⟩ : ∃ a, l[i]? = some a := ⟨_, List.getElem?_eq_getElem hlt⟩
          obtain ⟨b', off, rfl, hat⟩ := (HL.out.ext (below_ext H5.out HBw.out)).at hlt
          obtain ⟨c0, c1, c2, c3, c4, c5⟩ := hat i a ha
          have hbz := (Below.refl wr.heap.size wr).alloc (Nat.le_refl _) (.cells #[.int .i64 a.st, .int .i64 a.no, .int .i64 a.mi, .int .i64 a.ar, .string a.cl, .int .i64 a.vo] 23)
          have HR1 := Lib.hid ((HA5.out.ext HBw.out).ext hbz)
          have HAB : Hid (CB (wr.alloc (.cells #[.int .i64 a.st, .int .i64 a.no, .int .i64 a.mi, .int .i64 a.ar, .string a.cl, .int .i64 a.vo] 23)) wr.heap.size 23 a.cells) := CB.new wr _ _
          have HB2 := Lib.hid (below_ext HBw.out hbz)
          obtain ⟨t, ht⟩ : ∃ t, rpEq a r = t := ⟨_, rfl⟩
          have hmn : Hid (((l.take (i + 1)).any fun x => rpEq x r) = (m || t)) := by
            show _ = _
            rw [List.take_add_one, ha, List.any_append, Hm.out]; simp [ht]
          have heq : ∀ w : World, (Op.equalIn 10000 23 (.agg #[.int .i64 a.st, .int .i64 a.no, .int .i64 a.mi, .int .i64 a.ar, .string a.cl, .int .i64 a.vo]) (.agg #[.int .i64 r.st, .int .i64 r.no, .int .i64 r.mi, .int .i64 r.ar, .string r.cl, .int .i64 r.vo])).run Try.prog w = .ok t w := fun w => by rw [← ht]; exact eq_rp a r w
          clear ht hbz hat ha
          go_upto_region 24 with fail
          generalize wr.alloc (.cells #[.int .i64 a.st, .int .i64 a.no, .int .i64 a.mi, .int .i64 a.ar, .string a.cl, .int .i64 a.vo] 23) = w6 at *
          clear c0 c1 c2 c3 c4 c5
          obtain ⟨a0, a1, a2, a3, a4, a5⟩ := RpAt.of_cb HAB.out
          obtain ⟨r0, r1, r2, r3, r4, r5⟩ := RpAt.of_cb HR1.out
          cases m
          · go_wp2_with fail
            go_roundw
            case rel => exact ⟨i + 1, by omega, by rw [hmn.out]; rfl, by go_num, HB2.out⟩
            case measure => simp [intOf]; omega
          · go_wp2_with fail
            go_roundw
            case rel => exact ⟨i + 1, by omega, by rw [hmn.out]; rfl, by go_num, HB2.out⟩
            case measure => simp [intOf]; omega
        · obtain rfl : i = l.length := by omega
          have tj : decide ((l.length : Int) < (l.length : Int)) = false := by simp
          have hmb : m = !b := by rw [← hme.out, ← Hm.out, List.take_of_length_le (Nat.le_refl _)]
          subst hmb
          have H6 := Lib.hid (below_ext H5.out HBw.out)
          have HA6 := Lib.hid (HA5.out.ext HBw.out)
          have HX6 := Lib.hid (HX5.out.ext HBw.out)
          clear H5 HA5 HX5 HBw
          obtain ⟨c0, c1, c2, c3, c4, c5⟩ := RpAt.of_cb HA6.out
          have HzL : Hid (∀ x ∈ L, x.cl.size ≤ 9223372036854775807) := fun x hx => by
            obtain ⟨q, hq⟩ := List.getElem?_of_mem hx
            have := (repB_sound (col_get L none q x (colB_F HOK.out.colL) hq).1).2.2; omega
          go_wp2_with fail
          refine (add_any L _ r _ HX6.out HzL.out Hs.out).mono ?_
          intro e w7 hp
          obtain ⟨oa7, cap7, rfl, hv7, hb⟩ := hp.as (add_own HOK.out.colL HOK.out.at_n)
          have H7 := Lib.hid (below_ext H6.out hb)
          have HX7 := Lib.hid (HX6.out.ext hb)
          have HY7 := Lib.hid hv7
          clear hb hp hv7 c0 c1 c2 c3 c4 c5
          have Hsm := Lib.hid ((sameB_iff L L).2 rfl)
          cases b
          · have hd0 : d = 0 := Hd.out.symm
            subst hd0
            go_wp2_with fail
            refine (rsame22_any L L _ _ _ HX7.out HY7.out).mono ?_
            rw [Hsm.out]
            rintro e w8 ⟨rfl, hb⟩
            have H8 := Lib.hid (below_ext H7.out hb)
            go_wp2_with fail
            go_ret
            exact ⟨rfl, H8.out⟩
          · have hd1 : d = 1 := Hd.out.symm
            subst hd1
            go_wp2_with fail
            refine (rsame22_any L L _ _ _ HX7.out HY7.out).mono ?_
            rw [Hsm.out]
            rintro e w8 ⟨rfl, hb⟩
            have H8 := Lib.hid (below_ext H7.out hb)
            go_wp2_with fail
            go_ret
            exact ⟨rfl, H8.out⟩
end Go.Proofs.Ytgdbmoggpfpkkaa
