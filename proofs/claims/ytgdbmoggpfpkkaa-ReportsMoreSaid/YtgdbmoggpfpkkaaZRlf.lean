/- ReportsMore: the walk. -/
import Derived.Test.YtgdbmoggpfpkkaaZRld
import Derived.Test.YtgdbmoggpfpkkaaK07
namespace Go.Proofs.Ytgdbmoggpfpkkaa
open Go.RowKit
theorem badL_iff (n a b : Int) : badL (n, a, b) = false ↔ (a ≤ n ∧ n ≤ b) := by
  unfold badL; simp
theorem rep_mono {m k : Int} {r : Rp} (hm : m ≤ k) (hk : k ≤ 4) (h : repB m (IntKind.i64.wrap (m - 1)) r = true) : repB k (IntKind.i64.wrap (k - 1)) r = true := by
  unfold repB limsR at h ⊢
  simp only [List.any_cons, List.any_nil, Bool.or_false, Bool.and_eq_true, Bool.not_eq_true', Bool.or_eq_false_iff] at h ⊢
  obtain ⟨⟨h0, h1, h2⟩, h3⟩ := h
  rw [badL_iff] at h0 h1
  rw [IntWalk.i64_in _ (by omega)] at h1
  refine ⟨⟨?_, ?_, h2⟩, h3⟩
  · rw [badL_iff]; omega
  · rw [badL_iff, IntWalk.i64_in _ (by omega)]; omega
theorem incF_mono {m k : Int} (h : m ≤ k) : ∀ (l : List Int) (a : Int), incF a m l = true → incF a k l = true
  | [], _, _ => rfl
  | x :: t, a, hx => by
    simp only [incF, Bool.and_eq_true, Bool.not_eq_true', Bool.or_eq_false_iff, decide_eq_false_iff_not] at hx ⊢
    exact ⟨⟨hx.1.1, by omega⟩, incF_mono h t x hx.2⟩
theorem incF_last {m : Int} : ∀ (l : List Int) (a b : Int), b ≤ a → incF a m l = true → incF b m l = true
  | [], _, _, _, _ => rfl
  | x :: t, a, b, h, hx => by
    simp only [incF, Bool.and_eq_true, Bool.not_eq_true', Bool.or_eq_false_iff, decide_eq_false_iff_not] at hx ⊢
    exact ⟨⟨by omega, hx.1.2⟩, hx.2⟩
theorem incF_drop {m : Int} : ∀ (l : List Int) (a : Int) (i : Nat), incF a m l = true → incF a m (l.take i ++ l.drop (i + 1)) = true
  | [], _, i, _ => by simp [incF]
  | x :: t, a, 0, h => by
    simp only [incF, Bool.and_eq_true, Bool.not_eq_true', Bool.or_eq_false_iff, decide_eq_false_iff_not] at h
    simpa using incF_last t x a (by omega) h.2
  | x :: t, a, i + 1, h => by
    have h0 := h
    simp only [incF, Bool.and_eq_true] at h
    have := incF_drop t x i h.2
    show incF a m (x :: (t.take i ++ t.drop (i + 1))) = true
    simp only [incF, Bool.and_eq_true]
    exact ⟨h.1, this⟩
theorem sta_mono {m k sh fa : Int} {l : List Int} (hm : m ≤ k) (hk : k ≤ 64) (h : staB m l sh fa = true) : staB k l sh fa = true := by
  unfold staB limsS at h ⊢
  simp only [List.any_cons, List.any_nil, Bool.or_false, Bool.and_eq_true, Bool.not_eq_true', Bool.or_eq_false_iff] at h ⊢
  obtain ⟨⟨⟨h0, h1⟩, h2⟩, h3⟩ := h
  refine ⟨⟨⟨?_, h1⟩, h2⟩, incF_mono hm l _ h3⟩
  rw [badL_iff] at h0 ⊢; omega
theorem sta_len {m sh fa : Int} {l : List Int} (h : staB m l sh fa = true) : 0 < l.length := by
  unfold staB at h
  simp only [Bool.and_eq_true, Bool.not_eq_true', List.isEmpty_eq_false_iff] at h
  exact List.length_pos_iff.2 h.1.2
def fewL (l : List Int) (i : Nat) : List Int := l.take i ++ l.drop (i + 1)
theorem fewL_len {l : List Int} {i : Nat} (h : i < l.length) : (fewL l i).length = l.length - 1 := by
  unfold fewL; simp only [List.length_append, List.length_take, List.length_drop]; omega
theorem sta_fewer {m sh fa : Int} {l : List Int} (i : Nat) (h : staB m l sh fa = true) : staB m (fewL l i) sh fa = !(fewL l i).isEmpty := by
  unfold staB at h ⊢
  simp only [Bool.and_eq_true] at h
  have h3 : incF (-1) m (fewL l i) = true := incF_drop l _ i h.2
  rw [h.1.1, h3]; simp
/-- ints in a row of the own -/
def icells (l : List Int) : List Value := l.map (Value.int .i64)
theorem icells_len (l : List Int) : (icells l).length = l.length := by simp [icells]
theorem icells_one (l : List Int) : ∀ u ∈ icells l, u.oneCell' = true := by
  intro u hu; simp only [icells, List.mem_map] at hu; obtain ⟨c, _, rfl⟩ := hu; rfl
def OwnI (w : World) (base : Nat) (v : Value) (l : List Int) : Prop := w.ownsRow base 3 1 v l.length (icells l)
theorem OwnI.rd {w : World} {base : Nat} {v : Value} {l : List Int} (h : OwnI w base v l) : IntsAt w.heap.size w l v := by
  have hlt := World.ownsRow.lt h
  rcases h.2 with ⟨rfl, h0⟩ | ⟨g, cap, cur, rfl, hb, hg, hn, hm, hcs, ht⟩
  · exact .inl ⟨List.eq_nil_of_length_eq_zero h0, _, _, rfl⟩
  · have hc := World.ownsRow.cells (e := 3) h (g := g) rfl
    refine .inr ⟨g, 0, cap, rfl, hn, hm, (hlt g rfl).2, fun j x hj => ?_⟩
    have := hc j (.int .i64 x) (by simp [icells, hj])
    rwa [add0] at this
theorem int_info : (Try.prog.info? 3).map (fun i => (i.zero, i.size, i.bytes)) = some (some (.int .i64 0), 1, 8) := by kernel_rfl
theorem isrc_zero (x : Option Addr) (c : Nat) (W : World) : Src Try.prog 1 24 (.slice x 0 c) 0 [] W := by
  cases x with
  | none => exact Src.ofNil W Try.underlying24 c
  | some a => exact Src.ofSlice W Try.underlying24 a 0 c [] rfl (fun j u h => by simp at h) (fun u h => by cases h)
theorem isrc_take {l : List Int} {oa : Option Addr} {cap n : Nat} (W : World) (h : IntsAt W.heap.size W l (.slice oa l.length cap)) (hn : n ≤ l.length) : Src Try.prog 1 24 (.slice oa n cap) n (icells (l.take n)) W := by
  by_cases h0 : n = 0
  · subst h0; exact isrc_zero _ _ _
  obtain ⟨b, off, rfl, hat⟩ := h.at (k := 0) (by omega)
  refine Src.ofSlice W Try.underlying24 _ n cap _ (by rw [icells_len, List.length_take, Nat.min_eq_left hn]; omega) (fun j u hu => ?_) (icells_one _)
  rw [add0]
  simp only [icells, List.getElem?_map, Option.map_eq_some_iff] at hu
  obtain ⟨x, hx, rfl⟩ := hu
  rw [List.getElem?_take] at hx
  split at hx
  · exact hat j x hx
  · cases hx
theorem isrc_drop {l : List Int} {oa oa' : Option Addr} {cap n m : Nat} (c : Nat) (W : World) (h : IntsAt W.heap.size W l (.slice oa l.length cap)) (hn : n ≤ l.length) (hm : m = l.length - n) (ho : oa' = if cap = n then oa else Option.map (fun x => x.add n) oa) (hc : l.length ≤ cap) : Src Try.prog 1 24 (.slice oa' m c) m (icells (l.drop n)) W := by
  by_cases h0 : l.length - n = 0
  · rw [h0] at hm; subst hm; rw [List.drop_of_length_le (by omega)]; exact isrc_zero _ _ _
  obtain ⟨b, off, rfl, hat⟩ := h.at (k := 0) (by omega)
  rw [if_neg (by omega)] at ho
  subst ho hm
  refine Src.ofSlice W Try.underlying24 _ _ _ _ (by rw [icells_len, List.length_drop]; omega) (fun j u hu => ?_) (icells_one _)
  show W.cell? ((Addr.add ⟨b, off, none⟩ n).add j) = _
  rw [add0, add0]
  simp only [icells, List.getElem?_map, Option.map_eq_some_iff] at hu
  obtain ⟨x, hx, rfl⟩ := hu
  have := hat (n + j) x (by rw [List.getElem?_drop] at hx; exact hx)
  rw [Nat.add_assoc]; exact this
theorem imade_at (base : Nat) (W : World) (h : base ≤ W.heap.size) : OwnI (W.alloc (.cells #[] 3)) base (.slice (some ⟨W.heap.size, 0, none⟩) 0 0) [] :=
  World.ownsRow_made (e := 3) (base := base) (size := 1) W #[] 0 h (Nat.zero_le _) rfl
theorem iown_app {W : World} {base n : Nat} {v : Value} {a b : List Int} (h : W.ownsRow base 3 1 v n (icells a ++ icells b)) (hn : n = a.length + b.length) : OwnI W base v (a ++ b) := by
  unfold OwnI
  rw [List.length_append, ← hn]
  unfold icells at *
  rw [List.map_append]; exact h
theorem below_ownI {w0 w w' : World} {base : Nat} {v : Value} {l : List Int} (hb : Below w0.heap.size w0 w) (hv : OwnI w base v l) (hg : w.grownBy w' v.ownBlock) (h : w0.heap.size ≤ base) : Below w0.heap.size w0 w' :=
  hb.trans ⟨hg.os, hg.tape, hg.output, hg.size, fun k hk => hg.block k (Nat.lt_of_lt_of_le hk hb.size) (fun e => by have := (World.ownsRow.lt hv k e.symm).1; omega)⟩
set_option maxRecDepth 100000 in
set_option maxHeartbeats 4000000 in
theorem more22_walk (many more : Int) (r : Rp) (l : List Int) (u : Value) (sh fa : Int) (a : Int) (w : World) (hm : I64 many) (hk : I64 more) (hs : r.cl.size ≤ maxLen) (hl : IntsAt w.heap.size w l u) (ha : 0 ≤ a ∧ a ≤ 255) : Calls Try.prog 10 #[.int .i64 many, .int .i64 more, r.v, .agg #[u, .int .i64 sh, .int .i64 fa], .int .u8 a] w (BoolPost true w) := by
  have HL := Lib.hid hl
  have hcap : ∃ oa cap, u = .slice oa l.length cap ∧ l.length ≤ cap ∧ l.length ≤ 9223372036854775807 := by
    rcases hl with ⟨rfl, oa, cap, rfl⟩ | ⟨b, off, cap, rfl, h2, h3, _⟩
    · exact ⟨oa, cap, rfl, by simp, by simp⟩
    · exact ⟨_, cap, rfl, h2, by unfold maxLen at h3; omega⟩
  obtain ⟨oa, cap, rfl, hlc, hlm⟩ := hcap
  have bl : (l.length : Int) ≤ 9223372036854775807 := by omega
  have Hs : Hid (r.cl.size ≤ 9223372036854775807) := by show _ ≤ _; unfold maxLen at hs; omega
  have Hlc := Lib.hid hlc
  have Ha := Lib.hid ha
  clear hl hs hm hk hlm hlc ha
  have hcp := cb_pair w 23 26 r.cells [.slice oa l.length cap, .int .i64 sh, .int .i64 fa]
  have hcb0 := Lib.hid hcp.1
  have hcs0 := Lib.hid hcp.2
  have hb0 := Lib.hid (((Below.refl w.heap.size w).alloc (Nat.le_refl _) (.cells r.cells.toArray 23)).alloc (by simp) (.cells [.slice oa l.length cap, .int .i64 sh, .int .i64 fa].toArray 26))
  clear hcp
  change Calls Try.prog 10 #[.int .i64 many, .int .i64 more, .agg #[.int .i64 r.st, .int .i64 r.no, .int .i64 r.mi, .int .i64 r.ar, .string r.cl, .int .i64 r.vo], .agg #[.slice oa l.length cap, .int .i64 sh, .int .i64 fa], .int .u8 a] w _
  obtain ⟨st, hsh⟩ : ∃ t, decide (r.cl.size ≤ 200) = t := ⟨_, rfl⟩
  have Hsh := Lib.hid hsh; clear hsh
  go_enter Try.func10, Try.ntmps10
  go_upto_region 1 with fail
  change Code.wp _ _ _ _ ((w.alloc (.cells r.cells.toArray 23)).alloc (.cells [.slice oa l.length cap, .int .i64 sh, .int .i64 fa].toArray 26))
  generalize (w.alloc (.cells r.cells.toArray 23)).alloc (.cells [.slice oa l.length cap, .int .i64 sh, .int .i64 fa].toArray 26) = w0 at *
  go_wp2_with fail
  refine (sane22_any _).mono ?_
  rintro e w1 ⟨rfl, hb⟩
  have H1 := Lib.hid (below_ext hb0.out hb)
  have HA1 := Lib.hid (hcb0.out.ext hb)
  have HS1 := Lib.hid (hcs0.out.ext hb)
  clear hb hb0 hcb0 hcs0
  obtain ⟨c0, c1, c2, c3, c4, c5⟩ := RpAt.of_cb HA1.out
  go_wp2_with fail
  refine (short1 r st Hsh.out _).mono ?_
  rintro e w2 ⟨rfl, hb⟩
  have H2 := Lib.hid (below_ext H1.out hb)
  have HA2 := Lib.hid (HA1.out.ext hb)
  have HS2 := Lib.hid (HS1.out.ext hb)
  clear hb c0 c1 c2 c3 c4 c5 H1 HA1 HS1
  obtain ⟨s0, s1, s2⟩ := StaAt.of HS2.out
  cases st
  case false =>
    go_wp2_with fail
    go_ret
    exact ⟨rfl, H2.out⟩
  case true =>
  by_cases h100 : 100 < l.length
  · have t3 : decide ((100 : Int) < (l.length : Int)) = true := by simp; omega
    go_wp2_with fail
    go_ret
    exact ⟨rfl, H2.out⟩
  have t3 : decide ((100 : Int) < (l.length : Int)) = false := by simp; omega
  have Hl100 : Hid (l.length ≤ 100) := by show _ ≤ _; omega
  clear h100
  by_cases hmk : more < many
  · have t4 : decide (more < many) = true := decide_eq_true hmk
    clear hmk
    go_wp2_with fail
    go_ret
    exact ⟨rfl, H2.out⟩
  have t4 : decide (more < many) = false := decide_eq_false hmk
  have Hmk : Hid (many ≤ more) := by show _ ≤ _; omega
  clear hmk
  go_upto_region 5 with fail
  go_cut [43] (fun v wx => v = .bool false ∧ Below w2.heap.size w2 wx)
  case first =>
    obtain ⟨c0, c1, c2, c3, c4, c5⟩ := RpAt.of_cb HA2.out
    obtain ⟨tm, htm⟩ : ∃ t, decide (more ≤ 4) = t := ⟨_, rfl⟩
    have Htm := Lib.hid htm
    obtain ⟨rb, hrb⟩ : ∃ t, repB many (IntKind.i64.wrap (many - 1)) r = t := ⟨_, rfl⟩
    have Hrb := Lib.hid hrb; clear hrb
    cases tm
    · go_wp2_with fail
      go_meet
      exact ⟨rfl, Below.refl _ _⟩
    · go_wp2_with fail
      cases rb
      · refine (chk_no many _ r _ rfl Hs.out Hrb.out).mono ?_
        rintro e w3 ⟨rfl, hb⟩
        go_wp2_with fail
        go_meet
        exact ⟨rfl, hb⟩
      · refine (chk_ok many _ r _ rfl Hs.out Hrb.out).mono ?_
        rintro e w3 ⟨rfl, hb⟩
        have HB3 := Lib.hid hb
        have HA3 := Lib.hid (HA2.out.ext hb)
        clear hb c0 c1 c2 c3 c4 c5
        obtain ⟨c0, c1, c2, c3, c4, c5⟩ := RpAt.of_cb HA3.out
        go_wp2_with fail
        refine (chk_ok more _ r _ rfl Hs.out (rep_mono Hmk.out (by have := Htm.out; simpa using this) Hrb.out)).mono ?_
        rintro e w4 ⟨rfl, hb⟩
        go_wp2_with fail
        go_meet
        exact ⟨rfl, below_ext HB3.out hb⟩
  case rest =>
  obtain ⟨rfl, hb⟩ := hcut
  have H3 := Lib.hid (below_ext H2.out hb)
  have HS3 := Lib.hid (HS2.out.ext hb)
  clear hb HA2 H2 HS2 s0 s1 s2
  rename_i wc
  generalize hw3 : wc = w3 at *
  clear hw3
  obtain ⟨s0, s1, s2⟩ := StaAt.of HS3.out
  obtain ⟨sb, hsb⟩ : ∃ t, staB many l sh fa = t := ⟨_, rfl⟩
  have Hsb := Lib.hid hsb; clear hsb
  go_wp2_with fail
  cases sb
  case false =>
    refine (sta_no many sh fa l _ _ (HL.out.ext H3.out) Hsb.out).mono ?_
    rintro e w4 ⟨rfl, hb⟩
    have H4 := Lib.hid (below_ext H3.out hb)
    go_wp2_with fail
    go_ret
    exact ⟨rfl, H4.out⟩
  case true =>
  refine (sta_ok many sh fa l _ _ (HL.out.ext H3.out) Hsb.out).mono ?_
  rintro e w4 ⟨rfl, hb⟩
  have H4 := Lib.hid (below_ext H3.out hb)
  have HS4 := Lib.hid (HS3.out.ext hb)
  clear hb H3 HS3 s0 s1 s2
  have hlen := sta_len Hsb.out
  go_upto_region 9 with fail
  go_cut [55] (fun v wx => v = .bool false ∧ Below w4.heap.size w4 wx)
  case first =>
    obtain ⟨s0, s1, s2⟩ := StaAt.of HS4.out
    obtain ⟨tm, htm⟩ : ∃ t, decide (more ≤ 64) = t := ⟨_, rfl⟩
    have Htm := Lib.hid htm
    cases tm
    · go_wp2_with fail
      go_meet
      exact ⟨rfl, Below.refl _ _⟩
    · go_wp2_with fail
      refine (sta_ok more sh fa l _ _ (HL.out.ext H4.out) (sta_mono Hmk.out (by have := Htm.out; simpa using this) Hsb.out)).mono ?_
      rintro e w5 ⟨rfl, hb⟩
      go_wp2_with fail
      go_meet
      exact ⟨rfl, hb⟩
  case rest =>
  obtain ⟨rfl, hb⟩ := hcut
  have H5 := Lib.hid (below_ext H4.out hb)
  have HS5 := Lib.hid (HS4.out.ext hb)
  clear hb H4 HS4
  rename_i wc
  generalize hw5 : wc = w5 at *
  clear hw5
  obtain ⟨s0, s1, s2⟩ := StaAt.of HS5.out
  obtain ⟨i, hi1, hi2⟩ : ∃ i : Nat, a.tmod (l.length : Int) = (i : Int) ∧ i < l.length := by
    have h1 : 0 ≤ a := Ha.out.1
    refine ⟨(a.tmod (l.length : Int)).toNat, ?_, ?_⟩
    · rw [Int.toNat_of_nonneg (Int.tmod_nonneg _ h1)]
    · have := Int.tmod_lt_of_pos a (show (0 : Int) < (l.length : Int) by omega)
      have h3 := Int.tmod_nonneg (l.length : Int) h1
      omega
  have hne : ¬ ((l.length : Int) = 0) := by omega
  have ba1 : 0 ≤ a := Ha.out.1
  have ba2 : a ≤ 255 := Ha.out.2
  have ea : IntKind.i64.wrap a = a := IntWalk.i64_in _ (by omega)
  have ei : IntKind.i64.wrap (i : Int) = (i : Int) := IntWalk.i64_in _ (by have := Hl100.out; omega)
  have hneS : ¬ (w5.heap.size = w.heap.size + 1) := by have := HS5.out.lt; omega
  go_upto_region 13 with fail
  have H6 := Lib.hid (H5.out.alloc H5.out.size (.cells #[.slice oa l.length cap, .int .i64 sh, .int .i64 fa] 26))
  have HS6 : Hid (CB (w5.alloc (.cells #[.slice oa l.length cap, .int .i64 sh, .int .i64 fa] 26)) (w.heap.size + 1) 26 [.slice oa l.length cap, .int .i64 sh, .int .i64 fa]) := HS5.out.alloc _
  have HF6 : Hid (CB (w5.alloc (.cells #[.slice oa l.length cap, .int .i64 sh, .int .i64 fa] 26)) w5.heap.size 26 [.slice oa l.length cap, .int .i64 sh, .int .i64 fa]) := CB.new w5 _ _
  clear s0 s1 s2 H5 HS5
  have hw6 : (w5.alloc (.cells #[.slice oa l.length cap, .int .i64 sh, .int .i64 fa] 26)).heap.size = w5.heap.size + 1 := by simp
  have Hw6 := Lib.hid hw6; clear hw6
  generalize w5.alloc (.cells #[.slice oa l.length cap, .int .i64 sh, .int .i64 fa] 26) = w6 at *
  have H0 := Lib.hid ((Below.refl w6.heap.size w6).drew)
  refine wp_region_noPanic ?_
  refine wp_region_held_drew (S := fun w' => w'.cell? ⟨w.heap.size + 1, 0, none⟩ = some (.slice oa l.length cap)) (by kernel_rfl) (cell_ext H0.out (HS6.out.cell 0)) (fun hHeld => ?_)
  have Hz0 : Hid (w6.heap.size ≤ w6.drew.heap.size) := Nat.le_refl _
  generalize w6.drew = W0 at *
  have hil : i ≤ l.length := by omega
  have hic : i ≤ cap := by have := Hlc.out; omega
  have hic' : (i : Int) ≤ (cap : Int) := by omega
  have ei1 : IntKind.i64.wrap ((i : Int) + 1) = (i : Int) + 1 := IntWalk.i64_in _ (by have := Hl100.out; omega)
  have hb1 : (0 : Int) ≤ (i : Int) + 1 := by omega
  have hb2 : (i : Int) + 1 ≤ (l.length : Int) := by omega
  have htn : ((i : Int) + 1).toNat = i + 1 := by omega
  have hil1 : i + 1 ≤ l.length := by omega
  refine take_dst (some 64) (i := 1) (v := ?va1) rfl rfl (by kernel_rfl) (by kernel_rfl) (by kernel_rfl) (fun _ _ _ h => h) (Or.inl ⟨by rfl, fun wS hSw => ?hya1⟩) (by assumption) ?resta1
  case hya1 => (have s0 := hSw; go_simp; first | done | with_reducible rfl)
  try simp only [Act.put, List.setIfInBounds_toArray, List.set_cons_zero, List.set_cons_succ]
  refine take_dst (some 65) (i := 2) (v := ?va2) rfl rfl (by kernel_rfl) (by kernel_rfl) (by kernel_rfl) (fun _ _ _ h => h) (Or.inl ⟨by rfl, fun wS hSw => ?hya2⟩) (by assumption) ?resta2
  case hya2 => (have s0 := hSw; go_simp; first | done | with_reducible rfl)
  try simp only [Act.put, List.setIfInBounds_toArray, List.set_cons_zero, List.set_cons_succ]
  refine take_dst (some 66) (i := 3) (v := ?va3) rfl rfl (by kernel_rfl) (by kernel_rfl) (by kernel_rfl) (fun _ _ _ h => h) (Or.inl ⟨by rfl, fun wS hSw => ?hya3⟩) (by assumption) ?resta3
  case hya3 => (have s0 := hSw; go_simp; first | done | with_reducible rfl)
  try simp only [Act.put, List.setIfInBounds_toArray, List.set_cons_zero, List.set_cons_succ]
  refine take_dst (some 67) (i := 4) (v := ?va4) rfl rfl (by kernel_rfl) (by kernel_rfl) (by kernel_rfl) (fun _ _ _ h => h) (Or.inl ⟨by rfl, fun wS hSw => ?hya4⟩) (by assumption) ?resta4
  case hya4 => (have s0 := hSw; go_simp; first | done | with_reducible rfl)
  try simp only [Act.put, List.setIfInBounds_toArray, List.set_cons_zero, List.set_cons_succ]
  refine take_dst (some 69) (i := 6) (v := ?va6) rfl rfl (by kernel_rfl) (by kernel_rfl) (by kernel_rfl) (fun _ _ _ h => h) (Or.inl ⟨by rfl, fun wS hSw => ?hya6⟩) (by assumption) ?resta6
  case hya6 => (have s0 := hSw; go_simp; first | done | with_reducible rfl)
  try simp only [Act.put, List.setIfInBounds_toArray, List.set_cons_zero, List.set_cons_succ]
  refine take_dst (some 70) (i := 7) (v := ?va7) rfl rfl (by kernel_rfl) (by kernel_rfl) (by kernel_rfl) (fun _ _ _ h => h) (Or.inl ⟨by rfl, fun wS hSw => ?hya7⟩) (by assumption) ?resta7
  case hya7 => (have s0 := hSw; go_simp; first | done | with_reducible rfl)
  try simp only [Act.put, List.setIfInBounds_toArray, List.set_cons_zero, List.set_cons_succ]
  refine take_dst (some 71) (i := 8) (v := ?va8) rfl rfl (by kernel_rfl) (by kernel_rfl) (by kernel_rfl) (fun _ _ _ h => h) (Or.inl ⟨by rfl, fun wS hSw => ?hya8⟩) (by assumption) ?resta8
  case hya8 => (have s0 := hSw; go_simp; first | done | with_reducible rfl)
  try simp only [Act.put, List.setIfInBounds_toArray, List.set_cons_zero, List.set_cons_succ]
  refine take_dst (some 72) (i := 9) (v := ?va9) rfl rfl (by kernel_rfl) (by kernel_rfl) (by kernel_rfl) (fun _ _ _ h => h) (Or.inl ⟨by rfl, fun wS hSw => ?hya9⟩) (by assumption) ?resta9
  case hya9 => (have s0 := hSw; go_simp; first | done | with_reducible rfl)
  try simp only [Act.put, List.setIfInBounds_toArray, List.set_cons_zero, List.set_cons_succ]
  refine take_dst (some 73) (i := 10) (v := ?va10) rfl rfl (by kernel_rfl) (by kernel_rfl) (by kernel_rfl) (fun _ _ _ h => h) (Or.inl ⟨by rfl, fun wS hSw => ?hya10⟩) (by assumption) ?resta10
  case hya10 => (have s0 := hSw; go_simp; first | done | with_reducible rfl)
  try simp only [Act.put, List.setIfInBounds_toArray, List.set_cons_zero, List.set_cons_succ]
  refine wpAnyH_ready (rs := [0]) (by kernel_rfl) (by simp) ?_
  refine AllReadyH.cons rfl (fun K hK => ?_) AllReadyH.nil
  go_simp
  have HO1 := Lib.hid (imade_at W0.heap.size W0 (Nat.le_refl _))
  have H1 := Lib.hid (H0.out.alloc H0.out.size (.cells #[] 3))
  have Hzz1 : Hid (W0.heap.size ≤ (W0.alloc (.cells #[] 3)).heap.size) := by show _ ≤ _; simp
  refine hK.out _ _ (cell_ext H1.out (HS6.out.cell 0)) (fun hHeld => ?_)
  clear hK K
  generalize W0.alloc (.cells #[] 3) = W1 at *
  try simp only [Act.put, List.setIfInBounds_toArray, List.set_cons_zero, List.set_cons_succ]
  refine wpAnyH_ready (rs := [5]) (by kernel_rfl) (by simp) ?_
  refine AllReadyH.cons rfl (fun K hK => ?_) AllReadyH.nil
  refine step_append_x (e := 3) (z := .int .i64 0) (size := 1) (bytes := 8) Try.underlying24 int_info rfl rfl _ _ rfl W0.heap.size _ _ _ rfl HO1.out _ _ _ rfl (isrc_take _ (HL.out.ext (below_ext H6.out H1.out)) (by omega)) (by unfold maxLen; have := Hl100.out; simp only [List.length_nil, List.length_take]; omega) (by have := Hl100.out; simp only [List.length_nil, List.length_take]; omega) (by exact Hzz1.out) ?_
  intro v2 W2 hown hg hnx
  have HO2 : Hid (OwnI W2 W0.heap.size v2 ([] ++ l.take i)) := iown_app hown (by simp only [List.length_nil, List.length_take]; omega)
  have H2 := Lib.hid (below_ownI (v := _) H1.out HO1.out hg Hz0.out)
  have Hzz2 : Hid (W0.heap.size ≤ W2.heap.size) := Nat.le_trans Hzz1.out hg.size
  refine hK.out (Act.put _ (some 68) v2) W2 (cell_ext H2.out (HS6.out.cell 0)) (fun hHeld => ?_)
  clear hK K hown hg hnx
  try simp only [Act.put, List.setIfInBounds_toArray, List.set_cons_zero, List.set_cons_succ]
  rw [List.nil_append] at HO2
  refine wpAnyH_ready (rs := [11]) (by kernel_rfl) (by simp) ?_
  refine AllReadyH.cons rfl (fun K hK => ?_) AllReadyH.nil
  refine step_append_x (e := 3) (z := .int .i64 0) (size := 1) (bytes := 8) Try.underlying24 int_info rfl rfl _ _ rfl W0.heap.size _ _ _ rfl HO2.out _ _ _ rfl (isrc_drop _ _ (HL.out.ext (below_ext H6.out H2.out)) (n := i + 1) (by omega) (by omega) rfl Hlc.out) (by unfold maxLen; have := Hl100.out; simp only [List.length_nil, List.length_take]; omega) (by have := Hl100.out; simp only [List.length_nil, List.length_take]; omega) (by exact Hzz2.out) ?_
  intro v3 W3 hown hg hnx
  have HO3 : Hid (OwnI W3 W0.heap.size v3 ((l.take i) ++ l.drop (i + 1))) := iown_app hown (by simp only [List.length_take, List.length_drop])
  have H3 := Lib.hid (below_ownI (v := _) H2.out HO2.out hg Hz0.out)
  have Hzz3 : Hid (W0.heap.size ≤ W3.heap.size) := Nat.le_trans Hzz2.out hg.size
  refine hK.out (Act.put _ (some 74) v3) W3 (cell_ext H3.out (HS6.out.cell 0)) (fun hHeld => ?_)
  clear hK K hown hg hnx
  try simp only [Act.put, List.setIfInBounds_toArray, List.set_cons_zero, List.set_cons_succ]
  change Hid (OwnI W3 W0.heap.size v3 (fewL l i)) at HO3
  obtain ⟨o3, cp3, rfl, hl3⟩ := HO3.out.rd.shape
  refine take_dst (some 75) (i := 12) (v := ?vb12) rfl rfl (by kernel_rfl) (by kernel_rfl) (by kernel_rfl) (fun _ _ _ h => h) (Or.inl ⟨by rfl, fun wS hSw => ?hyb12⟩) (by assumption) ?restb12
  case hyb12 => (have s0 := hSw; go_simp; first | done | with_reducible rfl)
  try simp only [Act.put, List.setIfInBounds_toArray, List.set_cons_zero, List.set_cons_succ]
  have HF3 := Lib.hid (HF6.out.ext H3.out)
  have f0 := HF3.out.cell 0
  simp only [List.getElem?_cons_zero] at f0
  have yf : ∀ o, W3.frozen? ⟨w5.heap.size, o, none⟩ = false := HF3.out.frozen
  refine wpAnyH_ready (rs := [13]) (by kernel_rfl) (by simp) ?_
  refine AllReadyH.cons rfl (fun K hK => ?_) AllReadyH.nil
  go_simp
  have HF7 : Hid (CB (W3.setCell ⟨w5.heap.size, 0, none⟩ (.slice o3 (fewL l i).length cp3)) w5.heap.size 26 [.slice o3 (fewL l i).length cp3, .int .i64 sh, .int .i64 fa]) := HF3.out.set 0 (.slice o3 (fewL l i).length cp3)
  have HO7 : Hid (OwnI (W3.setCell ⟨w5.heap.size, 0, none⟩ (.slice o3 (fewL l i).length cp3)) W0.heap.size (.slice o3 (fewL l i).length cp3) (fewL l i)) := World.ownsRow.kept HO3.out (grown_setT W3 w5.heap.size 0 (.slice o3 (fewL l i).length cp3)) (.inr fun h => by have h1 := (World.ownsRow.lt HO3.out _ h).1; have h2 := Hz0.out; have h3 := Hw6.out; omega)
  have H7 : Hid (Below w.heap.size w (W3.setCell ⟨w5.heap.size, 0, none⟩ (.slice o3 (fewL l i).length cp3))) := (below_ext H6.out H3.out).setCell (p := ⟨w5.heap.size, 0, none⟩) (by have h1 := (below_ext H6.out H0.out).size; have h2 := H6.out.size; have h3 := Hw6.out; have h4 := HS6.out.lt; show w.heap.size ≤ w5.heap.size; omega) (.slice o3 (fewL l i).length cp3)
  refine hK.out _ _ ?hkeep (fun hHeld => ?_)
  case hkeep =>
    have hlt := HS6.out.lt
    have h3 := Hw6.out
    have := (HS6.out.ext H3.out).cell 0
    rw [World.cell?_setCell_other _ _ _ _ (by intro h; have hb := congrArg Addr.block h; simp at hb; exact hneS hb)]
    exact this
  clear hK K f0 yf HF3 HF6 HO3 HS6 H6
  generalize W3.setCell ⟨w5.heap.size, 0, none⟩ (.slice o3 (fewL l i).length cp3) = w7 at *
  refine wpAnyH_done (by kernel_rfl) ?_ _
  refine NoPanic.normal ?_
  obtain ⟨q, hq⟩ : ∃ q, (fewL l i).isEmpty = q := ⟨_, rfl⟩
  have Hq := Lib.hid hq
  obtain ⟨E, hE⟩ : ∃ E : Int, (if staB many (fewL l i) sh fa then (0 : Int) else 220) = E := ⟨_, rfl⟩
  have HE := Lib.hid hE
  have hE2 : Hid (E = if q then 220 else 0) := by
    show _ = _
    rw [← hE, sta_fewer i Hsb.out, hq]; cases q <;> rfl
  have tq : decide ((0 : Int) < ((fewL l i).length : Int)) = !q := by
    rw [← hq, Bool.eq_iff_iff, decide_eq_true_eq, Bool.not_eq_true', List.isEmpty_eq_false_iff, ← List.length_pos_iff]
    omega
  have bf : ((fewL l i).length : Int) ≤ 9223372036854775807 := by omega
  clear hq hE hlen hi1 hi2 hil hil1 hic hic' ei1 ei ea hb1 hb2 htn hne hl3 ba1 ba2
  go_upto_region 14 with fail
  cases q
  · have hE3 : E = 0 := hE2.out
    subst hE3
    have tq : decide ((0 : Int) < ((fewL l i).length : Int)) = true := tq
    have tqN : Hid (decide (0 < (fewL l i).length) = true) := by have := tq; show _ = _; simp at this ⊢; omega
    have hbS := (Below.refl w7.heap.size w7).drew
    refine wp_region_held_drew (S := fun w' => w'.cell? ⟨w5.heap.size, 0, none⟩ = some (.slice o3 (fewL l i).length cp3) ∧ w'.cell? ⟨w5.heap.size, 1, none⟩ = some (.int .i64 sh) ∧ w'.cell? ⟨w5.heap.size, 2, none⟩ = some (.int .i64 fa)) (by kernel_rfl) ⟨cell_ext hbS (StaAt.of HF7.out).c0, cell_ext hbS (StaAt.of HF7.out).c1, cell_ext hbS (StaAt.of HF7.out).c2⟩ (fun hHeld => ?_)
    refine take_dst (some 76) (i := 0) (v := ?vx0) rfl rfl (by kernel_rfl) (by kernel_rfl) (by kernel_rfl) (fun _ _ _ h => h) (Or.inl ⟨by rfl, fun wS hSw => ?hyx0⟩) (by assumption) ?restx0
    case hyx0 => (obtain ⟨s0, s1, s2⟩ := hSw; go_simp; first | done | with_reducible rfl)
    try simp only [Act.put, List.setIfInBounds_toArray, List.set_cons_zero, List.set_cons_succ]
    refine take_dst (some 77) (i := 1) (v := ?vx1) rfl rfl (by kernel_rfl) (by kernel_rfl) (by kernel_rfl) (fun _ _ _ h => h) (Or.inl ⟨by rfl, fun wS hSw => ?hyx1⟩) (by assumption) ?restx1
    case hyx1 => (obtain ⟨s0, s1, s2⟩ := hSw; go_simp; first | done | with_reducible rfl)
    try simp only [Act.put, List.setIfInBounds_toArray, List.set_cons_zero, List.set_cons_succ]
    refine take_dst (some 80) (i := 4) (v := ?vx4) rfl rfl (by kernel_rfl) (by kernel_rfl) (by kernel_rfl) (fun _ _ _ h => h) (Or.inl ⟨by rfl, fun wS hSw => ?hyx4⟩) (by assumption) ?restx4
    case hyx4 => (obtain ⟨s0, s1, s2⟩ := hSw; go_simp; first | done | with_reducible rfl)
    try simp only [Act.put, List.setIfInBounds_toArray, List.set_cons_zero, List.set_cons_succ]
    refine take_dst (some 81) (i := 5) (v := ?vx5) rfl rfl (by kernel_rfl) (by kernel_rfl) (by kernel_rfl) (fun _ _ _ h => h) (Or.inl ⟨by rfl, fun wS hSw => ?hyx5⟩) (by assumption) ?restx5
    case hyx5 => (obtain ⟨s0, s1, s2⟩ := hSw; go_simp; first | done | with_reducible rfl)
    try simp only [Act.put, List.setIfInBounds_toArray, List.set_cons_zero, List.set_cons_succ]
    refine take_dst (some 82) (i := 6) (v := ?vx6) rfl rfl (by kernel_rfl) (by kernel_rfl) (by kernel_rfl) (fun _ _ _ h => h) (Or.inl ⟨by rfl, fun wS hSw => ?hyx6⟩) (by assumption) ?restx6
    case hyx6 => (obtain ⟨s0, s1, s2⟩ := hSw; go_simp; first | done | with_reducible rfl)
    try simp only [Act.put, List.setIfInBounds_toArray, List.set_cons_zero, List.set_cons_succ]
    refine take_dst (some 83) (i := 7) (v := ?vx7) rfl rfl (by kernel_rfl) (by kernel_rfl) (by kernel_rfl) (fun _ _ _ h => h) (Or.inl ⟨by rfl, fun wS hSw => ?hyx7⟩) (by assumption) ?restx7
    case hyx7 => (obtain ⟨s0, s1, s2⟩ := hSw; go_simp; first | done | with_reducible rfl)
    try simp only [Act.put, List.setIfInBounds_toArray, List.set_cons_zero, List.set_cons_succ]
    refine wpAnyH_ready (rs := [2]) (by kernel_rfl) (by simp) ?_
    refine AllReadyH.cons rfl (fun K hK => ?_) AllReadyH.nil
    go_simp
    refine (sta_E many sh fa (fewL l i) _ 0 _ (HO7.out.rd.ext hbS) HE.out).mono ?_
    rintro e w8 ⟨rfl, hb7⟩
    have hbS2 : Below w7.heap.size w7 w8 := below_undrew' hb7
    refine hK.out _ _ ⟨cell_ext hbS2 (StaAt.of HF7.out).c0, cell_ext hbS2 (StaAt.of HF7.out).c1, cell_ext hbS2 (StaAt.of HF7.out).c2⟩ (fun hHeld => ?_)
    clear hK K
    try simp only [Act.put, List.setIfInBounds_toArray, List.set_cons_zero, List.set_cons_succ]
    refine take_dst (some 79) (i := 3) (v := ?vx3) rfl rfl (by kernel_rfl) (by kernel_rfl) (by kernel_rfl) (fun _ _ _ h => h) (Or.inl ⟨by rfl, fun wS hSw => ?hyx3⟩) (by assumption) ?restx3
    case hyx3 => (obtain ⟨s0, s1, s2⟩ := hSw; go_simp; first | done | with_reducible rfl)
    try simp only [Act.put, List.setIfInBounds_toArray, List.set_cons_zero, List.set_cons_succ]
    refine take_dst (some 84) (i := 8) (v := ?vx8) rfl rfl (by kernel_rfl) (by kernel_rfl) (by kernel_rfl) (fun _ _ _ h => h) (Or.inl ⟨by rfl, fun wS hSw => ?hyx8⟩) (by assumption) ?restx8
    case hyx8 => (obtain ⟨s0, s1, s2⟩ := hSw; go_simp; first | done | with_reducible rfl)
    try simp only [Act.put, List.setIfInBounds_toArray, List.set_cons_zero, List.set_cons_succ]
    refine take_dst (some 10) (i := 9) (v := ?vx9) rfl rfl (by kernel_rfl) (by kernel_rfl) (by kernel_rfl) (fun _ _ _ h => h) (Or.inl ⟨by rfl, fun wS hSw => ?hyx9⟩) (by assumption) ?restx9
    case hyx9 => (obtain ⟨s0, s1, s2⟩ := hSw; go_simp; first | done | with_reducible rfl)
    try simp only [Act.put, List.setIfInBounds_toArray, List.set_cons_zero, List.set_cons_succ]
    refine wpAnyH_done (by kernel_rfl) ?_ _
    have H8 := Lib.hid (below_ext H7.out hbS2)
    clear hbS hbS2
    go_wp2_with fail
    all_goals (go_ret; exact ⟨by show Ending.returned (Value.bool (decide (0 < (fewL l i).length))) = _; rw [tqN.out], H8.out⟩)
  · have hE3 : E = 220 := hE2.out
    subst hE3
    have tq : decide ((0 : Int) < ((fewL l i).length : Int)) = false := tq
    have tqN : Hid (decide (0 < (fewL l i).length) = false) := by have := tq; show _ = _; simp at this ⊢; simp [this]
    have tqM : Hid (decide ((fewL l i).length = 0) = true) := by have := tq; show _ = _; simp at this ⊢; simp [this]
    have hbS := (Below.refl w7.heap.size w7).drew
    refine wp_region_held_drew (S := fun w' => w'.cell? ⟨w5.heap.size, 0, none⟩ = some (.slice o3 (fewL l i).length cp3) ∧ w'.cell? ⟨w5.heap.size, 1, none⟩ = some (.int .i64 sh) ∧ w'.cell? ⟨w5.heap.size, 2, none⟩ = some (.int .i64 fa)) (by kernel_rfl) ⟨cell_ext hbS (StaAt.of HF7.out).c0, cell_ext hbS (StaAt.of HF7.out).c1, cell_ext hbS (StaAt.of HF7.out).c2⟩ (fun hHeld => ?_)
    refine take_dst (some 76) (i := 0) (v := ?vy0) rfl rfl (by kernel_rfl) (by kernel_rfl) (by kernel_rfl) (fun _ _ _ h => h) (Or.inl ⟨by rfl, fun wS hSw => ?hyy0⟩) (by assumption) ?resty0
    case hyy0 => (obtain ⟨s0, s1, s2⟩ := hSw; go_simp; first | done | with_reducible rfl)
    try simp only [Act.put, List.setIfInBounds_toArray, List.set_cons_zero, List.set_cons_succ]
    refine take_dst (some 77) (i := 1) (v := ?vy1) rfl rfl (by kernel_rfl) (by kernel_rfl) (by kernel_rfl) (fun _ _ _ h => h) (Or.inl ⟨by rfl, fun wS hSw => ?hyy1⟩) (by assumption) ?resty1
    case hyy1 => (obtain ⟨s0, s1, s2⟩ := hSw; go_simp; first | done | with_reducible rfl)
    try simp only [Act.put, List.setIfInBounds_toArray, List.set_cons_zero, List.set_cons_succ]
    refine take_dst (some 80) (i := 4) (v := ?vy4) rfl rfl (by kernel_rfl) (by kernel_rfl) (by kernel_rfl) (fun _ _ _ h => h) (Or.inl ⟨by rfl, fun wS hSw => ?hyy4⟩) (by assumption) ?resty4
    case hyy4 => (obtain ⟨s0, s1, s2⟩ := hSw; go_simp; first | done | with_reducible rfl)
    try simp only [Act.put, List.setIfInBounds_toArray, List.set_cons_zero, List.set_cons_succ]
    refine take_dst (some 81) (i := 5) (v := ?vy5) rfl rfl (by kernel_rfl) (by kernel_rfl) (by kernel_rfl) (fun _ _ _ h => h) (Or.inl ⟨by rfl, fun wS hSw => ?hyy5⟩) (by assumption) ?resty5
    case hyy5 => (obtain ⟨s0, s1, s2⟩ := hSw; go_simp; first | done | with_reducible rfl)
    try simp only [Act.put, List.setIfInBounds_toArray, List.set_cons_zero, List.set_cons_succ]
    refine take_dst (some 82) (i := 6) (v := ?vy6) rfl rfl (by kernel_rfl) (by kernel_rfl) (by kernel_rfl) (fun _ _ _ h => h) (Or.inl ⟨by rfl, fun wS hSw => ?hyy6⟩) (by assumption) ?resty6
    case hyy6 => (obtain ⟨s0, s1, s2⟩ := hSw; go_simp; first | done | with_reducible rfl)
    try simp only [Act.put, List.setIfInBounds_toArray, List.set_cons_zero, List.set_cons_succ]
    refine take_dst (some 83) (i := 7) (v := ?vy7) rfl rfl (by kernel_rfl) (by kernel_rfl) (by kernel_rfl) (fun _ _ _ h => h) (Or.inl ⟨by rfl, fun wS hSw => ?hyy7⟩) (by assumption) ?resty7
    case hyy7 => (obtain ⟨s0, s1, s2⟩ := hSw; go_simp; first | done | with_reducible rfl)
    try simp only [Act.put, List.setIfInBounds_toArray, List.set_cons_zero, List.set_cons_succ]
    refine wpAnyH_ready (rs := [2]) (by kernel_rfl) (by simp) ?_
    refine AllReadyH.cons rfl (fun K hK => ?_) AllReadyH.nil
    go_simp
    refine (sta_E many sh fa (fewL l i) _ 220 _ (HO7.out.rd.ext hbS) HE.out).mono ?_
    rintro e w8 ⟨rfl, hb7⟩
    have hbS2 : Below w7.heap.size w7 w8 := below_undrew' hb7
    refine hK.out _ _ ⟨cell_ext hbS2 (StaAt.of HF7.out).c0, cell_ext hbS2 (StaAt.of HF7.out).c1, cell_ext hbS2 (StaAt.of HF7.out).c2⟩ (fun hHeld => ?_)
    clear hK K
    try simp only [Act.put, List.setIfInBounds_toArray, List.set_cons_zero, List.set_cons_succ]
    refine take_dst (some 79) (i := 3) (v := ?vy3) rfl rfl (by kernel_rfl) (by kernel_rfl) (by kernel_rfl) (fun _ _ _ h => h) (Or.inl ⟨by rfl, fun wS hSw => ?hyy3⟩) (by assumption) ?resty3
    case hyy3 => (obtain ⟨s0, s1, s2⟩ := hSw; go_simp; first | done | with_reducible rfl)
    try simp only [Act.put, List.setIfInBounds_toArray, List.set_cons_zero, List.set_cons_succ]
    refine take_dst (some 84) (i := 8) (v := ?vy8) rfl rfl (by kernel_rfl) (by kernel_rfl) (by kernel_rfl) (fun _ _ _ h => h) (Or.inl ⟨by rfl, fun wS hSw => ?hyy8⟩) (by assumption) ?resty8
    case hyy8 => (obtain ⟨s0, s1, s2⟩ := hSw; go_simp; first | done | with_reducible rfl)
    try simp only [Act.put, List.setIfInBounds_toArray, List.set_cons_zero, List.set_cons_succ]
    refine take_dst (some 10) (i := 9) (v := ?vy9) rfl rfl (by kernel_rfl) (by kernel_rfl) (by kernel_rfl) (fun _ _ _ h => h) (Or.inl ⟨by rfl, fun wS hSw => ?hyy9⟩) (by assumption) ?resty9
    case hyy9 => (obtain ⟨s0, s1, s2⟩ := hSw; go_simp; first | done | with_reducible rfl)
    try simp only [Act.put, List.setIfInBounds_toArray, List.set_cons_zero, List.set_cons_succ]
    refine wpAnyH_done (by kernel_rfl) ?_ _
    have H8 := Lib.hid (below_ext H7.out hbS2)
    clear hbS hbS2
    go_wp2_with fail
    all_goals (go_ret; exact ⟨by first | rfl | (show Ending.returned (Value.bool (!decide (0 < (fewL l i).length))) = _; rw [tqN.out]; rfl) | (show Ending.returned (Value.bool (decide ((fewL l i).length = 0))) = _; rw [tqM.out]), H8.out⟩)
end Go.Proofs.Ytgdbmoggpfpkkaa
