/- Sum and Product of scalars at every input, the program's and the reference's. -/
import Derived.Test.YtmhmenmkgbebcaaDoorFsc
namespace Go.Proofs.YtmhmenmkgbebcaaDoor
open Go.RowKit Go.Shelf
/-- a scalar -/
def ZSc (x : Int) : Prop := 0 ≤ x ∧ x < (cQ : Int)
theorem zsc_not {x : Int} (h : ¬ ZSc x) : x < 0 ∨ (cQ : Int) ≤ x := by unfold ZSc at h; omega
theorem tneg {x : Int} (h : x < 0) : decide (x < 0) = true := decide_eq_true h
theorem tbig {x : Int} (h : (cQ : Int) ≤ x) : decide (x < 0) = false ∧ decide ((2305843009213688669 : Int) ≤ x) = true :=
  ⟨decide_eq_false (Int.not_lt.2 (Int.le_trans (by decide : (0 : Int) ≤ (cQ : Int)) h)), decide_eq_true h⟩
set_option maxRecDepth 100000 in
theorem scalars_bad1 (x : Int) (b cap : Nat) (h : Hid (¬ ZSc x)) (w : World) (hc : w.cell? ⟨b, 0, none⟩ = some (.int .i64 x)) :
    Calls Tryd.prog 47 #[.slice (some ⟨b, 0, none⟩) 2 cap] w fun e w' => e = .returned (.bool false) ∧ w = w' := by
  rcases zsc_not h.out with hx | hx
  · have t1 := tneg hx
    clear hx
    go_enter Tryd.func47, Tryd.ntmps47
    go_wp2
    refine wp_loop_rounds 3 ?_
    rw [rounds_succ]; go_wp2
    go_ret
    exact ⟨rfl, rfl⟩
  · obtain ⟨t1, t2⟩ := tbig hx
    clear hx
    go_enter Tryd.func47, Tryd.ntmps47
    go_wp2
    refine wp_loop_rounds 3 ?_
    rw [rounds_succ]; go_wp2
    go_ret
    exact ⟨rfl, rfl⟩
set_option maxRecDepth 100000 in
theorem scalars_bad2 (x y : Int) (b cap : Nat) (hx : Hid (ZSc x)) (h : Hid (¬ ZSc y)) (w : World) (hc : w.cell? ⟨b, 0, none⟩ = some (.int .i64 x)) (hc2 : w.cell? ⟨b, 1, none⟩ = some (.int .i64 y)) :
    Calls Tryd.prog 47 #[.slice (some ⟨b, 0, none⟩) 2 cap] w fun e w' => e = .returned (.bool false) ∧ w = w' := by
  obtain ⟨s1, s2⟩ := sc_tests hx.out
  rcases zsc_not h.out with hy | hy
  · have t1 := tneg hy
    clear hy
    go_enter Tryd.func47, Tryd.ntmps47
    go_wp2
    refine wp_loop_rounds 3 ?_
    rw [rounds_succ]; go_wp2
    rw [rounds_succ]; go_wp2
    go_ret
    exact ⟨rfl, rfl⟩
  · obtain ⟨t1, t2⟩ := tbig hy
    clear hy
    go_enter Tryd.func47, Tryd.ntmps47
    go_wp2
    refine wp_loop_rounds 3 ?_
    rw [rounds_succ]; go_wp2
    rw [rounds_succ]; go_wp2
    go_ret
    exact ⟨rfl, rfl⟩
/-- what two scalars come to, or the error -/
def ScPost (x y : Int) (f : Nat → Nat → Nat) (w : World) (e : Ending) (w' : World) : Prop :=
  (∃ r k : Int, e = .returned (.tuple #[.int .i64 r, .int .i64 k]) ∧ ((ZSc x ∧ ZSc y ∧ r = (f x.toNat y.toNat : Nat) ∧ k = 0) ∨ (¬ (ZSc x ∧ ZSc y) ∧ r = 0 ∧ k = 1))) ∧ Below w.heap.size w w'
theorem ScPost.bad {x y : Int} {f : Nat → Nat → Nat} {w w' : World} (h : ¬ (ZSc x ∧ ZSc y)) (hb : Below w.heap.size w w') : ScPost x y f w (.returned (.tuple #[.int .i64 0, .int .i64 1])) w' := ⟨⟨0, 1, rfl, .inr ⟨h, rfl, rfl⟩⟩, hb⟩
theorem gsum_any (x y : Int) (w : World) : Calls Tryd.prog 36 #[.int .i64 x, .int .i64 y] w (ScPost x y (fun a b => (a + b) % cQ) w) := by
  by_cases hx : ZSc x
  case neg =>
    have h := Lib.hid hx
    have hxy := Lib.hid (show ¬ (ZSc x ∧ ZSc y) from fun h => hx h.1)
    clear hx
    go_enter Tryd.func36, Tryd.ntmps36
    go_wp2_with fail
    refine (scalars_bad1 x _ _ h _ (by simp)).mono ?_
    rintro e w2 ⟨rfl, rfl⟩
    go_wp2_with fail
    go_ret2
    exact ScPost.bad hxy.out ((Below.refl _ _).alloc (Nat.le_refl _) _)
  case pos =>
    by_cases hy : ZSc y
    case neg =>
      have h := Lib.hid hy; have h1 := Lib.hid hx
      have hxy := Lib.hid (show ¬ (ZSc x ∧ ZSc y) from fun h => hy h.2)
      clear hx hy
      go_enter Tryd.func36, Tryd.ntmps36
      go_wp2_with fail
      refine (scalars_bad2 x y _ _ h1 h _ (by simp) (by simp)).mono ?_
      rintro e w2 ⟨rfl, rfl⟩
      go_wp2_with fail
      go_ret2
      exact ScPost.bad hxy.out ((Below.refl _ _).alloc (Nat.le_refl _) _)
    case pos =>
      obtain ⟨a, rfl⟩ : ∃ a : Nat, x = (a : Int) := ⟨x.toNat, by have := hx.1; omega⟩
      obtain ⟨b, rfl⟩ : ∃ b : Nat, y = (b : Int) := ⟨y.toNat, by have := hy.1; omega⟩
      refine (sum_any a b _ (Lib.hid (Int.ofNat_lt.1 hx.2)) (Lib.hid (Int.ofNat_lt.1 hy.2)) (Lib.hid rfl) w).mono ?_
      rintro e w' ⟨rfl, hb⟩
      exact ⟨⟨_, _, rfl, .inl ⟨hx, hy, rfl, rfl⟩⟩, hb⟩
theorem gprod_any (x y : Int) (w : World) : Calls Tryd.prog 26 #[.int .i64 x, .int .i64 y] w (ScPost x y (fun a b => a * b % cQ) w) := by
  by_cases hx : ZSc x
  case neg =>
    have h := Lib.hid hx
    have hxy := Lib.hid (show ¬ (ZSc x ∧ ZSc y) from fun h => hx h.1)
    clear hx
    go_enter Tryd.func26, Tryd.ntmps26
    go_wp2_with fail
    refine (scalars_bad1 x _ _ h _ (by simp)).mono ?_
    rintro e w2 ⟨rfl, rfl⟩
    go_wp2_with fail
    go_ret2
    exact ScPost.bad hxy.out ((Below.refl _ _).alloc (Nat.le_refl _) _)
  case pos =>
    by_cases hy : ZSc y
    case neg =>
      have h := Lib.hid hy; have h1 := Lib.hid hx
      have hxy := Lib.hid (show ¬ (ZSc x ∧ ZSc y) from fun h => hy h.2)
      clear hx hy
      go_enter Tryd.func26, Tryd.ntmps26
      go_wp2_with fail
      refine (scalars_bad2 x y _ _ h1 h _ (by simp) (by simp)).mono ?_
      rintro e w2 ⟨rfl, rfl⟩
      go_wp2_with fail
      go_ret2
      exact ScPost.bad hxy.out ((Below.refl _ _).alloc (Nat.le_refl _) _)
    case pos =>
      obtain ⟨a, rfl⟩ : ∃ a : Nat, x = (a : Int) := ⟨x.toNat, by have := hx.1; omega⟩
      obtain ⟨b, rfl⟩ : ∃ b : Nat, y = (b : Int) := ⟨y.toNat, by have := hy.1; omega⟩
      refine (prod_any a b _ (Lib.hid (Int.ofNat_lt.1 hx.2)) (Lib.hid (Int.ofNat_lt.1 hy.2)) (Lib.hid rfl) w).mono ?_
      rintro e w' ⟨rfl, hb⟩
      exact ⟨⟨_, _, rfl, .inl ⟨hx, hy, rfl, rfl⟩⟩, hb⟩
theorem issc_yes (x : Int) (h : Hid (ZSc x)) (w : World) : Calls Tryd.prog 55 #[.int .i64 x] w fun e w' => e = .returned (.bool true) ∧ w = w' := by
  have t1 : decide (0 ≤ x) = true := decide_eq_true h.out.1
  have t2 : decide (x < (2305843009213688669 : Int)) = true := decide_eq_true h.out.2
  go_enter Tryd.func55, Tryd.ntmps55
  go_wp2
  go_ret
  exact ⟨rfl, rfl⟩
theorem issc_no (x : Int) (h : Hid (¬ ZSc x)) (w : World) : Calls Tryd.prog 55 #[.int .i64 x] w fun e w' => e = .returned (.bool false) ∧ w = w' := by
  rcases zsc_not h.out with hx | hx
  · have t1 : decide (0 ≤ x) = false := decide_eq_false (Int.not_le.2 hx)
    clear hx
    go_enter Tryd.func55, Tryd.ntmps55
    go_wp2
    go_ret
    exact ⟨rfl, rfl⟩
  · have t1 : decide (0 ≤ x) = true := decide_eq_true (Int.le_trans (by decide : (0 : Int) ≤ (cQ : Int)) hx)
    have t2 : decide (x < (2305843009213688669 : Int)) = false := decide_eq_false (Int.not_lt.2 hx)
    clear hx
    go_enter Tryd.func55, Tryd.ntmps55
    go_wp2
    go_ret
    exact ⟨rfl, rfl⟩
theorem cQ_le : Hid (cQ ≤ 4611686018427387904) := (by decide : cQ ≤ 4611686018427387904)
theorem rSum_any (x y : Int) (w : World) : Calls Tryd.prog 41 #[.int .i64 x, .int .i64 y] w (ScPost x y (fun a b => (a + b) % cQ) w) := by
  by_cases hx : ZSc x
  case neg =>
    have h := Lib.hid hx
    have hxy := Lib.hid (show ¬ (ZSc x ∧ ZSc y) from fun h => hx h.1)
    clear hx
    go_enter Tryd.func41, Tryd.ntmps41
    go_wp2_with fail
    refine (issc_no x h _).mono ?_
    rintro e w2 ⟨rfl, rfl⟩
    go_wp2_with fail
    go_ret2
    exact ScPost.bad hxy.out (Below.refl _ _)
  case pos =>
    by_cases hy : ZSc y
    case neg =>
      have h := Lib.hid hy; have h1 := Lib.hid hx
      have hxy := Lib.hid (show ¬ (ZSc x ∧ ZSc y) from fun h => hy h.2)
      clear hx hy
      go_enter Tryd.func41, Tryd.ntmps41
      go_wp2_with fail
      refine (issc_yes x h1 _).mono ?_
      rintro e w2 ⟨rfl, rfl⟩
      go_wp2_with fail
      refine (issc_no y h _).mono ?_
      rintro e w2 ⟨rfl, rfl⟩
      go_wp2_with fail
      go_ret2
      exact ScPost.bad hxy.out (Below.refl _ _)
    case pos =>
      obtain ⟨a, rfl⟩ : ∃ a : Nat, x = (a : Int) := ⟨x.toNat, by have := hx.1; omega⟩
      obtain ⟨b, rfl⟩ : ∃ b : Nat, y = (b : Int) := ⟨y.toNat, by have := hy.1; omega⟩
      have h1 := Lib.hid hx; have h2 := Lib.hid hy
      have h3 := Lib.hid (Int.ofNat_lt.1 hx.2); have h4 := Lib.hid (Int.ofNat_lt.1 hy.2)
      obtain ⟨r, hr⟩ : ∃ r, (a + b) % cQ = r := ⟨_, rfl⟩
      have Hr := Lib.hid hr
      have hfin : Hid (ScPost (a : Int) (b : Int) (fun a b => (a + b) % cQ) w (.returned (.tuple #[.int .i64 r, .int .i64 0])) w) := ⟨⟨_, _, rfl, .inl ⟨hx, hy, by rw [← hr]; rfl, rfl⟩⟩, Below.refl _ _⟩
      clear hx hy hr
      go_enter Tryd.func41, Tryd.ntmps41
      go_wp2_with fail
      refine (issc_yes a h1 _).mono ?_
      rintro e w2 ⟨rfl, rfl⟩
      go_wp2_with fail
      refine (issc_yes b h2 _).mono ?_
      rintro e w2 ⟨rfl, rfl⟩
      go_wp2_with fail
      refine (refsum_any a b cQ r h3 h4 cQ_le Hr _).mono ?_
      rintro e w2 ⟨rfl, rfl⟩
      go_wp2_with fail
      go_ret2
      exact hfin.out
theorem rProd_any (x y : Int) (w : World) : Calls Tryd.prog 39 #[.int .i64 x, .int .i64 y] w (ScPost x y (fun a b => a * b % cQ) w) := by
  by_cases hx : ZSc x
  case neg =>
    have h := Lib.hid hx
    have hxy := Lib.hid (show ¬ (ZSc x ∧ ZSc y) from fun h => hx h.1)
    clear hx
    go_enter Tryd.func39, Tryd.ntmps39
    go_wp2_with fail
    refine (issc_no x h _).mono ?_
    rintro e w2 ⟨rfl, rfl⟩
    go_wp2_with fail
    go_ret2
    exact ScPost.bad hxy.out (Below.refl _ _)
  case pos =>
    by_cases hy : ZSc y
    case neg =>
      have h := Lib.hid hy; have h1 := Lib.hid hx
      have hxy := Lib.hid (show ¬ (ZSc x ∧ ZSc y) from fun h => hy h.2)
      clear hx hy
      go_enter Tryd.func39, Tryd.ntmps39
      go_wp2_with fail
      refine (issc_yes x h1 _).mono ?_
      rintro e w2 ⟨rfl, rfl⟩
      go_wp2_with fail
      refine (issc_no y h _).mono ?_
      rintro e w2 ⟨rfl, rfl⟩
      go_wp2_with fail
      go_ret2
      exact ScPost.bad hxy.out (Below.refl _ _)
    case pos =>
      obtain ⟨a, rfl⟩ : ∃ a : Nat, x = (a : Int) := ⟨x.toNat, by have := hx.1; omega⟩
      obtain ⟨b, rfl⟩ : ∃ b : Nat, y = (b : Int) := ⟨y.toNat, by have := hy.1; omega⟩
      have h1 := Lib.hid hx; have h2 := Lib.hid hy
      have h3 := Lib.hid (Int.ofNat_lt.1 hx.2); have h4 := Lib.hid (Int.ofNat_lt.1 hy.2)
      obtain ⟨r, hr⟩ : ∃ r, a * b % cQ = r := ⟨_, rfl⟩
      have Hr := Lib.hid hr
      have hfin : Hid (ScPost (a : Int) (b : Int) (fun a b => a * b % cQ) w (.returned (.tuple #[.int .i64 r, .int .i64 0])) w) := ⟨⟨_, _, rfl, .inl ⟨hx, hy, by rw [← hr]; rfl, rfl⟩⟩, Below.refl _ _⟩
      clear hx hy hr
      go_enter Tryd.func39, Tryd.ntmps39
      go_wp2_with fail
      refine (issc_yes a h1 _).mono ?_
      rintro e w2 ⟨rfl, rfl⟩
      go_wp2_with fail
      refine (issc_yes b h2 _).mono ?_
      rintro e w2 ⟨rfl, rfl⟩
      go_wp2_with fail
      refine (modular_any a b cQ r h3 h4 cQ_le Hr _).mono ?_
      rintro e w2 ⟨rfl, rfl⟩
      go_wp2_with fail
      go_ret2
      exact hfin.out
theorem ScPost.same {x y : Int} {f : Nat → Nat → Nat} {r k r' k' : Int} (h : (ZSc x ∧ ZSc y ∧ r = (f x.toNat y.toNat : Nat) ∧ k = 0) ∨ (¬ (ZSc x ∧ ZSc y) ∧ r = 0 ∧ k = 1)) (h' : (ZSc x ∧ ZSc y ∧ r' = (f x.toNat y.toNat : Nat) ∧ k' = 0) ∨ (¬ (ZSc x ∧ ZSc y) ∧ r' = 0 ∧ k' = 1)) : r' = r ∧ k' = k := by
  rcases h with ⟨a, b, rfl, rfl⟩ | ⟨a, rfl, rfl⟩ <;> rcases h' with ⟨a', b', rfl, rfl⟩ | ⟨a', rfl, rfl⟩
  · exact ⟨rfl, rfl⟩
  · exact absurd ⟨a, b⟩ a'
  · exact absurd ⟨a', b'⟩ a
  · exact ⟨rfl, rfl⟩
end Go.Proofs.YtmhmenmkgbebcaaDoor
