/- chapter 03: GroupHalves' walk. -/
import Derived.Test.YtglojhkdabngdaaGla
namespace Go.Proofs.Ytglojhkdabngdaa
open Go.RowKit Go.Shelf

set_option maxRecDepth 100000 in
set_option maxHeartbeats 4000000 in
theorem halves_walk (n : Nat) (w : World) : Calls Try.prog 6 #[.int .u64 n] w fun e w' => e = .returned (.bool true) ∧ Below w.heap.size w w' := by
  obtain ⟨s, hs⟩ : ∃ s, n % cP = s := ⟨_, rfl⟩
  have e1 : (n : Int) % 4611686018427377339 = (s : Int) := by rw [← hs]; rfl
  have hsl : Hid (s < cP) := by show _ < _; rw [← hs]; exact Nat.mod_lt _ cP_pos
  have e2 : IntKind.i64.wrap (s : Int) = (s : Int) := by
    have h : s < 4611686018427377339 := hsl.out
    simp only [IntKind.wrap_i64]; omega
  have Hs := Lib.hid hs
  clear hs
  go_enter Try.func6, Try.ntmps6
  go_wp2_with fail
  refine (sane_any _).mono ?_
  rintro e w1 ⟨rfl, hb1⟩
  by_cases z : s = 0
  · subst z
    go_wp2_with fail
    refine (check_bad 0 (Lib.hid nel_0) _).mono ?_
    rintro e w2 ⟨rfl, hb⟩
    replace hb1 := below_ext hb1 hb; clear hb
    go_wp2_with fail
    go_ret
    exact ⟨by simp, hb1⟩
  have t1 := nz z
  have Hz := Lib.hid z
  obtain ⟨q, hq⟩ : ∃ q, s * s % cP = q := ⟨_, rfl⟩
  have Hq : Hid (n % cP * (n % cP) % cP = q) := by show _ = _; rw [Hs.out]; exact hq
  have hnd : ¬ cP ∣ s := not_dvd (by omega) hsl.out
  have Hel : Hid (isEl q) := by show isEl q; rw [← hq]; exact sq_el hnd
  have tq : ((q : Int) == 0) = false := nz (by have := Hel.out.1; omega)
  obtain ⟨m, hm⟩ : ∃ m, cP - s = m := ⟨_, rfl⟩
  have e3 : wrap64 (4611686018427377339 - (s : Int)) = (m : Int) := by
    have h1 : s < 4611686018427377339 := hsl.out
    have h2 : 4611686018427377339 - s = m := hm
    unfold wrap64; omega
  have e4 : IntKind.i64.wrap (4611686018427377339 - (s : Int)) = (m : Int) := by rw [IntKind.wrap_i64]; unfold wrap64 at e3; exact e3
  have hh := Lib.hid (halves (a := s) (by omega) hsl.out)
  rw [hm] at hh
  clear hm hq hnd z
  go_wp2_with fail
  refine (elem_any n q Hq _).mono ?_
  rintro e w2 ⟨rfl, rfl⟩
  go_wp2_with fail
  refine (check_ok q Hel _).mono ?_
  rintro e w2 ⟨rfl, hb⟩
  replace hb1 := below_ext hb1 hb; clear hb
  by_cases hE : isEl s
  · have HE := Lib.hid hE
    clear hE
    have HB : Hid (¬ ZEl (m : Int)) := fun h => hh.out.1 HE.out (by have := h.2; rwa [Int.toNat_natCast] at this)
    go_wp2_with fail
    refine (check_ok s HE _).mono ?_
    rintro e w3 ⟨rfl, hb⟩
    replace hb1 := below_ext hb1 hb; clear hb
    go_wp2_with fail
    refine (check_bad m HB _).mono ?_
    rintro e w4 ⟨rfl, hb⟩
    replace hb1 := below_ext hb1 hb; clear hb
    go_wp2_with fail
    go_ret
    exact ⟨by simp, hb1⟩
  · have HE : Hid (¬ ZEl (s : Int)) := fun h => hE (by have := h.2; rwa [Int.toNat_natCast] at this)
    have HB : Hid (isEl m) := Classical.byContradiction fun h => hE (hh.out.2 h)
    clear hE
    go_wp2_with fail
    refine (check_bad s HE _).mono ?_
    rintro e w3 ⟨rfl, hb⟩
    replace hb1 := below_ext hb1 hb; clear hb
    go_wp2_with fail
    refine (check_ok m HB _).mono ?_
    rintro e w4 ⟨rfl, hb⟩
    replace hb1 := below_ext hb1 hb; clear hb
    go_wp2_with fail
    go_ret
    exact ⟨by simp, hb1⟩
theorem halves_row (a : Int) (w : World) (h1 : (Lit.int .u64 a).wf = true) : Calls Try.prog 6 #[.int .u64 a] w fun e w' => e = .returned (.bool true) ∧ Below w.heap.size w w' := by
  obtain ⟨k1, rfl⟩ := u64_nat h1
  exact halves_walk k1 w
end Go.Proofs.Ytglojhkdabngdaa
