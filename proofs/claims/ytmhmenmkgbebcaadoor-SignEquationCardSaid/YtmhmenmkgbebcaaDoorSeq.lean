/- SignEquation: the group's functions at every input, and the plain law. -/
import Derived.Test.YtmhmenmkgbebcaaDoorSlv
namespace Go.Proofs.YtmhmenmkgbebcaaDoor
open Go.RowKit Go.Shelf
def BasE (S a f : Int) : Prop := (∃ s p : Nat, S = (s : Int) ∧ s < cQ ∧ pw 4 s = p ∧ a = (p : Int) ∧ f = 0) ∨ (¬ ZSc S ∧ a = 0 ∧ f = 1)
def ExpE (P : Int) (c : Nat) (b g : Int) : Prop := (∃ p q : Nat, P = (p : Int) ∧ isEl p ∧ pw p c = q ∧ b = (q : Int) ∧ g = 0) ∨ (¬ ZEl P ∧ b = 0 ∧ g = 30)
def MulE (R b d i : Int) : Prop := (∃ r q z : Nat, R = (r : Int) ∧ b = (q : Int) ∧ isEl r ∧ isEl q ∧ r * q % cP = z ∧ d = (z : Int) ∧ i = 0) ∨ (¬ (ZEl R ∧ ZEl b) ∧ d = 0 ∧ i = 30)
theorem basE_ex (S : Int) : ∃ a f, BasE S a f := by
  by_cases h : ZSc S
  · obtain ⟨s, rfl, hs⟩ := sc_nat h
    exact ⟨_, _, .inl ⟨s, _, rfl, hs, rfl, rfl, rfl⟩⟩
  · exact ⟨_, _, .inr ⟨h, rfl, rfl⟩⟩
theorem expE_ex (P : Int) (c : Nat) : ∃ b g, ExpE P c b g := by
  by_cases h : ZEl P
  · obtain ⟨p, rfl, hp⟩ := el_nat h
    exact ⟨_, _, .inl ⟨p, _, rfl, hp, rfl, rfl, rfl⟩⟩
  · exact ⟨_, _, .inr ⟨h, rfl, rfl⟩⟩
theorem mulE_ex (R b : Int) : ∃ d i, MulE R b d i := by
  by_cases h : ZEl R ∧ ZEl b
  · obtain ⟨r, rfl, hr⟩ := el_nat h.1
    obtain ⟨q, rfl, hq⟩ := el_nat h.2
    exact ⟨_, _, .inl ⟨r, q, _, rfl, rfl, hr, hq, rfl, rfl, rfl⟩⟩
  · exact ⟨_, _, .inr ⟨h, rfl, rfl⟩⟩
theorem base_bad (x : Int) (h : Hid (¬ ZSc x)) (w : World) : Calls Tryd.prog 22 #[.int .i64 x] w fun e w' => e = .returned (.tuple #[.int .i64 0, .int .i64 1]) ∧ Below w.heap.size w w' := by
  have hx := Lib.hid (zsc_not h.out)
  go_enter Tryd.func22, Tryd.ntmps22
  go_wp2_with fail
  have hcall : Calls Tryd.prog 23 #[.int .i64 4, .int .i64 x] w fun e w' => e = .returned (.tuple #[.int .i64 0, .int .i64 1]) ∧ Below w.heap.size w w' := by
    rcases hx.out with h | h
    · exact exp_neg 4 x (Lib.hid el_four) (Lib.hid h) w
    · exact exp_big 4 x (Lib.hid el_four) (Lib.hid h) w
  refine hcall.mono ?_
  rintro e w1 ⟨rfl, hb1⟩
  clear hcall
  go_wp2_with fail
  go_ret2
  exact ⟨rfl, hb1⟩
theorem base_val (S a f : Int) (h : Hid (BasE S a f)) (w : World) : Calls Tryd.prog 22 #[.int .i64 S] w fun e w' => e = .returned (.tuple #[.int .i64 a, .int .i64 f]) ∧ Below w.heap.size w w' := by
  rcases h.out with ⟨s, p, rfl, h1, h2, rfl, rfl⟩ | ⟨h1, rfl, rfl⟩
  · exact base_ok s p h1 h2 w
  · exact base_bad S h1 w
theorem exp_val (P : Int) (c : Nat) (b g : Int) (hc : Hid (c < cQ)) (h : Hid (ExpE P c b g)) (w : World) : Calls Tryd.prog 23 #[.int .i64 P, .int .i64 c] w fun e w' => e = .returned (.tuple #[.int .i64 b, .int .i64 g]) ∧ Below w.heap.size w w' := by
  rcases h.out with ⟨p, q, rfl, h1, h2, rfl, rfl⟩ | ⟨h1, rfl, rfl⟩
  · exact exp_ok p c q h1 hc h2 w
  · exact exp_bad P c h1 w
theorem mul_bad1 (a b : Int) (ha : Hid (¬ ZEl a)) (w : World) : Calls Tryd.prog 25 #[.int .i64 a, .int .i64 b] w fun e w' => e = .returned (.tuple #[.int .i64 0, .int .i64 30]) ∧ Below w.heap.size w w' := by
  have i0 : ∀ w : World, (Instr.index 54 (.agg #[.int .i64 a, .int .i64 b]) (.int .i64 0)).run Tryd.prog w = .ok (.int .i64 a) w := fun _ => by kernel_rfl
  go_enter Tryd.func25, Tryd.ntmps25
  go_wp2_with fail
  refine wp_loop_rounds 3 ?_
  rw [rounds_succ]; go_wp2_with fail
  refine (check_bad a ha _).mono ?_
  rintro e w1 ⟨rfl, hb1⟩
  go_wp2_with fail
  go_ret2
  exact ⟨rfl, hb1⟩
theorem mul_bad2 (a : Nat) (b : Int) (ha : Hid (isEl a)) (hb : Hid (¬ ZEl b)) (w : World) : Calls Tryd.prog 25 #[.int .i64 a, .int .i64 b] w fun e w' => e = .returned (.tuple #[.int .i64 0, .int .i64 30]) ∧ Below w.heap.size w w' := by
  have i0 : ∀ w : World, (Instr.index 54 (.agg #[.int .i64 a, .int .i64 b]) (.int .i64 0)).run Tryd.prog w = .ok (.int .i64 a) w := fun _ => by kernel_rfl
  have i1 : ∀ w : World, (Instr.index 54 (.agg #[.int .i64 a, .int .i64 b]) (.int .i64 1)).run Tryd.prog w = .ok (.int .i64 b) w := fun _ => by kernel_rfl
  go_enter Tryd.func25, Tryd.ntmps25
  go_wp2_with fail
  refine wp_loop_rounds 3 ?_
  rw [rounds_succ]; go_wp2_with fail
  refine (check_ok a ha _).mono ?_
  rintro e w1 ⟨rfl, hb1⟩
  go_wp2_with fail
  rw [rounds_succ]; go_wp2_with fail
  refine (check_bad b hb _).mono ?_
  rintro e w2 ⟨rfl, hb2⟩
  have hb3 := below_ext hb1 hb2
  clear hb1 hb2
  go_wp2_with fail
  go_ret2
  exact ⟨rfl, hb3⟩
theorem mul_val (R b d i : Int) (h : Hid (MulE R b d i)) (w : World) : Calls Tryd.prog 25 #[.int .i64 R, .int .i64 b] w fun e w' => e = .returned (.tuple #[.int .i64 d, .int .i64 i]) ∧ Below w.heap.size w w' := by
  rcases h.out with ⟨r, q, z, rfl, rfl, h1, h2, h3, rfl, rfl⟩ | ⟨h1, rfl, rfl⟩
  · exact mul_ok r q z h1 h2 h3 w
  · by_cases hR : ZEl R
    · obtain ⟨r, rfl, hr⟩ := el_nat hR
      exact mul_bad2 r b hr (fun hb => h1 ⟨hR, hb⟩) w
    · exact mul_bad1 R b hR w
theorem ElE.nz {a x : Int} (h : ElE a x) (hz : ZEl a) : x = 0 := by
  rcases h with ⟨_, h⟩ | ⟨h, _⟩
  · exact h
  · exact absurd hz h
theorem ScE.nz {a x : Int} (h : ScE a x) (hz : ZSc a) : x = 0 := by
  rcases h with ⟨_, h⟩ | ⟨h, _⟩
  · exact h
  · exact absurd hz h
theorem eq_fin {P R S : Int} {l : List UInt8} {c : Nat} {e1 e2 e3 a f b g d i : Int} {t : Bool} (hc : chalK R P l = c) (h1 : ElE P e1) (h2 : ElE R e2) (h3 : ScE S e3) (h4 : VerCase P R S e1 e2 e3 l t)
    (hB : BasE S a f) (hX : ExpE P c b g) (hM : MulE R b d i) : t = (((f == 0) && (g == 0) && (i == 0)) && (a == d)) := by
  rcases h4 with ⟨hne, rfl⟩ | ⟨rfl, rfl, rfl, p, r, s, a', b', c', d', rfl, rfl, rfl, hp, hr, hs, hc', ha, hb, hd, ht⟩
  · by_cases hall : f = 0 ∧ g = 0 ∧ i = 0
    · exfalso
      obtain ⟨rfl, rfl, rfl⟩ := hall
      apply hne
      refine ⟨h1.nz ?_, h2.nz ?_, h3.nz ?_⟩
      · rcases hX with ⟨p, q, rfl, hp, _⟩ | ⟨_, _, h⟩
        · exact zel_nat hp
        · omega
      · rcases hM with ⟨r, q, z, rfl, _, hr, _⟩ | ⟨_, _, h⟩
        · exact zel_nat hr
        · omega
      · rcases hB with ⟨s, q, rfl, hs, _⟩ | ⟨_, _, h⟩
        · exact zsc_nat hs
        · omega
    · simp
      intro q1 q2 q3
      exact absurd ⟨q1, q2, q3⟩ hall
  · have hcc : c' = c := hc'.symm.trans hc
    subst hcc
    rcases hB with ⟨s2, p2, hs2, _, hp2, rfl, rfl⟩ | ⟨h, _⟩
    · obtain rfl : s = s2 := by omega
      rcases hX with ⟨p3, q3, hp3, _, hq3, rfl, rfl⟩ | ⟨h, _⟩
      · obtain rfl : p = p3 := by omega
        rcases hM with ⟨r4, q4, z4, hr4, hq4, _, _, hz4, rfl, rfl⟩ | ⟨h, _⟩
        · obtain rfl : r = r4 := by omega
          obtain rfl : q3 = q4 := by omega
          rw [← ht, ← ha, ← hd, ← hb, ← hp2, ← hz4, ← hq3]; simp
        · exact absurd ⟨zel_nat hr, zel_nat (hq3 ▸ pw_el hp _)⟩ h
      · exact absurd (zel_nat hp) h
    · exact absurd (zsc_nat hs) h
end Go.Proofs.YtmhmenmkgbebcaaDoor
