/- codec.reader: value, whatever lies ahead. -/
import Derived.Test.YtebedfcdbhgfdaaRdy
namespace Go.Proofs.Ytebedfcdbhgfdaa
open Go.RowKit

set_option maxRecDepth 100000 in
set_option maxHeartbeats 1000000 in
theorem value_nil (d : Nat) (B R : Nat) (di : Int) (w : World) (hr : RdrAt B w R []) (hRw : R < w.heap.size) :
    Calls Try.prog 32 #[.pointer (some ⟨R, 0, none⟩), .int .i64 di] w (ValPost B R (rdV d []) w) := by
  have HR := Lib.hid hr; clear hr
  have hn := Lib.hid (rdV_nil d)
  go_enter Try.func32, Try.ntmps32
  go_wp2_with (go_at_call 44; refine (take_bad B R [] 1 _ rfl _ (RdrAt.keep HR.out fun k hk => Below.heap_alloc _ _ k (by omega)) (by simp) (by omega)).mono ?_; rintro e w' ⟨rfl, rfl⟩)
  exact ⟨rfl, by rw [hn.out]; exact And.intro rfl (grown_alloc (grown_refl w _) _)⟩

theorem value_any : ∀ d, d ≤ 16 → ValSaid d := by
  intro d
  induction d with
  | zero =>
    intro hd B R l di hdi hl w hr hRw
    cases l with
    | nil => exact value_nil 0 B R di w hr hRw
    | cons c r =>
      by_cases h1 : c = 1
      · subst h1; exact value_1 0 B R r di hl w hr hRw
      by_cases h2 : c = 2
      · subst h2; exact value_2 0 B R r di hl w hr hRw
      by_cases h3 : c = 3
      · subst h3; subst hdi; exact value_3 0 hd (fun d' h => by omega) B R r hl w hr hRw
      · exact value_0 0 B R c r di hl w hr hRw h1 h2 h3
  | succ d ih =>
    intro hd B R l di hdi hl w hr hRw
    cases l with
    | nil => exact value_nil (d + 1) B R di w hr hRw
    | cons c r =>
      by_cases h1 : c = 1
      · subst h1; exact value_1 (d + 1) B R r di hl w hr hRw
      by_cases h2 : c = 2
      · subst h2; exact value_2 (d + 1) B R r di hl w hr hRw
      by_cases h3 : c = 3
      · subst h3; subst hdi; exact value_3 (d + 1) hd (fun d' h => by obtain rfl : d = d' := by omega
                                                                      exact ih (by omega)) B R r hl w hr hRw
      · exact value_0 (d + 1) B R c r di hl w hr hRw h1 h2 h3
end Go.Proofs.Ytebedfcdbhgfdaa
