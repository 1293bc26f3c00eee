/- the reference's Reader: Value, whatever lies ahead. -/
import Derived.Test.YtebedfcdbhgfdaaRrf
namespace Go.Proofs.Ytebedfcdbhgfdaa
open Go.RowKit

theorem rvalue_any : ∀ d, d ≤ 16 → RValSaid d := by
  intro d
  induction d with
  | zero =>
    intro hd B R p l di hdi hl w h hRw
    cases hp : l[p]? with
    | none => exact rvalue_end 0 B R p l di hl w h hRw (List.getElem?_eq_none_iff.1 hp)
    | some c =>
      by_cases h1 : c = 1
      · subst h1; exact rvalue_1 0 B R p l di hl w h hRw hp
      by_cases h2 : c = 2
      · subst h2; exact rvalue_2 0 B R p l di hl w h hRw hp
      by_cases h3 : c = 3
      · subst h3
        cases hN : rdNum 0 0 (l.drop (p + 1)) with
        | none => exact rvalue_3n 0 B R p l di hl w h hRw hp hN
        | some pr =>
          obtain ⟨n, r'⟩ := pr
          by_cases hnr : n ≤ r'.length
          · have hdi' : di = 16 := by simpa using hdi
            subst hdi'; exact rvalue_3z B R p l hl w h hRw hp n r' hN hnr
          · exact rvalue_3l 0 B R p l di hl w h hRw hp n r' hN hnr
      · exact rvalue_0 0 B R p c l di hl w h hRw hp h1 h2 h3
  | succ d ih =>
    intro hd B R p l di hdi hl w h hRw
    cases hp : l[p]? with
    | none => exact rvalue_end (d + 1) B R p l di hl w h hRw (List.getElem?_eq_none_iff.1 hp)
    | some c =>
      by_cases h1 : c = 1
      · subst h1; exact rvalue_1 (d + 1) B R p l di hl w h hRw hp
      by_cases h2 : c = 2
      · subst h2; exact rvalue_2 (d + 1) B R p l di hl w h hRw hp
      by_cases h3 : c = 3
      · subst h3
        cases hN : rdNum 0 0 (l.drop (p + 1)) with
        | none => exact rvalue_3n (d + 1) B R p l di hl w h hRw hp hN
        | some pr =>
          obtain ⟨n, r'⟩ := pr
          by_cases hnr : n ≤ r'.length
          · exact rvalue_3s d hd (ih (by omega)) B R p l hl di hdi w h hRw hp n r' hN hnr
          · exact rvalue_3l (d + 1) B R p l di hl w h hRw hp n r' hN hnr
      · exact rvalue_0 (d + 1) B R p c l di hl w h hRw hp h1 h2 h3
end Go.Proofs.Ytebedfcdbhgfdaa
