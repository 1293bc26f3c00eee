/- arguments opened: a signature. -/
import Derived.Test.YtmhmenmkgbebcaaDoorOpb
import Derived.ChangeSame
namespace Go.Proofs.YtmhmenmkgbebcaaDoor
open Go.RowKit Go.ChangeShapes Go.WideShapes
section
variable {H : Type} {enc : TypeId × Value → H} {w : World}
theorem open_Sig {r : Reach} {b0 : Nat} {v : Value} {d : DataW H} {p : List MemPlace} (hv : Value.okWide Tryd.prog w r b0 30 v) (h : DataW.Trod enc Tryd.prog w 0 (fun _ => true) true 30 v d p) : ∃ a b : Int, v = .agg #[.int .i64 a, .int .i64 b] := by
  obtain ⟨cs, rfl, hsz⟩ := okWide_struct Tryd.underlying30 hv
  obtain ⟨n, hf⟩ := h
  obtain ⟨y0, y1, n', _, hl, f0, f1⟩ := trod_struct2 Tryd.underlying30 hf
  have hl2 : (Value.agg cs).cells.toList.length = 2 := hl.trans (by kernel_rfl)
  have hcs : (Value.agg cs).cells.toList = cs.toList := by simp [Value.cells]
  rw [hcs] at hl2 f0 f1
  match hm : cs.toList, hl2 with
  | [c0, c1], _ =>
    rw [hm] at f0 f1
    obtain ⟨a, e0, _, _⟩ := DataW.trod_int Tryd.underlying3 f0
    obtain ⟨b, e1, _, _⟩ := DataW.trod_int Tryd.underlying3 f1
    have g0 : [c0] = [Value.int .i64 a] := e0
    have g1 : [c1] = [Value.int .i64 b] := e1
    injection g0 with g0; injection g1 with g1
    subst g0; subst g1
    exact ⟨a, b, by rw [show cs = #[.int .i64 a, .int .i64 b] from Array.toList_inj.1 hm]⟩
end
end Go.Proofs.YtmhmenmkgbebcaaDoor
