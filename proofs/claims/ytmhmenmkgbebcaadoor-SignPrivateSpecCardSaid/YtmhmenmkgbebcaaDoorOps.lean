/- arguments opened: a digest; bytes with their reach. -/
import Derived.Test.YtmhmenmkgbebcaaDoorOpb
import Derived.Test.YtmhmenmkgbebcaaDoorDcc
import Derived.ChangeSame
import Derived.SizedLaws
namespace Go.Proofs.YtmhmenmkgbebcaaDoor
open Go.RowKit Go.ChangeShapes Go.WideShapes
section
variable {H : Type} {enc : TypeId × Value → H} {w : World}
theorem open_Dig {r : Reach} {b0 : Nat} {v : Value} {d : DataW H} {p : List MemPlace} (hv : Value.okWide Tryd.prog w r b0 35 v) (h : DataW.Trod enc Tryd.prog w 0 (fun _ => true) true 35 v d p) : ∃ l : List UInt8, l.length = 32 ∧ v = dv l := by
  have hu := Tryd.underlying35
  simp only [Value.okWide, hu] at hv
  obtain ⟨cs, rfl, hsz, _⟩ := hv
  have hsz2 : cs.size = 32 := hsz.trans (by kernel_rfl)
  obtain ⟨n, hf⟩ := h
  cases n with
  | zero => simp [DataW.trod] at hf
  | succ n =>
    unfold DataW.trod at hf
    rw [hu] at hf
    have hcs : (Value.agg cs).cells.toList = cs.toList := by simp [Value.cells]
    have hc1 : Tryd.prog.cellsOf 5 = 1 := by kernel_rfl
    simp only [hcs, hc1, Nat.mul_one] at hf
    split at hf
    · obtain ⟨xs, hx, _⟩ := Option.map_eq_some_iff.1 hf
      have each : ∀ i, i < 32 → ∃ c : UInt8, cs[i]? = some (.int .u8 (c.toNat : Int)) := by
        intro i hi
        obtain ⟨y, hy⟩ := mapM_each hx i (by simpa using hi)
        obtain ⟨m, e, _, hw⟩ := DataW.trod_int Tryd.underlying5 hy
        have hb := u8_of_wf hw
        refine ⟨UInt8.ofNat m.toNat, ?_⟩
        have hget : (cs.toList.drop i).take 1 = [cs[i]] := by
          rw [List.drop_eq_getElem_cons (by simpa [hsz2] using hi)]; simp
        rw [hget] at e
        injection e with e
        rw [Array.getElem?_eq_getElem (by omega), e]
        simp; omega
      obtain ⟨X, hX⟩ := Deep.choose_lt (α := UInt8) (p := fun i c => cs[i]? = some (.int .u8 (c.toNat : Int))) each
      refine ⟨(List.range 32).map X, by simp, ?_⟩
      unfold dv
      congr 1
      apply Array.ext_getElem?
      intro i
      by_cases hi : i < 32
      · rw [hX i hi]; simp [bcells, hi]
      · rw [Array.getElem?_eq_none (by omega), Array.getElem?_eq_none (by simp [bcells]; omega)]
    · cases hf
theorem open_Bz {r : Reach} {b0 : Nat} {v : Value} {d : DataW H} {p : List MemPlace} (hv : Value.okWide Tryd.prog w r b0 22 v) (h : DataW.Trod enc Tryd.prog w 0 (fun _ => true) true 22 v d p)
    (hz : ∀ e s, d = .slice e s → (e.length + s.length) * Tryd.prog.bytesOf 5 ≤ reachBytes) : ∃ l, BtsAt w.heap.size w l v ∧ l.length ≤ 140737488351232 := by
  obtain ⟨l, hl⟩ := open_B hv h
  refine ⟨l, hl, ?_⟩
  obtain ⟨oa, cap, rfl⟩ := hl.shape
  obtain ⟨n, hf⟩ := h
  rcases open_ints Tryd.underlying22 Tryd.underlying5 (by kernel_rfl) hf with ⟨hcs, _⟩ | ⟨x, len, c, zs, hcs, _, hl2, hm, hzl, hd, _, _⟩
  · simp [Value.cells] at hcs
    simp [hcs.2.1]
  · simp [Value.cells] at hcs
    have hd1 : d = .slice (lits .u8 (zs.take len)) (lits .u8 (zs.drop len)) := congrArg Prod.fst hd
    have h1 := hz _ _ hd1
    have hb : Tryd.prog.bytesOf 5 = 1 := by kernel_rfl
    have hzl' : zs.length = c := by simpa using hzl
    rw [hb] at h1
    simp only [lits, List.length_map, List.length_take, List.length_drop, reachBytes] at h1
    omega
end
end Go.Proofs.YtmhmenmkgbebcaaDoor
