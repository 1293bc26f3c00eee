/- codec.reader: value, texts. -/
import Derived.Test.YtebedfcdbhgfdaaRdv
import Derived.Laws.BytesArg
namespace Go.Proofs.Ytebedfcdbhgfdaa
open Go.RowKit

/-- string(b) of bytes that are read -/
theorem run_conv_rd {P : Program} {src dst e : TypeId} (hs : P.underlying src = some (.slice e)) (he : P.underlying e = some (.int .u8)) (hd : P.underlying dst = some .string) {w : World} {v : Value} {l : List UInt8} (h : RdB w v l) :
    (convert src dst v).run P w = .ok (.string ⟨l.toArray⟩) w := by
  rcases h with ⟨rfl, rfl⟩ | ⟨a, cap, rfl, _, _, _, hc⟩
  · rw [run_convert_bytes_nil w src e hs he 0 0 dst hd]; rfl
  · have hl : (loadCells a l.length).run P w = .ok ((l.map fun c => (c.toNat : Int)).map (Value.int .u8)).toArray w := by
      have := run_loadCells_list (P := P) w a (bcells l) hc
      have e : ((l.map fun c => (c.toNat : Int)).map (Value.int .u8)) = bcells l := by simp [bcells]
      rw [e]; simpa [bcells_length] using this
    have e2 : (l.map fun c => (c.toNat : Int)).map (fun n => UInt8.ofNat n.toNat) = l := by
      rw [List.map_map]
      conv => rhs; rw [← List.map_id l]
      exact List.map_congr_left fun c _ => by simp
    rw [run_convert_bytes_string w src dst e _ l.length cap hs he hd, run_bytesToString w a l.length cap _ hl, foldl_push_bytes, e2]
    simp [ByteArray.empty, ByteArray.emptyWithCapacity]
    rfl
theorem run_conv_bts {P : Program} {src dst e : TypeId} (hs : P.underlying src = some (.slice e)) (he : P.underlying e = some (.int .u8)) (hd : P.underlying dst = some .string) {B : Nat} {w : World} {v : Value} {l : List UInt8} (h : BtsAt B w l v) :
    (convert src dst v).run P w = .ok (.string ⟨l.toArray⟩) w := by
  rcases h with ⟨rfl, oa, cap, rfl, hcm⟩ | ⟨hne, b, off, cap, rfl, h2, h3, h4, h5⟩
  · cases oa with
    | none => rw [run_convert_bytes_nil w src e hs he 0 cap dst hd]; rfl
    | some a => exact run_conv_rd hs he hd (l := []) (.inr ⟨a, cap, rfl, .inl rfl, Nat.zero_le _, hcm, by simp [bcells]⟩)
  · refine run_conv_rd hs he hd (.inr ⟨⟨b, off, none⟩, cap, rfl, .inr rfl, h2, h3, fun j u hu => ?_⟩)
    obtain ⟨c, hc, rfl⟩ := bcells_getElem l j u hu
    have hplain : (⟨b, off, none⟩ : Addr).add j = ⟨b, off + j, none⟩ := by unfold Addr.add; split <;> simp_all
    rw [hplain]; exact h5 j c hc

set_option maxRecDepth 100000 in
set_option maxHeartbeats 1000000 in
theorem value_2 (d : Nat) (B R : Nat) (r : List UInt8) (di : Int) (hl : (2 :: r).length ≤ 1000000) (w : World) (hr : RdrAt B w R (2 :: r)) (hRw : R < w.heap.size) :
    Calls Try.prog 32 #[.pointer (some ⟨R, 0, none⟩), .int .i64 di] w (ValPost B R (rdV d (2 :: r)) w) := by
  have HR := Lib.hid hr; clear hr
  have hrl : r.length ≤ 1000000 := by simp at hl; omega
  have hv := Lib.hid (rdV_2 d r)
  cases hN : rdLen r with
  | none =>
    have hn : Hid (rdV d (2 :: r) = none) := by show _ = _; rw [hv.out, hN]
    have HN := Lib.hid hN; clear hN
    go_enter Try.func32, Try.ntmps32
    go_wp2_with (first
      | (go_at_call 44; refine (value_head B R 2 r hl w HR.out hRw _).mono ?_; rintro e w1 ⟨b, off, cap, v', rfl, rfl, hbR, hbw, hc, hrd⟩))
    have hszw : (w.setCell ⟨R, 0, none⟩ v').heap.size = w.heap.size := by simp [World.setCell]
    refine (length_any B R r hrl _ (hrd.keep fun k hk => Below.heap_alloc _ _ k (by omega))).mono ?_
    rw [HN.out]
    rintro e w2 ⟨rfl, hg⟩
    exact ⟨rfl, by rw [hn.out]; exact And.intro rfl (grown_trans (grown_alloc (setCell_grown w R v') _) hg (.inl rfl))⟩
  | some p =>
    obtain ⟨n, r'⟩ := p
    have hn : Hid (rdV d (2 :: r) = some (.mk 2 0 ⟨(r'.take n).toArray⟩ [], r'.drop n)) := by show _ = _; rw [hv.out, hN]
    have hlen := rdLen_len hN
    have HN := Lib.hid hN; clear hN
    go_enter Try.func32, Try.ntmps32
    go_wp2_with (first
      | (go_at_call 44; refine (value_head B R 2 r hl w HR.out hRw _).mono ?_; rintro e w1 ⟨b, off, cap, v', rfl, rfl, hbR, hbw, hc, hrd⟩))
    have hszw : (w.setCell ⟨R, 0, none⟩ v').heap.size = w.heap.size := by simp [World.setCell]
    refine (length_any B R r hrl _ (hrd.keep fun k hk => Below.heap_alloc _ _ k (by omega))).mono ?_
    rw [HN.out]
    rintro e w2 ⟨rfl, hrd2, hg⟩
    have hbx := (BoxAt.made (w.setCell ⟨R, 0, none⟩ v') 24 (.int .i64 2) (.int .i64 0) (.string ⟨#[]⟩) (.slice none 0 0)).grown hg (by omega)
    rw [hszw] at hbx
    have hgw : w.grownBy w2 (some R) := grown_trans (grown_alloc (setCell_grown w R v') _) hg (.inl rfl)
    clear hg hc hrd
    go_wp2_with (first | (go_at_call 44; refine (take_ok B R r' n _ rfl _ hrd2 hlen.1 (by omega)).mono ?_; rintro e w3 ⟨v3, v4, rfl, hv3, hv4, rfl⟩))
    have hcv := run_conv_bts (P := Try.prog) Try.underlying27 Try.underlying5 Try.underlying9 (hv3.keep (w' := w2.setCell ⟨R, 0, none⟩ v4) (Nat.le_refl B) fun k hk => Below.heap_setCell _ _ _ _ (by have := hrd2.le; show k ≠ R; omega))
    obtain ⟨x0, x1, x2, x3, xf⟩ := hbx.grown (setCell_grown w2 R v4) (by omega)
    have hrd3 := hrd2.took hv4
    have hgw3 := grown_trans hgw (setCell_grown w2 R v4) (.inl rfl)
    clear hv3 hv4 hbx hgw hrd2
    rw [hcv]
    clear hcv
    generalize w2.setCell ⟨R, 0, none⟩ v4 = w3 at *
    have hsz3 := hgw3.size
    go_wp2
    refine bodyPost_ret (v := .agg #[.int .i64 2, .int .i64 0, .string ⟨(List.take n r').toArray⟩, .slice none 0 0]) (by simp [results, Try.results32, go_sem, x0, x1, x2, x3]) rfl ?_
    rw [hn.out]
    exact ⟨_, rfl, ⟨by show I64 2; unfold I64; omega, by show I64 0; unfold I64; omega, by show (List.take n r').toArray.size ≤ maxLen; simp; unfold maxLen; omega, _, rfl, .inl ⟨rfl, none, 0, rfl⟩⟩, by repeat (first | exact hrd3 | refine RdrAt.set ?_ hRw), by repeat (first | exact hgw3 | refine grown_set_new ?_ (Nat.le_refl _))⟩
end Go.Proofs.Ytebedfcdbhgfdaa
