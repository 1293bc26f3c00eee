/- Merged: Eco Reco. -/
import Derived.Test.YtbonebmboolemaaDoorK09
import Derived.Test.YtbonebmboolemaaDoorK16
import Derived.Laws.EntriesVeiled
/- codec.newWriter, codec.Encode. -/
namespace Go.Proofs.YtbonebmboolemaaDoor
open Go.RowKit

theorem RdB.keep {w w' : World} {v : Value} {l : List UInt8} (h : RdB w v l) (hs : ∀ k, k < w.heap.size → w'.heap[k]? = w.heap[k]?) : RdB w' v l := by
  rcases h with h | ⟨a, cap, h1, h1', h2, h3, h4⟩
  · exact .inl h
  · refine .inr ⟨a, cap, h1, h1', h2, h3, fun j u hu => ?_⟩
    have hc := h4 j u hu
    have hlt := World.block_lt_of_cell? w _ hc
    rw [World.cell?_of_block (w := w) (hs _ hlt)]; exact hc
theorem RdB.ext {w w' : World} {v : Value} {l : List UInt8} (h : RdB w v l) (hb : Below w.heap.size w w') : RdB w' v l := h.keep hb.block

def NewPost (w : World) (e : Ending) (w' : World) : Prop :=
  ∃ tb G, e = .returned (.pointer (some ⟨G, 0, none⟩)) ∧ WrAt w'.heap.size w' tb G ∧ Below w.heap.size w w'

set_option maxRecDepth 100000 in
set_option maxHeartbeats 1000000 in
theorem newWriter_any (w : World) : Calls Tryd.prog 69 #[] w (NewPost w) := by
  have hmf : ∀ (fn : Fn) (first cap : Array Value) (w : World), (Instr.makeFunc fn first cap).run Tryd.prog w = .ok (.func fn first cap) w := fun _ _ _ _ => rfl
  go_enter Tryd.func69, Tryd.ntmps69
  go_wp2
  go_ret
  refine ⟨w.heap.size + 1, w.heap.size, rfl, ⟨by simp, by simp; omega, ?_, ?_, ?_, ?_⟩, ?_⟩
  all_goals first | simp | skip
  repeat (first | exact Below.refl _ _ | refine Below.alloc ?_ (by simp) _)

/-- what Encode hands back: the bytes, and the error -/
def EncPost (x : V) (w : World) (e : Ending) (w' : World) : Prop :=
  ∃ v, e = .returned (.tuple #[v, .int .i64 (ck x)]) ∧ RdB w' v (if ck x = 0 then enc x else []) ∧ Below w.heap.size w w'

theorem ck_fm {x : V} (h : ck x = 0) : fm x = true := by
  unfold ck at h; by_cases hf : fm x = true
  · exact hf
  · rw [if_neg hf] at h; cases h

set_option maxRecDepth 100000 in
set_option maxHeartbeats 1000000 in
theorem encode_big (x : V) (hx : sz x ≤ 50000000) (v : Value) (w : World) (hr : RdV w.heap.size w x v) : Calls Tryd.prog 49 #[v] w (EncPost x w) := by
  have HR := Lib.hid (fun ob => hr.alloc ob)
  have HR0 := Lib.hid hr
  obtain ⟨oa, cap, rfl, hl⟩ := hr.form
  clear hr hl
  by_cases hck : ck x = 0
  case neg =>
    have hne : (ck x != 0) = true := by rw [bne_iff_ne]; exact hck
    have Hck := Lib.hid hck; clear hck
    go_enter Tryd.func49, Tryd.ntmps49
    go_wp2_with (go_at_call 68; refine (check_any x (by omega) _ _ (HR.out _)).mono ?_; rintro e w' ⟨rfl, hb'⟩)
    go_ret2
    exact ⟨_, rfl, by rw [if_neg Hck.out]; exact .inl ⟨rfl, rfl⟩, below_after hb'⟩
  case pos =>
    have hfm := ck_fm hck
    have heq : (ck x != 0) = false := by rw [hck]; rfl
    have Hck := Lib.hid hck; clear hck
    rcases fm_kind hfm with hk | hk | hk
    · rw [hk] at HR HR0 ⊢
      go_enter Tryd.func49, Tryd.ntmps49
      go_wp2_with (go_at_call 68; refine (check_any x (by omega) _ _ (HR.out _)).mono ?_; rintro e w' ⟨rfl, hb'⟩)
      have hlt : w.heap.size < w'.heap.size := by have := hb'.size; simp at this; omega
      have hx0 : w'.cell? ⟨w.heap.size, 0, none⟩ = some (.int .i64 1) := (hb'.cell (p := ⟨w.heap.size, 0, none⟩) (by simp)).trans (by simp)
      have hx1 : w'.cell? ⟨w.heap.size, 1, none⟩ = some (.int .i64 x.n) := (hb'.cell (p := ⟨w.heap.size, 1, none⟩) (by simp)).trans (by simp)
      have hx2 : w'.cell? ⟨w.heap.size, 2, none⟩ = some (.string x.s) := (hb'.cell (p := ⟨w.heap.size, 2, none⟩) (by simp)).trans (by simp)
      have hx3 : w'.cell? ⟨w.heap.size, 3, none⟩ = some (.slice oa x.l.length cap) := (hb'.cell (p := ⟨w.heap.size, 3, none⟩) (by simp)).trans (by simp)
      have hbw := below_after hb'
      have Hrx := Lib.hid (HR0.out.ext hbw)
      refine wp_region_held_drew (S := (fun w9 => w9.cell? ⟨w.heap.size, 0, none⟩ = some (.int .i64 1) ∧ w9.cell? ⟨w.heap.size, 1, none⟩ = some (.int .i64 x.n) ∧ w9.cell? ⟨w.heap.size, 2, none⟩ = some (.string x.s) ∧ w9.cell? ⟨w.heap.size, 3, none⟩ = some (.slice oa x.l.length cap))) (by kernel_rfl) ⟨hx0, hx1, hx2, hx3⟩ (fun hHeld => ?_)
      refine wpAnyH_take (i := 1) (v := ?vk1_1) rfl (by kernel_rfl) (by kernel_rfl) (by kernel_rfl) (fun _ _ _ h => h) (Or.inl ⟨by rfl, fun wS hSw => ?hyk1_1⟩) (by assumption) ?restk1_1
      case hyk1_1 => (obtain ⟨h0, h1, h2, h3⟩ := hSw; go_simp; first | done | with_reducible rfl)
      simp only [Act.put, List.setIfInBounds_toArray]
      refine wpAnyH_take (i := 2) (v := ?vk1_2) rfl (by kernel_rfl) (by kernel_rfl) (by kernel_rfl) (fun _ _ _ h => h) (Or.inl ⟨by rfl, fun wS hSw => ?hyk1_2⟩) (by assumption) ?restk1_2
      case hyk1_2 => (obtain ⟨h0, h1, h2, h3⟩ := hSw; go_simp; first | done | with_reducible rfl)
      simp only [Act.put]
      refine wpAnyH_take (i := 7) (v := ?vk1_7) rfl (by kernel_rfl) (by kernel_rfl) (by kernel_rfl) (fun _ _ _ h => h) (Or.inl ⟨by rfl, fun wS hSw => ?hyk1_7⟩) (by assumption) ?restk1_7
      case hyk1_7 => (obtain ⟨h0, h1, h2, h3⟩ := hSw; go_simp; first | done | with_reducible rfl)
      simp only [Act.put]
      refine wpAnyH_ready (rs := [0]) (by kernel_rfl) (by simp) ?_
      refine AllReadyH.cons rfl (fun K hK => ?_) AllReadyH.nil
      go_simp
      refine (newWriter_any _).mono ?_
      rintro e w2 ⟨tb, G, rfl, hW, hb2'⟩
      have hb2 : Below w'.heap.size w' w2 := ((Below.refl _ w').drew).trans hb2'
      have HW := Lib.hid hW
      obtain ⟨htb, hgb, hv0, hv1, hv2, hv3⟩ := hW
      have k0 := (hb2.cell (p := ⟨w.heap.size, 0, none⟩) hlt).trans hx0
      have k1 := (hb2.cell (p := ⟨w.heap.size, 1, none⟩) hlt).trans hx1
      have k2 := (hb2.cell (p := ⟨w.heap.size, 2, none⟩) hlt).trans hx2
      have k3 := (hb2.cell (p := ⟨w.heap.size, 3, none⟩) hlt).trans hx3
      clear hb2'
      refine hK.out _ _ ⟨k0, k1, k2, k3⟩ (fun hHeld => ?_)
      clear hK K
      try simp only [Act.put, List.setIfInBounds_toArray, List.set_cons_zero, List.set_cons_succ]
      refine wpAnyH_take (i := 3) (v := ?vk1_3) rfl (by kernel_rfl) (by kernel_rfl) (by kernel_rfl) (fun _ _ _ h => h) (Or.inl ⟨by rfl, fun wS hSw => ?hyk1_3⟩) (by assumption) ?restk1_3
      case hyk1_3 => (obtain ⟨h0, h1, h2, h3⟩ := hSw; go_simp; first | done | with_reducible rfl)
      simp only [Act.put, List.setIfInBounds_toArray]
      refine wpAnyH_take (i := 4) (v := ?vk1_4) rfl (by kernel_rfl) (by kernel_rfl) (by kernel_rfl) (fun _ _ _ h => h) (Or.inl ⟨by rfl, fun wS hSw => ?hyk1_4⟩) (by assumption) ?restk1_4
      case hyk1_4 => (obtain ⟨h0, h1, h2, h3⟩ := hSw; go_simp; first | done | with_reducible rfl)
      simp only [Act.put]
      refine wpAnyH_take (i := 5) (v := ?vk1_5) rfl (by kernel_rfl) (by kernel_rfl) (by kernel_rfl) (fun _ _ _ h => h) (Or.inl ⟨by rfl, fun wS hSw => ?hyk1_5⟩) (by assumption) ?restk1_5
      case hyk1_5 => (obtain ⟨h0, h1, h2, h3⟩ := hSw; go_simp; first | done | with_reducible rfl)
      simp only [Act.put]
      refine wpAnyH_ready (rs := [6]) (by kernel_rfl) (by simp) ?_
      refine AllReadyH.cons rfl (fun K hK => ?_) AllReadyH.nil
      go_simp
      refine hK.out _ _ ⟨k0, k1, k2, k3⟩ (fun hHeld => ?_)
      clear hK K
      try simp only [Act.put, List.setIfInBounds_toArray, List.set_cons_zero, List.set_cons_succ]
      refine wpAnyH_ready (rs := [8]) (by kernel_rfl) (by simp) ?_
      refine AllReadyH.cons rfl (fun K hK => ?_) AllReadyH.nil
      go_simp
      refine (write1_any w2.heap.size (.slice none 0 0) [] x.n Hrx.out.2.1 x.s _ _ (OwnB.nil _ _ _) ?d1 ?d2 (enc x) ?d3).mono ?_
      case d1 => simp
      case d2 => exact Nat.le_refl _
      case d3 => show _ = _; rw [enc_k1 x hk]; rfl
      rintro e w3 ⟨v3, rfl, ho3, hg3, hn3⟩
      refine hK.out _ _ ⟨cell_grown hg3 k0 (by simp [Value.ownBlock]), cell_grown hg3 k1 (by simp [Value.ownBlock]), cell_grown hg3 k2 (by simp [Value.ownBlock]), cell_grown hg3 k3 (by simp [Value.ownBlock])⟩ (fun hHeld => ?_)
      clear hK K
      try simp only [Act.put, List.setIfInBounds_toArray, List.set_cons_zero, List.set_cons_succ]
      refine wpAnyH_ready (rs := [9]) (by kernel_rfl) (by simp) ?_
      refine AllReadyH.cons rfl (fun K hK => ?_) AllReadyH.nil
      go_simp
      refine hK.out _ _ hHeld (fun hHeld => ?_)
      clear hK K
      try simp only [Act.put, List.setIfInBounds_toArray, List.set_cons_zero, List.set_cons_succ]
      refine wpAnyH_ready (rs := [10]) (by kernel_rfl) (by simp) ?_
      refine AllReadyH.cons rfl (fun K hK => ?_) AllReadyH.nil
      go_simp
      refine hK.out _ _ hHeld (fun hHeld => ?_)
      clear hK K
      try simp only [Act.put, List.setIfInBounds_toArray, List.set_cons_zero, List.set_cons_succ]
      refine wpAnyH_done (by kernel_rfl) ?_ _
      have hb4 : Below w.heap.size w w3 := below_ext hbw (hb2.trans ((Below.refl _ w2).grown hg3 hb2.size (by simp [Value.ownBlock])))
      have HO := Lib.hid ho3.rd
      clear ho3
      go_wp2
      go_ret2
      exact ⟨_, by rw [Hck.out]; rfl, by rw [if_pos Hck.out]; exact HO.out, hb4⟩
    · rw [hk] at HR HR0 ⊢
      go_enter Tryd.func49, Tryd.ntmps49
      go_wp2_with (go_at_call 68; refine (check_any x (by omega) _ _ (HR.out _)).mono ?_; rintro e w' ⟨rfl, hb'⟩)
      have hlt : w.heap.size < w'.heap.size := by have := hb'.size; simp at this; omega
      have hx0 : w'.cell? ⟨w.heap.size, 0, none⟩ = some (.int .i64 2) := (hb'.cell (p := ⟨w.heap.size, 0, none⟩) (by simp)).trans (by simp)
      have hx1 : w'.cell? ⟨w.heap.size, 1, none⟩ = some (.int .i64 x.n) := (hb'.cell (p := ⟨w.heap.size, 1, none⟩) (by simp)).trans (by simp)
      have hx2 : w'.cell? ⟨w.heap.size, 2, none⟩ = some (.string x.s) := (hb'.cell (p := ⟨w.heap.size, 2, none⟩) (by simp)).trans (by simp)
      have hx3 : w'.cell? ⟨w.heap.size, 3, none⟩ = some (.slice oa x.l.length cap) := (hb'.cell (p := ⟨w.heap.size, 3, none⟩) (by simp)).trans (by simp)
      have hbw := below_after hb'
      have Hrx := Lib.hid (HR0.out.ext hbw)
      refine wp_region_held_drew (S := (fun w9 => w9.cell? ⟨w.heap.size, 0, none⟩ = some (.int .i64 2) ∧ w9.cell? ⟨w.heap.size, 1, none⟩ = some (.int .i64 x.n) ∧ w9.cell? ⟨w.heap.size, 2, none⟩ = some (.string x.s) ∧ w9.cell? ⟨w.heap.size, 3, none⟩ = some (.slice oa x.l.length cap))) (by kernel_rfl) ⟨hx0, hx1, hx2, hx3⟩ (fun hHeld => ?_)
      refine wpAnyH_take (i := 1) (v := ?vk2_1) rfl (by kernel_rfl) (by kernel_rfl) (by kernel_rfl) (fun _ _ _ h => h) (Or.inl ⟨by rfl, fun wS hSw => ?hyk2_1⟩) (by assumption) ?restk2_1
      case hyk2_1 => (obtain ⟨h0, h1, h2, h3⟩ := hSw; go_simp; first | done | with_reducible rfl)
      simp only [Act.put, List.setIfInBounds_toArray]
      refine wpAnyH_take (i := 2) (v := ?vk2_2) rfl (by kernel_rfl) (by kernel_rfl) (by kernel_rfl) (fun _ _ _ h => h) (Or.inl ⟨by rfl, fun wS hSw => ?hyk2_2⟩) (by assumption) ?restk2_2
      case hyk2_2 => (obtain ⟨h0, h1, h2, h3⟩ := hSw; go_simp; first | done | with_reducible rfl)
      simp only [Act.put]
      refine wpAnyH_take (i := 7) (v := ?vk2_7) rfl (by kernel_rfl) (by kernel_rfl) (by kernel_rfl) (fun _ _ _ h => h) (Or.inl ⟨by rfl, fun wS hSw => ?hyk2_7⟩) (by assumption) ?restk2_7
      case hyk2_7 => (obtain ⟨h0, h1, h2, h3⟩ := hSw; go_simp; first | done | with_reducible rfl)
      simp only [Act.put]
      refine wpAnyH_ready (rs := [0]) (by kernel_rfl) (by simp) ?_
      refine AllReadyH.cons rfl (fun K hK => ?_) AllReadyH.nil
      go_simp
      refine (newWriter_any _).mono ?_
      rintro e w2 ⟨tb, G, rfl, hW, hb2'⟩
      have hb2 : Below w'.heap.size w' w2 := ((Below.refl _ w').drew).trans hb2'
      have HW := Lib.hid hW
      obtain ⟨htb, hgb, hv0, hv1, hv2, hv3⟩ := hW
      have k0 := (hb2.cell (p := ⟨w.heap.size, 0, none⟩) hlt).trans hx0
      have k1 := (hb2.cell (p := ⟨w.heap.size, 1, none⟩) hlt).trans hx1
      have k2 := (hb2.cell (p := ⟨w.heap.size, 2, none⟩) hlt).trans hx2
      have k3 := (hb2.cell (p := ⟨w.heap.size, 3, none⟩) hlt).trans hx3
      clear hb2'
      refine hK.out _ _ ⟨k0, k1, k2, k3⟩ (fun hHeld => ?_)
      clear hK K
      try simp only [Act.put, List.setIfInBounds_toArray, List.set_cons_zero, List.set_cons_succ]
      refine wpAnyH_take (i := 3) (v := ?vk2_3) rfl (by kernel_rfl) (by kernel_rfl) (by kernel_rfl) (fun _ _ _ h => h) (Or.inl ⟨by rfl, fun wS hSw => ?hyk2_3⟩) (by assumption) ?restk2_3
      case hyk2_3 => (obtain ⟨h0, h1, h2, h3⟩ := hSw; go_simp; first | done | with_reducible rfl)
      simp only [Act.put, List.setIfInBounds_toArray]
      refine wpAnyH_take (i := 4) (v := ?vk2_4) rfl (by kernel_rfl) (by kernel_rfl) (by kernel_rfl) (fun _ _ _ h => h) (Or.inl ⟨by rfl, fun wS hSw => ?hyk2_4⟩) (by assumption) ?restk2_4
      case hyk2_4 => (obtain ⟨h0, h1, h2, h3⟩ := hSw; go_simp; first | done | with_reducible rfl)
      simp only [Act.put]
      refine wpAnyH_take (i := 5) (v := ?vk2_5) rfl (by kernel_rfl) (by kernel_rfl) (by kernel_rfl) (fun _ _ _ h => h) (Or.inl ⟨by rfl, fun wS hSw => ?hyk2_5⟩) (by assumption) ?restk2_5
      case hyk2_5 => (obtain ⟨h0, h1, h2, h3⟩ := hSw; go_simp; first | done | with_reducible rfl)
      simp only [Act.put]
      refine wpAnyH_ready (rs := [6]) (by kernel_rfl) (by simp) ?_
      refine AllReadyH.cons rfl (fun K hK => ?_) AllReadyH.nil
      go_simp
      refine hK.out _ _ ⟨k0, k1, k2, k3⟩ (fun hHeld => ?_)
      clear hK K
      try simp only [Act.put, List.setIfInBounds_toArray, List.set_cons_zero, List.set_cons_succ]
      refine wpAnyH_ready (rs := [8]) (by kernel_rfl) (by simp) ?_
      refine AllReadyH.cons rfl (fun K hK => ?_) AllReadyH.nil
      go_simp
      refine (write2_any w2.heap.size (.slice none 0 0) [] x.n x.s _ _ (OwnB.nil _ _ _) ?d1 ?d4 ?d2 (enc x) ?d3).mono ?_
      case d1 => simp
      case d4 => have := sz_s x; omega
      case d2 => exact Nat.le_refl _
      case d3 => show _ = _; rw [enc_k2 x hk]; rfl
      rintro e w3 ⟨v3, rfl, ho3, hg3, hn3⟩
      refine hK.out _ _ ⟨cell_grown hg3 k0 (by simp [Value.ownBlock]), cell_grown hg3 k1 (by simp [Value.ownBlock]), cell_grown hg3 k2 (by simp [Value.ownBlock]), cell_grown hg3 k3 (by simp [Value.ownBlock])⟩ (fun hHeld => ?_)
      clear hK K
      try simp only [Act.put, List.setIfInBounds_toArray, List.set_cons_zero, List.set_cons_succ]
      refine wpAnyH_ready (rs := [9]) (by kernel_rfl) (by simp) ?_
      refine AllReadyH.cons rfl (fun K hK => ?_) AllReadyH.nil
      go_simp
      refine hK.out _ _ hHeld (fun hHeld => ?_)
      clear hK K
      try simp only [Act.put, List.setIfInBounds_toArray, List.set_cons_zero, List.set_cons_succ]
      refine wpAnyH_ready (rs := [10]) (by kernel_rfl) (by simp) ?_
      refine AllReadyH.cons rfl (fun K hK => ?_) AllReadyH.nil
      go_simp
      refine hK.out _ _ hHeld (fun hHeld => ?_)
      clear hK K
      try simp only [Act.put, List.setIfInBounds_toArray, List.set_cons_zero, List.set_cons_succ]
      refine wpAnyH_done (by kernel_rfl) ?_ _
      have hb4 : Below w.heap.size w w3 := below_ext hbw (hb2.trans ((Below.refl _ w2).grown hg3 hb2.size (by simp [Value.ownBlock])))
      have HO := Lib.hid ho3.rd
      clear ho3
      go_wp2
      go_ret2
      exact ⟨_, by rw [Hck.out]; rfl, by rw [if_pos Hck.out]; exact HO.out, hb4⟩
    · rw [hk] at HR HR0 ⊢
      go_enter Tryd.func49, Tryd.ntmps49
      go_wp2_with (go_at_call 68; refine (check_any x (by omega) _ _ (HR.out _)).mono ?_; rintro e w' ⟨rfl, hb'⟩)
      have hlt : w.heap.size < w'.heap.size := by have := hb'.size; simp at this; omega
      have hx0 : w'.cell? ⟨w.heap.size, 0, none⟩ = some (.int .i64 3) := (hb'.cell (p := ⟨w.heap.size, 0, none⟩) (by simp)).trans (by simp)
      have hx1 : w'.cell? ⟨w.heap.size, 1, none⟩ = some (.int .i64 x.n) := (hb'.cell (p := ⟨w.heap.size, 1, none⟩) (by simp)).trans (by simp)
      have hx2 : w'.cell? ⟨w.heap.size, 2, none⟩ = some (.string x.s) := (hb'.cell (p := ⟨w.heap.size, 2, none⟩) (by simp)).trans (by simp)
      have hx3 : w'.cell? ⟨w.heap.size, 3, none⟩ = some (.slice oa x.l.length cap) := (hb'.cell (p := ⟨w.heap.size, 3, none⟩) (by simp)).trans (by simp)
      have hbw := below_after hb'
      have Hrx := Lib.hid (HR0.out.ext hbw)
      refine wp_region_held_drew (S := (fun w9 => w9.cell? ⟨w.heap.size, 0, none⟩ = some (.int .i64 3) ∧ w9.cell? ⟨w.heap.size, 1, none⟩ = some (.int .i64 x.n) ∧ w9.cell? ⟨w.heap.size, 2, none⟩ = some (.string x.s) ∧ w9.cell? ⟨w.heap.size, 3, none⟩ = some (.slice oa x.l.length cap))) (by kernel_rfl) ⟨hx0, hx1, hx2, hx3⟩ (fun hHeld => ?_)
      refine wpAnyH_take (i := 1) (v := ?vk3_1) rfl (by kernel_rfl) (by kernel_rfl) (by kernel_rfl) (fun _ _ _ h => h) (Or.inl ⟨by rfl, fun wS hSw => ?hyk3_1⟩) (by assumption) ?restk3_1
      case hyk3_1 => (obtain ⟨h0, h1, h2, h3⟩ := hSw; go_simp; first | done | with_reducible rfl)
      simp only [Act.put, List.setIfInBounds_toArray]
      refine wpAnyH_take (i := 2) (v := ?vk3_2) rfl (by kernel_rfl) (by kernel_rfl) (by kernel_rfl) (fun _ _ _ h => h) (Or.inl ⟨by rfl, fun wS hSw => ?hyk3_2⟩) (by assumption) ?restk3_2
      case hyk3_2 => (obtain ⟨h0, h1, h2, h3⟩ := hSw; go_simp; first | done | with_reducible rfl)
      simp only [Act.put]
      refine wpAnyH_take (i := 7) (v := ?vk3_7) rfl (by kernel_rfl) (by kernel_rfl) (by kernel_rfl) (fun _ _ _ h => h) (Or.inl ⟨by rfl, fun wS hSw => ?hyk3_7⟩) (by assumption) ?restk3_7
      case hyk3_7 => (obtain ⟨h0, h1, h2, h3⟩ := hSw; go_simp; first | done | with_reducible rfl)
      simp only [Act.put]
      refine wpAnyH_ready (rs := [0]) (by kernel_rfl) (by simp) ?_
      refine AllReadyH.cons rfl (fun K hK => ?_) AllReadyH.nil
      go_simp
      refine (newWriter_any _).mono ?_
      rintro e w2 ⟨tb, G, rfl, hW, hb2'⟩
      have hb2 : Below w'.heap.size w' w2 := ((Below.refl _ w').drew).trans hb2'
      have HW := Lib.hid hW
      obtain ⟨htb, hgb, hv0, hv1, hv2, hv3⟩ := hW
      have k0 := (hb2.cell (p := ⟨w.heap.size, 0, none⟩) hlt).trans hx0
      have k1 := (hb2.cell (p := ⟨w.heap.size, 1, none⟩) hlt).trans hx1
      have k2 := (hb2.cell (p := ⟨w.heap.size, 2, none⟩) hlt).trans hx2
      have k3 := (hb2.cell (p := ⟨w.heap.size, 3, none⟩) hlt).trans hx3
      clear hb2'
      refine hK.out _ _ ⟨k0, k1, k2, k3⟩ (fun hHeld => ?_)
      clear hK K
      try simp only [Act.put, List.setIfInBounds_toArray, List.set_cons_zero, List.set_cons_succ]
      refine wpAnyH_take (i := 3) (v := ?vk3_3) rfl (by kernel_rfl) (by kernel_rfl) (by kernel_rfl) (fun _ _ _ h => h) (Or.inl ⟨by rfl, fun wS hSw => ?hyk3_3⟩) (by assumption) ?restk3_3
      case hyk3_3 => (obtain ⟨h0, h1, h2, h3⟩ := hSw; go_simp; first | done | with_reducible rfl)
      simp only [Act.put, List.setIfInBounds_toArray]
      refine wpAnyH_take (i := 4) (v := ?vk3_4) rfl (by kernel_rfl) (by kernel_rfl) (by kernel_rfl) (fun _ _ _ h => h) (Or.inl ⟨by rfl, fun wS hSw => ?hyk3_4⟩) (by assumption) ?restk3_4
      case hyk3_4 => (obtain ⟨h0, h1, h2, h3⟩ := hSw; go_simp; first | done | with_reducible rfl)
      simp only [Act.put]
      refine wpAnyH_take (i := 5) (v := ?vk3_5) rfl (by kernel_rfl) (by kernel_rfl) (by kernel_rfl) (fun _ _ _ h => h) (Or.inl ⟨by rfl, fun wS hSw => ?hyk3_5⟩) (by assumption) ?restk3_5
      case hyk3_5 => (obtain ⟨h0, h1, h2, h3⟩ := hSw; go_simp; first | done | with_reducible rfl)
      simp only [Act.put]
      refine wpAnyH_ready (rs := [6]) (by kernel_rfl) (by simp) ?_
      refine AllReadyH.cons rfl (fun K hK => ?_) AllReadyH.nil
      go_simp
      refine hK.out _ _ ⟨k0, k1, k2, k3⟩ (fun hHeld => ?_)
      clear hK K
      try simp only [Act.put, List.setIfInBounds_toArray, List.set_cons_zero, List.set_cons_succ]
      refine wpAnyH_ready (rs := [8]) (by kernel_rfl) (by simp) ?_
      refine AllReadyH.cons rfl (fun K hK => ?_) AllReadyH.nil
      go_simp
      refine (write3_any (szs x.l) ?d5 x.l (fm_l x hk hfm) (Nat.le_refl _) w2.heap.size tb G (.slice none 0 0) [] x.n x.s oa cap _ (enc x) ?d6 HW.out (OwnB.nil _ _ _) ?d1 ?d2 ?d3).mono ?_
      case d5 => have := sz_l x; omega
      case d6 => exact (Hrx.out.ext hb2).sl
      case d1 => have := sz_l x; simp; omega
      case d2 => exact Nat.le_refl _
      case d3 => show _ = _; rw [enc_k3 x hk]; rfl
      rintro e w3 ⟨v3, rfl, ho3, hg3, hn3⟩
      refine hK.out _ _ ⟨cell_grown hg3 k0 (by simp [Value.ownBlock]), cell_grown hg3 k1 (by simp [Value.ownBlock]), cell_grown hg3 k2 (by simp [Value.ownBlock]), cell_grown hg3 k3 (by simp [Value.ownBlock])⟩ (fun hHeld => ?_)
      clear hK K
      try simp only [Act.put, List.setIfInBounds_toArray, List.set_cons_zero, List.set_cons_succ]
      refine wpAnyH_ready (rs := [9]) (by kernel_rfl) (by simp) ?_
      refine AllReadyH.cons rfl (fun K hK => ?_) AllReadyH.nil
      go_simp
      refine hK.out _ _ hHeld (fun hHeld => ?_)
      clear hK K
      try simp only [Act.put, List.setIfInBounds_toArray, List.set_cons_zero, List.set_cons_succ]
      refine wpAnyH_ready (rs := [10]) (by kernel_rfl) (by simp) ?_
      refine AllReadyH.cons rfl (fun K hK => ?_) AllReadyH.nil
      go_simp
      refine hK.out _ _ hHeld (fun hHeld => ?_)
      clear hK K
      try simp only [Act.put, List.setIfInBounds_toArray, List.set_cons_zero, List.set_cons_succ]
      refine wpAnyH_done (by kernel_rfl) ?_ _
      have hb4 : Below w.heap.size w w3 := below_ext hbw (hb2.trans ((Below.refl _ w2).grown hg3 hb2.size (by simp [Value.ownBlock])))
      have HO := Lib.hid ho3.rd
      clear ho3
      go_wp2
      go_ret2
      exact ⟨_, by rw [Hck.out]; rfl, by rw [if_pos Hck.out]; exact HO.out, hb4⟩

theorem RdB.form {w : World} {v : Value} {l : List UInt8} (h : RdB w v l) : ∃ oa cap, v = .slice oa l.length cap := by
  rcases h with ⟨rfl, rfl⟩ | ⟨a, cap, rfl, _⟩
  · exact ⟨none, 0, rfl⟩
  · exact ⟨some a, cap, rfl⟩

theorem encode_any (x : V) (hx : sz x ≤ 60000) (v : Value) (w : World) (hr : RdV w.heap.size w x v) : Calls Tryd.prog 49 #[v] w (EncPost x w) := encode_big x (by omega) v w hr
end Go.Proofs.YtbonebmboolemaaDoor
/- the reference's Check, Encode, Size. -/
namespace Go.Proofs.YtbonebmboolemaaDoor
open Go.RowKit

set_option maxRecDepth 100000 in
set_option maxHeartbeats 1000000 in
theorem rcheck_any (x : V) (hx : sz x ≤ 60000) (v : Value) (w : World) (hr : RdV w.heap.size w x v) : Calls Tryd.prog 88 #[v] w (IntPost (ck x) w) := by
  have HR := Lib.hid (fun ob => hr.alloc ob)
  obtain ⟨oa, cap, rfl, hl⟩ := hr.form
  have hd := dp_sz x
  clear hr hl
  rcases Bool.eq_false_or_eq_true (fm x) with hfx | hfx
  · by_cases h16 : 16 < dp x
    all_goals
      have hck := Lib.hid (show ck x = (if 16 < dp x then 2 else 0) from by simp [ck, hfx])
      go_enter Tryd.func88, Tryd.ntmps88
      go_wp2_with (first
        | (go_at_call 94; refine (rformed_any 60000 (by decide) x hx _ _ (HR.out _)).mono ?_; rintro e w1 ⟨rfl, hb1⟩; obtain ⟨b0, b1, b2, b3⟩ := box_cells (to_box hb1))
        | (go_at_call 95; refine (rdepth_any 60000 (by decide) x hx _ _ ((HR.out _).ext hb1)).mono ?_; rintro e w2 ⟨rfl, hb2⟩))
      go_ret
      exact ⟨by rw [hck.out]; first | rw [if_pos h16]; rfl | rw [if_neg h16]; rfl, below_after (hb1.trans (hb2.mono hb1.size))⟩
  · have hck := Lib.hid (show ck x = 1 from by simp [ck, hfx])
    go_enter Tryd.func88, Tryd.ntmps88
    go_wp2_with (go_at_call 94; refine (rformed_any 60000 (by decide) x hx _ _ (HR.out _)).mono ?_; rintro e w1 ⟨rfl, hb1⟩)
    go_ret
    exact ⟨by rw [hck.out]; rfl, below_after hb1⟩

set_option maxRecDepth 100000 in
set_option maxHeartbeats 1000000 in
theorem rEncode_any (x : V) (hx : sz x ≤ 60000) (v : Value) (w : World) (hr : RdV w.heap.size w x v) : Calls Tryd.prog 73 #[v] w (EncPost x w) := by
  have HR := Lib.hid (fun ob => hr.alloc ob)
  obtain ⟨oa, cap, rfl, hl⟩ := hr.form
  clear hr hl
  by_cases hck : ck x = 0
  case neg =>
    have hne : (ck x != 0) = true := by rw [bne_iff_ne]; exact hck
    have Hck := Lib.hid hck; clear hck
    go_enter Tryd.func73, Tryd.ntmps73
    go_wp2_with (go_at_call 88; refine (rcheck_any x hx _ _ (HR.out _)).mono ?_; rintro e w' ⟨rfl, hb'⟩)
    go_ret2
    exact ⟨_, rfl, by rw [if_neg Hck.out]; exact .inl ⟨rfl, rfl⟩, below_after hb'⟩
  case pos =>
    have hfm := ck_fm hck
    have heq : (ck x != 0) = false := by rw [hck]; rfl
    have Hck := Lib.hid hck; clear hck
    go_enter Tryd.func73, Tryd.ntmps73
    go_wp2_with (first
      | (go_at_call 88; refine (rcheck_any x hx _ _ (HR.out _)).mono ?_; rintro e w1 ⟨rfl, hb1⟩; obtain ⟨b0, b1, b2, b3⟩ := box_cells (to_box hb1))
      | (go_at_call 89; refine (rencode_any 60000 (by decide) x hfm hx _ _ ((HR.out _).ext hb1)).mono ?_; rintro e w2 ⟨v2, rfl, ho2, hb2⟩))
    go_ret2
    exact ⟨_, by rw [Hck.out]; rfl, by rw [if_pos Hck.out]; exact ho2.rd, below_after (hb1.trans (hb2.mono hb1.size))⟩

end Go.Proofs.YtbonebmboolemaaDoor
