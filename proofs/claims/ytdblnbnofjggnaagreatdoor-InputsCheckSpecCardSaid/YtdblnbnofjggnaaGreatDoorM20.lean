/- Parts of the proofs of chapter 49's laws: Eco Rdr Rdn Reco. -/
import Derived.Test.YtdblnbnofjggnaaGreatDoorM19
import Derived.Laws.EntriesVeiled
import Derived.Test.YtdblnbnofjggnaaGreatDoorM09
set_option maxHeartbeats 1000000
set_option maxRecDepth 100000
open Go
open Lib renaming hid → hd_
open List renaming setIfInBounds_toArray → aS
open List renaming set_cons_zero → aZ
open List renaming set_cons_succ → aU
namespace Go.Proofs.YtdblnbnofjggnaaGreatDoor
open Go.RowKit
theorem RdB.keep {w w':World} {v:Value} {l:List UInt8} (h:RdB w v l) (hs:∀ k,k < w.heap.size→w'.heap[k]? = w.heap[k]?):RdB w' v l:=by
 rcases h with h | ⟨a,cap,h1,h1',h2,h3,h4⟩
 · exact .inl h
 · refine .inr ⟨a,cap,h1,h1',h2,h3,fun j u hu=>?_⟩
   have hc:=h4 j u hu
   have hlt:=World.block_lt_of_cell? w _ hc
   rw [World.cell?_of_block (w:=w) (hs _ hlt)];exact hc
theorem RdB.ext {w w':World} {v:Value} {l:List UInt8} (h:RdB w v l) (hb:Below w.heap.size w w'):RdB w' v l:=h.keep hb.block
def j2x (w:World) (e:Ending) (w':World):Prop :=
 ∃ tb G,e = .returned (.pointer (some ⟨G,0,none⟩))∧WrAt w'.heap.size w' tb G∧Below w.heap.size w w'
theorem z9o (w:World):Calls Tryz.prog 103 #[] w (j2x w):=by
 have hmf:∀ (fn:Fn) (first cap:Array Value) (w:World),(Instr.makeFunc fn first cap).run Tryz.prog w = .ok (.func fn first cap) w:=fun _ _ _ _=>rfl
 go_enter Tryz.func103,Tryz.ntmps103
 go_wp2
 go_ret
 refine ⟨w.heap.size + 1,w.heap.size,rfl,⟨by simp,by simp;omega,?_,?_,?_,?_⟩,?_⟩
 all_goals first | simp | skip
 repeat (first | exact Below.refl _ _ | refine Below.alloc ?_ (by simp) _)
def x1d (x:V) (w:World) (e:Ending) (w':World):Prop :=
 ∃ v,e = .returned (.tuple #[v,.int .i64 (ck x)])∧RdB w' v (if ck x = 0 then enc x else [])∧Below w.heap.size w w'
theorem k5h {x:V} (h:ck x = 0):fm x = true:=by
 unfold ck at h;by_cases hf:fm x = true
 · exact hf
 · rw [if_neg hf] at h;cases h
theorem x2p (x:V) (hx:sz x ≤ 50000000) (v:Value) (w:World) (hr:RdV w.heap.size w x v):Calls Tryz.prog 37 #[v] w (x1d x w):=by
 have HR:=hd_ (fun ob=>hr.alloc ob)
 have HR0:=hd_ hr
 obtain ⟨oa,cap,rfl,hl⟩:=hr.form
 clear hr hl
 by_cases hck:ck x = 0
 case neg =>
  have hne:(ck x != 0) = true:=by rw [bne_iff_ne];exact hck
  have Hck:=hd_ hck;clear hck
  go_enter Tryz.func37,Tryz.ntmps37
  go_wp2_with (go_at_call 102;refine (z0v x (by omega) _ _ (HR.out _)).mono ?_;rintro e w' ⟨rfl,hb'⟩)
  go_ret2
  exact ⟨_,rfl,by rw [if_neg Hck.out];exact .inl ⟨rfl,rfl⟩,z3d hb'⟩
 case pos =>
  have hfm:=k5h hck
  have heq:(ck x != 0) = false:=by rw [hck];rfl
  have Hck:=hd_ hck;clear hck
  rcases x8c hfm with hk | hk | hk
  · rw [hk] at HR HR0 ⊢
    go_enter Tryz.func37,Tryz.ntmps37
    go_wp2_with (go_at_call 102;refine (z0v x (by omega) _ _ (HR.out _)).mono ?_;rintro e w' ⟨rfl,hb'⟩)
    have hlt:w.heap.size < w'.heap.size:=by have:=hb'.size;simp at this;omega
    have hx0:w'.cell? ⟨w.heap.size,0,none⟩ = some (.int .i64 1):=(hb'.cell (p:=⟨w.heap.size,0,none⟩) (by simp)).trans (by simp)
    have hx1:w'.cell? ⟨w.heap.size,1,none⟩ = some (.int .i64 x.n):=(hb'.cell (p:=⟨w.heap.size,1,none⟩) (by simp)).trans (by simp)
    have hx2:w'.cell? ⟨w.heap.size,2,none⟩ = some (.string x.s):=(hb'.cell (p:=⟨w.heap.size,2,none⟩) (by simp)).trans (by simp)
    have hx3:w'.cell? ⟨w.heap.size,3,none⟩ = some (.slice oa x.l.length cap):=(hb'.cell (p:=⟨w.heap.size,3,none⟩) (by simp)).trans (by simp)
    have hbw:=z3d hb'
    have Hrx:=hd_ (HR0.out.ext hbw)
    refine wp_region_held_drew (S:=(fun w9=>w9.cell? ⟨w.heap.size,0,none⟩ = some (.int .i64 1)∧w9.cell? ⟨w.heap.size,1,none⟩ = some (.int .i64 x.n)∧w9.cell? ⟨w.heap.size,2,none⟩ = some (.string x.s)∧w9.cell? ⟨w.heap.size,3,none⟩ = some (.slice oa x.l.length cap))) (by kernel_rfl) ⟨hx0,hx1,hx2,hx3⟩ (fun hHeld=>?_)
    refine wpAnyH_take (i:=1) (v:=?vk1_1) rfl (by kernel_rfl) (by kernel_rfl) (by kernel_rfl) (fun _ _ _ h=>h) (Or.inl ⟨by rfl,fun wS hSw=>?hyk1_1⟩) (by assumption) ?restk1_1
    case hyk1_1=>(obtain ⟨h0,h1,h2,h3⟩:=hSw;go_simp;first | done | with_reducible rfl)
    simp only [Act.put,aS]
    refine wpAnyH_take (i:=2) (v:=?vk1_2) rfl (by kernel_rfl) (by kernel_rfl) (by kernel_rfl) (fun _ _ _ h=>h) (Or.inl ⟨by rfl,fun wS hSw=>?hyk1_2⟩) (by assumption) ?restk1_2
    case hyk1_2=>(obtain ⟨h0,h1,h2,h3⟩:=hSw;go_simp;first | done | with_reducible rfl)
    simp only [Act.put]
    refine wpAnyH_take (i:=7) (v:=?vk1_7) rfl (by kernel_rfl) (by kernel_rfl) (by kernel_rfl) (fun _ _ _ h=>h) (Or.inl ⟨by rfl,fun wS hSw=>?hyk1_7⟩) (by assumption) ?restk1_7
    case hyk1_7=>(obtain ⟨h0,h1,h2,h3⟩:=hSw;go_simp;first | done | with_reducible rfl)
    simp only [Act.put]
    refine wpAnyH_ready (rs:=[0]) (by kernel_rfl) (by simp) ?_
    refine AllReadyH.cons rfl (fun K hK=>?_) AllReadyH.nil
    go_simp
    refine (z9o _).mono ?_
    rintro e w2 ⟨tb,G,rfl,hW,hb2'⟩
    have hb2:Below w'.heap.size w' w2:=((Below.refl _ w').drew).trans hb2'
    have HW:=hd_ hW
    obtain ⟨htb,hgb,hv0,hv1,hv2,hv3⟩:=hW
    have k0:=(hb2.cell (p:=⟨w.heap.size,0,none⟩) hlt).trans hx0
    have k1:=(hb2.cell (p:=⟨w.heap.size,1,none⟩) hlt).trans hx1
    have k2:=(hb2.cell (p:=⟨w.heap.size,2,none⟩) hlt).trans hx2
    have k3:=(hb2.cell (p:=⟨w.heap.size,3,none⟩) hlt).trans hx3
    clear hb2'
    refine hK.out _ _ ⟨k0,k1,k2,k3⟩ (fun hHeld=>?_)
    clear hK K
    try simp only [Act.put,aS,aZ,aU]
    refine wpAnyH_take (i:=3) (v:=?vk1_3) rfl (by kernel_rfl) (by kernel_rfl) (by kernel_rfl) (fun _ _ _ h=>h) (Or.inl ⟨by rfl,fun wS hSw=>?hyk1_3⟩) (by assumption) ?restk1_3
    case hyk1_3=>(obtain ⟨h0,h1,h2,h3⟩:=hSw;go_simp;first | done | with_reducible rfl)
    simp only [Act.put,aS]
    refine wpAnyH_take (i:=4) (v:=?vk1_4) rfl (by kernel_rfl) (by kernel_rfl) (by kernel_rfl) (fun _ _ _ h=>h) (Or.inl ⟨by rfl,fun wS hSw=>?hyk1_4⟩) (by assumption) ?restk1_4
    case hyk1_4=>(obtain ⟨h0,h1,h2,h3⟩:=hSw;go_simp;first | done | with_reducible rfl)
    simp only [Act.put]
    refine wpAnyH_take (i:=5) (v:=?vk1_5) rfl (by kernel_rfl) (by kernel_rfl) (by kernel_rfl) (fun _ _ _ h=>h) (Or.inl ⟨by rfl,fun wS hSw=>?hyk1_5⟩) (by assumption) ?restk1_5
    case hyk1_5=>(obtain ⟨h0,h1,h2,h3⟩:=hSw;go_simp;first | done | with_reducible rfl)
    simp only [Act.put]
    refine wpAnyH_ready (rs:=[6]) (by kernel_rfl) (by simp) ?_
    refine AllReadyH.cons rfl (fun K hK=>?_) AllReadyH.nil
    go_simp
    refine hK.out _ _ ⟨k0,k1,k2,k3⟩ (fun hHeld=>?_)
    clear hK K
    try simp only [Act.put,aS,aZ,aU]
    refine wpAnyH_ready (rs:=[8]) (by kernel_rfl) (by simp) ?_
    refine AllReadyH.cons rfl (fun K hK=>?_) AllReadyH.nil
    go_simp
    refine (y6i w2.heap.size (.slice none 0 0) [] x.n Hrx.out.2.1 x.s _ _ (z0k.nil _ _ _) ?d1 ?d2 (enc x) ?d3).mono ?_
    case d1=>simp
    case d2=>exact Nat.le_refl _
    case d3=>show _ = _;rw [j9r x hk];rfl
    rintro e w3 ⟨v3,rfl,ho3,hg3,hn3⟩
    refine hK.out _ _ ⟨z2b hg3 k0 (by simp [Value.ownBlock]),z2b hg3 k1 (by simp [Value.ownBlock]),z2b hg3 k2 (by simp [Value.ownBlock]),z2b hg3 k3 (by simp [Value.ownBlock])⟩ (fun hHeld=>?_)
    clear hK K
    try simp only [Act.put,aS,aZ,aU]
    refine wpAnyH_ready (rs:=[9]) (by kernel_rfl) (by simp) ?_
    refine AllReadyH.cons rfl (fun K hK=>?_) AllReadyH.nil
    go_simp
    refine hK.out _ _ hHeld (fun hHeld=>?_)
    clear hK K
    try simp only [Act.put,aS,aZ,aU]
    refine wpAnyH_ready (rs:=[10]) (by kernel_rfl) (by simp) ?_
    refine AllReadyH.cons rfl (fun K hK=>?_) AllReadyH.nil
    go_simp
    refine hK.out _ _ hHeld (fun hHeld=>?_)
    clear hK K
    try simp only [Act.put,aS,aZ,aU]
    refine wpAnyH_done (by kernel_rfl) ?_ _
    have hb4:Below w.heap.size w w3:=z0a hbw (hb2.trans ((Below.refl _ w2).grown hg3 hb2.size (by simp [Value.ownBlock])))
    have HO:=hd_ ho3.rd
    clear ho3
    go_wp2
    go_ret2
    exact ⟨_,by rw [Hck.out];rfl,by rw [if_pos Hck.out];exact HO.out,hb4⟩
  · rw [hk] at HR HR0 ⊢
    go_enter Tryz.func37,Tryz.ntmps37
    go_wp2_with (go_at_call 102;refine (z0v x (by omega) _ _ (HR.out _)).mono ?_;rintro e w' ⟨rfl,hb'⟩)
    have hlt:w.heap.size < w'.heap.size:=by have:=hb'.size;simp at this;omega
    have hx0:w'.cell? ⟨w.heap.size,0,none⟩ = some (.int .i64 2):=(hb'.cell (p:=⟨w.heap.size,0,none⟩) (by simp)).trans (by simp)
    have hx1:w'.cell? ⟨w.heap.size,1,none⟩ = some (.int .i64 x.n):=(hb'.cell (p:=⟨w.heap.size,1,none⟩) (by simp)).trans (by simp)
    have hx2:w'.cell? ⟨w.heap.size,2,none⟩ = some (.string x.s):=(hb'.cell (p:=⟨w.heap.size,2,none⟩) (by simp)).trans (by simp)
    have hx3:w'.cell? ⟨w.heap.size,3,none⟩ = some (.slice oa x.l.length cap):=(hb'.cell (p:=⟨w.heap.size,3,none⟩) (by simp)).trans (by simp)
    have hbw:=z3d hb'
    have Hrx:=hd_ (HR0.out.ext hbw)
    refine wp_region_held_drew (S:=(fun w9=>w9.cell? ⟨w.heap.size,0,none⟩ = some (.int .i64 2)∧w9.cell? ⟨w.heap.size,1,none⟩ = some (.int .i64 x.n)∧w9.cell? ⟨w.heap.size,2,none⟩ = some (.string x.s)∧w9.cell? ⟨w.heap.size,3,none⟩ = some (.slice oa x.l.length cap))) (by kernel_rfl) ⟨hx0,hx1,hx2,hx3⟩ (fun hHeld=>?_)
    refine wpAnyH_take (i:=1) (v:=?vk2_1) rfl (by kernel_rfl) (by kernel_rfl) (by kernel_rfl) (fun _ _ _ h=>h) (Or.inl ⟨by rfl,fun wS hSw=>?hyk2_1⟩) (by assumption) ?restk2_1
    case hyk2_1=>(obtain ⟨h0,h1,h2,h3⟩:=hSw;go_simp;first | done | with_reducible rfl)
    simp only [Act.put,aS]
    refine wpAnyH_take (i:=2) (v:=?vk2_2) rfl (by kernel_rfl) (by kernel_rfl) (by kernel_rfl) (fun _ _ _ h=>h) (Or.inl ⟨by rfl,fun wS hSw=>?hyk2_2⟩) (by assumption) ?restk2_2
    case hyk2_2=>(obtain ⟨h0,h1,h2,h3⟩:=hSw;go_simp;first | done | with_reducible rfl)
    simp only [Act.put]
    refine wpAnyH_take (i:=7) (v:=?vk2_7) rfl (by kernel_rfl) (by kernel_rfl) (by kernel_rfl) (fun _ _ _ h=>h) (Or.inl ⟨by rfl,fun wS hSw=>?hyk2_7⟩) (by assumption) ?restk2_7
    case hyk2_7=>(obtain ⟨h0,h1,h2,h3⟩:=hSw;go_simp;first | done | with_reducible rfl)
    simp only [Act.put]
    refine wpAnyH_ready (rs:=[0]) (by kernel_rfl) (by simp) ?_
    refine AllReadyH.cons rfl (fun K hK=>?_) AllReadyH.nil
    go_simp
    refine (z9o _).mono ?_
    rintro e w2 ⟨tb,G,rfl,hW,hb2'⟩
    have hb2:Below w'.heap.size w' w2:=((Below.refl _ w').drew).trans hb2'
    have HW:=hd_ hW
    obtain ⟨htb,hgb,hv0,hv1,hv2,hv3⟩:=hW
    have k0:=(hb2.cell (p:=⟨w.heap.size,0,none⟩) hlt).trans hx0
    have k1:=(hb2.cell (p:=⟨w.heap.size,1,none⟩) hlt).trans hx1
    have k2:=(hb2.cell (p:=⟨w.heap.size,2,none⟩) hlt).trans hx2
    have k3:=(hb2.cell (p:=⟨w.heap.size,3,none⟩) hlt).trans hx3
    clear hb2'
    refine hK.out _ _ ⟨k0,k1,k2,k3⟩ (fun hHeld=>?_)
    clear hK K
    try simp only [Act.put,aS,aZ,aU]
    refine wpAnyH_take (i:=3) (v:=?vk2_3) rfl (by kernel_rfl) (by kernel_rfl) (by kernel_rfl) (fun _ _ _ h=>h) (Or.inl ⟨by rfl,fun wS hSw=>?hyk2_3⟩) (by assumption) ?restk2_3
    case hyk2_3=>(obtain ⟨h0,h1,h2,h3⟩:=hSw;go_simp;first | done | with_reducible rfl)
    simp only [Act.put,aS]
    refine wpAnyH_take (i:=4) (v:=?vk2_4) rfl (by kernel_rfl) (by kernel_rfl) (by kernel_rfl) (fun _ _ _ h=>h) (Or.inl ⟨by rfl,fun wS hSw=>?hyk2_4⟩) (by assumption) ?restk2_4
    case hyk2_4=>(obtain ⟨h0,h1,h2,h3⟩:=hSw;go_simp;first | done | with_reducible rfl)
    simp only [Act.put]
    refine wpAnyH_take (i:=5) (v:=?vk2_5) rfl (by kernel_rfl) (by kernel_rfl) (by kernel_rfl) (fun _ _ _ h=>h) (Or.inl ⟨by rfl,fun wS hSw=>?hyk2_5⟩) (by assumption) ?restk2_5
    case hyk2_5=>(obtain ⟨h0,h1,h2,h3⟩:=hSw;go_simp;first | done | with_reducible rfl)
    simp only [Act.put]
    refine wpAnyH_ready (rs:=[6]) (by kernel_rfl) (by simp) ?_
    refine AllReadyH.cons rfl (fun K hK=>?_) AllReadyH.nil
    go_simp
    refine hK.out _ _ ⟨k0,k1,k2,k3⟩ (fun hHeld=>?_)
    clear hK K
    try simp only [Act.put,aS,aZ,aU]
    refine wpAnyH_ready (rs:=[8]) (by kernel_rfl) (by simp) ?_
    refine AllReadyH.cons rfl (fun K hK=>?_) AllReadyH.nil
    go_simp
    refine (y7i w2.heap.size (.slice none 0 0) [] x.n x.s _ _ (z0k.nil _ _ _) ?d1 ?d4 ?d2 (enc x) ?d3).mono ?_
    case d1=>simp
    case d4=>have:=k0w x;omega
    case d2=>exact Nat.le_refl _
    case d3=>show _ = _;rw [j0s x hk];rfl
    rintro e w3 ⟨v3,rfl,ho3,hg3,hn3⟩
    refine hK.out _ _ ⟨z2b hg3 k0 (by simp [Value.ownBlock]),z2b hg3 k1 (by simp [Value.ownBlock]),z2b hg3 k2 (by simp [Value.ownBlock]),z2b hg3 k3 (by simp [Value.ownBlock])⟩ (fun hHeld=>?_)
    clear hK K
    try simp only [Act.put,aS,aZ,aU]
    refine wpAnyH_ready (rs:=[9]) (by kernel_rfl) (by simp) ?_
    refine AllReadyH.cons rfl (fun K hK=>?_) AllReadyH.nil
    go_simp
    refine hK.out _ _ hHeld (fun hHeld=>?_)
    clear hK K
    try simp only [Act.put,aS,aZ,aU]
    refine wpAnyH_ready (rs:=[10]) (by kernel_rfl) (by simp) ?_
    refine AllReadyH.cons rfl (fun K hK=>?_) AllReadyH.nil
    go_simp
    refine hK.out _ _ hHeld (fun hHeld=>?_)
    clear hK K
    try simp only [Act.put,aS,aZ,aU]
    refine wpAnyH_done (by kernel_rfl) ?_ _
    have hb4:Below w.heap.size w w3:=z0a hbw (hb2.trans ((Below.refl _ w2).grown hg3 hb2.size (by simp [Value.ownBlock])))
    have HO:=hd_ ho3.rd
    clear ho3
    go_wp2
    go_ret2
    exact ⟨_,by rw [Hck.out];rfl,by rw [if_pos Hck.out];exact HO.out,hb4⟩
  · rw [hk] at HR HR0 ⊢
    go_enter Tryz.func37,Tryz.ntmps37
    go_wp2_with (go_at_call 102;refine (z0v x (by omega) _ _ (HR.out _)).mono ?_;rintro e w' ⟨rfl,hb'⟩)
    have hlt:w.heap.size < w'.heap.size:=by have:=hb'.size;simp at this;omega
    have hx0:w'.cell? ⟨w.heap.size,0,none⟩ = some (.int .i64 3):=(hb'.cell (p:=⟨w.heap.size,0,none⟩) (by simp)).trans (by simp)
    have hx1:w'.cell? ⟨w.heap.size,1,none⟩ = some (.int .i64 x.n):=(hb'.cell (p:=⟨w.heap.size,1,none⟩) (by simp)).trans (by simp)
    have hx2:w'.cell? ⟨w.heap.size,2,none⟩ = some (.string x.s):=(hb'.cell (p:=⟨w.heap.size,2,none⟩) (by simp)).trans (by simp)
    have hx3:w'.cell? ⟨w.heap.size,3,none⟩ = some (.slice oa x.l.length cap):=(hb'.cell (p:=⟨w.heap.size,3,none⟩) (by simp)).trans (by simp)
    have hbw:=z3d hb'
    have Hrx:=hd_ (HR0.out.ext hbw)
    refine wp_region_held_drew (S:=(fun w9=>w9.cell? ⟨w.heap.size,0,none⟩ = some (.int .i64 3)∧w9.cell? ⟨w.heap.size,1,none⟩ = some (.int .i64 x.n)∧w9.cell? ⟨w.heap.size,2,none⟩ = some (.string x.s)∧w9.cell? ⟨w.heap.size,3,none⟩ = some (.slice oa x.l.length cap))) (by kernel_rfl) ⟨hx0,hx1,hx2,hx3⟩ (fun hHeld=>?_)
    refine wpAnyH_take (i:=1) (v:=?vk3_1) rfl (by kernel_rfl) (by kernel_rfl) (by kernel_rfl) (fun _ _ _ h=>h) (Or.inl ⟨by rfl,fun wS hSw=>?hyk3_1⟩) (by assumption) ?restk3_1
    case hyk3_1=>(obtain ⟨h0,h1,h2,h3⟩:=hSw;go_simp;first | done | with_reducible rfl)
    simp only [Act.put,aS]
    refine wpAnyH_take (i:=2) (v:=?vk3_2) rfl (by kernel_rfl) (by kernel_rfl) (by kernel_rfl) (fun _ _ _ h=>h) (Or.inl ⟨by rfl,fun wS hSw=>?hyk3_2⟩) (by assumption) ?restk3_2
    case hyk3_2=>(obtain ⟨h0,h1,h2,h3⟩:=hSw;go_simp;first | done | with_reducible rfl)
    simp only [Act.put]
    refine wpAnyH_take (i:=7) (v:=?vk3_7) rfl (by kernel_rfl) (by kernel_rfl) (by kernel_rfl) (fun _ _ _ h=>h) (Or.inl ⟨by rfl,fun wS hSw=>?hyk3_7⟩) (by assumption) ?restk3_7
    case hyk3_7=>(obtain ⟨h0,h1,h2,h3⟩:=hSw;go_simp;first | done | with_reducible rfl)
    simp only [Act.put]
    refine wpAnyH_ready (rs:=[0]) (by kernel_rfl) (by simp) ?_
    refine AllReadyH.cons rfl (fun K hK=>?_) AllReadyH.nil
    go_simp
    refine (z9o _).mono ?_
    rintro e w2 ⟨tb,G,rfl,hW,hb2'⟩
    have hb2:Below w'.heap.size w' w2:=((Below.refl _ w').drew).trans hb2'
    have HW:=hd_ hW
    obtain ⟨htb,hgb,hv0,hv1,hv2,hv3⟩:=hW
    have k0:=(hb2.cell (p:=⟨w.heap.size,0,none⟩) hlt).trans hx0
    have k1:=(hb2.cell (p:=⟨w.heap.size,1,none⟩) hlt).trans hx1
    have k2:=(hb2.cell (p:=⟨w.heap.size,2,none⟩) hlt).trans hx2
    have k3:=(hb2.cell (p:=⟨w.heap.size,3,none⟩) hlt).trans hx3
    clear hb2'
    refine hK.out _ _ ⟨k0,k1,k2,k3⟩ (fun hHeld=>?_)
    clear hK K
    try simp only [Act.put,aS,aZ,aU]
    refine wpAnyH_take (i:=3) (v:=?vk3_3) rfl (by kernel_rfl) (by kernel_rfl) (by kernel_rfl) (fun _ _ _ h=>h) (Or.inl ⟨by rfl,fun wS hSw=>?hyk3_3⟩) (by assumption) ?restk3_3
    case hyk3_3=>(obtain ⟨h0,h1,h2,h3⟩:=hSw;go_simp;first | done | with_reducible rfl)
    simp only [Act.put,aS]
    refine wpAnyH_take (i:=4) (v:=?vk3_4) rfl (by kernel_rfl) (by kernel_rfl) (by kernel_rfl) (fun _ _ _ h=>h) (Or.inl ⟨by rfl,fun wS hSw=>?hyk3_4⟩) (by assumption) ?restk3_4
    case hyk3_4=>(obtain ⟨h0,h1,h2,h3⟩:=hSw;go_simp;first | done | with_reducible rfl)
    simp only [Act.put]
    refine wpAnyH_take (i:=5) (v:=?vk3_5) rfl (by kernel_rfl) (by kernel_rfl) (by kernel_rfl) (fun _ _ _ h=>h) (Or.inl ⟨by rfl,fun wS hSw=>?hyk3_5⟩) (by assumption) ?restk3_5
    case hyk3_5=>(obtain ⟨h0,h1,h2,h3⟩:=hSw;go_simp;first | done | with_reducible rfl)
    simp only [Act.put]
    refine wpAnyH_ready (rs:=[6]) (by kernel_rfl) (by simp) ?_
    refine AllReadyH.cons rfl (fun K hK=>?_) AllReadyH.nil
    go_simp
    refine hK.out _ _ ⟨k0,k1,k2,k3⟩ (fun hHeld=>?_)
    clear hK K
    try simp only [Act.put,aS,aZ,aU]
    refine wpAnyH_ready (rs:=[8]) (by kernel_rfl) (by simp) ?_
    refine AllReadyH.cons rfl (fun K hK=>?_) AllReadyH.nil
    go_simp
    refine (x1p (szs x.l) ?d5 x.l (k1w x hk hfm) (Nat.le_refl _) w2.heap.size tb G (.slice none 0 0) [] x.n x.s oa cap _ (enc x) ?d6 HW.out (z0k.nil _ _ _) ?d1 ?d2 ?d3).mono ?_
    case d5=>have:=k9o x;omega
    case d6=>exact (Hrx.out.ext hb2).sl
    case d1=>have:=k9o x;simp;omega
    case d2=>exact Nat.le_refl _
    case d3=>show _ = _;rw [j1s x hk];rfl
    rintro e w3 ⟨v3,rfl,ho3,hg3,hn3⟩
    refine hK.out _ _ ⟨z2b hg3 k0 (by simp [Value.ownBlock]),z2b hg3 k1 (by simp [Value.ownBlock]),z2b hg3 k2 (by simp [Value.ownBlock]),z2b hg3 k3 (by simp [Value.ownBlock])⟩ (fun hHeld=>?_)
    clear hK K
    try simp only [Act.put,aS,aZ,aU]
    refine wpAnyH_ready (rs:=[9]) (by kernel_rfl) (by simp) ?_
    refine AllReadyH.cons rfl (fun K hK=>?_) AllReadyH.nil
    go_simp
    refine hK.out _ _ hHeld (fun hHeld=>?_)
    clear hK K
    try simp only [Act.put,aS,aZ,aU]
    refine wpAnyH_ready (rs:=[10]) (by kernel_rfl) (by simp) ?_
    refine AllReadyH.cons rfl (fun K hK=>?_) AllReadyH.nil
    go_simp
    refine hK.out _ _ hHeld (fun hHeld=>?_)
    clear hK K
    try simp only [Act.put,aS,aZ,aU]
    refine wpAnyH_done (by kernel_rfl) ?_ _
    have hb4:Below w.heap.size w w3:=z0a hbw (hb2.trans ((Below.refl _ w2).grown hg3 hb2.size (by simp [Value.ownBlock])))
    have HO:=hd_ ho3.rd
    clear ho3
    go_wp2
    go_ret2
    exact ⟨_,by rw [Hck.out];rfl,by rw [if_pos Hck.out];exact HO.out,hb4⟩
theorem RdB.form {w:World} {v:Value} {l:List UInt8} (h:RdB w v l):∃ oa cap,v = .slice oa l.length cap:=by
 rcases h with ⟨rfl,rfl⟩ | ⟨a,cap,rfl,_⟩
 · exact ⟨none,0,rfl⟩
 · exact ⟨some a,cap,rfl⟩
theorem x3p (x:V) (hx:sz x ≤ 60000) (v:Value) (w:World) (hr:RdV w.heap.size w x v):Calls Tryz.prog 37 #[v] w (x1d x w):=x2p x (by omega) v w hr
def z8r:List PanicEntry:=[{ v:=.iface 44 (.int .i64 10),recovered:=false }]
theorem z5j (p:Value) (w:World):Calls Tryz.prog 118 #[p,.bool true] w fun e w'=>e = .returned (.tuple #[])∧w = w':=by
 go_enter Tryz.func118,Tryz.ntmps118
 go_wp2
 go_end0
 exact ⟨rfl,rfl⟩
theorem z8k (p:Value) (w:World):Calls Tryz.prog 118 #[p,.bool false] w fun e w'=>e = .panicked z8r∧w = w':=by
 go_enter Tryz.func118,Tryz.ntmps118
 go_wp2
 exact ⟨rfl,rfl,rfl⟩
structure RdrAt (B:Nat) (w:World) (R:Nat) (l:List UInt8):Prop where
 le:B ≤ R
 free:w.frozen? ⟨R,0,none⟩ = false
 rest:∃ v,w.cell? ⟨R,0,none⟩ = some v∧z9c B w l v
def j5m (B:Nat) (R:Nat) (l:List UInt8) (n:Nat) (w:World) (e:Ending) (w':World):Prop :=
 ∃ v v',e = .returned v∧z9c B w (l.take n) v∧z9c B w (l.drop n) v'∧w' = w.setCell ⟨R,0,none⟩ v'
theorem y9c (B R:Nat) (l:List UInt8) (n:Nat) (ni:Int) (hni:ni = (n:Int)) (w:World) (hr:RdrAt B w R l) (hn:n ≤ l.length) (hl:l.length ≤ 1000000) :
 Calls Tryz.prog 169 #[.pointer (some ⟨R,0,none⟩),.int .i64 ni] w (j5m B R l n w):=by
 subst hni
 obtain ⟨hle,hfr,v,hv,hb⟩:=hr
 rcases hb with ⟨rfl,oa,cap,rfl,hcm⟩ | ⟨hne,b,off,cap,rfl,h2,h3,h4,h5⟩
 · obtain rfl:n = 0:=by simpa using hn
   go_enter Tryz.func169,Tryz.ntmps169
   go_wp2_with (go_at_call 118;refine (z5j _ _).mono ?_;rintro e w' ⟨rfl,rfl⟩)
   all_goals go_ret
   all_goals exact ⟨_,_,rfl,.inl ⟨rfl,_,_,rfl,by first | exact hcm | simp⟩,.inl ⟨rfl,_,_,rfl,by first | exact hcm | simp⟩,by first | rfl | simp⟩
 · have H5:=hd_ h5;clear h5
   go_enter Tryz.func169,Tryz.ntmps169
   go_wp2_with (go_at_call 118;refine (z5j _ _).mono ?_;rintro e w' ⟨rfl,rfl⟩)
   all_goals go_ret
   · have hnl:n = l.length:=by omega
     refine ⟨_,_,rfl,z9c.mk' (by simp;omega) (by simp;omega) (by omega) h4 (fun j c hj=>H5.out j c ?_),z9c.mk' (by simp) (by simp;omega) (by omega) h4 (fun j c hj=>?_),rfl⟩
     · rw [List.getElem?_take] at hj;split at hj
       · exact hj
       · cases hj
     · rw [List.getElem?_drop,List.getElem?_eq_none (by omega)] at hj;cases hj
   · refine ⟨_,_,rfl,z9c.mk' (by simp;omega) (by simp;omega) (by omega) h4 (fun j c hj=>H5.out j c ?_),z9c.mk' (by simp) (by simp;omega) (by omega) h4 (fun j c hj=>?_),rfl⟩
     · rw [List.getElem?_take] at hj;split at hj
       · exact hj
       · cases hj
     · rw [Nat.add_assoc];exact H5.out (n + j) c (by simpa using hj)
theorem x8k (B R:Nat) (l:List UInt8) (n:Nat) (ni:Int) (hni:ni = (n:Int)) (w:World) (hr:RdrAt B w R l) (hn:l.length < n) (_:n ≤ 1000000000) :
 Calls Tryz.prog 169 #[.pointer (some ⟨R,0,none⟩),.int .i64 ni] w fun e w'=>e = .panicked z8r∧w = w':=by
 subst hni
 obtain ⟨hle,hfr,v,hv,hb⟩:=hr
 obtain ⟨oa,cap,rfl,hlc,hcm⟩:=hb.form
 clear hb
 have hd:decide (n ≤ l.length) = false:=by simpa using hn
 go_enter Tryz.func169,Tryz.ntmps169
 go_wp2_with (go_at_call 118;refine (z8k _ _).mono ?_;rintro e w' ⟨rfl,rfl⟩)
 exact ⟨rfl,rfl,rfl⟩
theorem z5c (w:World) (R:Nat) (v:Value):w.grownBy (w.setCell ⟨R,0,none⟩ v) (some R) :=
 ⟨rfl,rfl,rfl,by simp [World.setCell],fun k _ hk=>Below.heap_setCell _ _ _ _ (fun h=>hk (by rw [h]))⟩
theorem RdrAt.took {B R:Nat} {w:World} {l l':List UInt8} {v':Value} (h:RdrAt B w R l) (hb:z9c B w l' v'):RdrAt B (w.setCell ⟨R,0,none⟩ v') R l':=by
 obtain ⟨hle,hfr,v,hv,_⟩:=h
 refine ⟨hle,by rw [World.frozen?_setCell];exact hfr,v',World.cell?_setCell_same _ _ _ hv,hb.keep (Nat.le_refl _) fun k hk=>Below.heap_setCell _ _ _ _ (by show k ≠ R;omega)⟩
def z7f:Nat→Nat→List UInt8→Option (Nat × List UInt8)
 | _,_,[]=>none
 | i,u,c :: r=>if (i = 0∨c.toNat ≠ 0)∧(i < 9∨c.toNat ≤ 1) then (if c.toNat < 128 then some (u + c.toNat * 2 ^ (7 * i),r) else z7f (i + 1) (u + (c.toNat - 128) * 2 ^ (7 * i)) r) else none
def x9k (B R:Nat) (o:Option (Value × List UInt8)) (w:World) (e:Ending) (w':World):Prop :=
 match o with
 | some (v,r)=>e = .returned v∧RdrAt B w' R r∧w.grownBy w' (some R)
 | none=>e = .panicked z8r∧w.grownBy w' (some R)
theorem k6h:∀ b:Fin 256,bits BinOp.and IntKind.u8 ((b:Nat):Int) 127 = ((b.val % 128:Nat):Int):=by decide +kernel
theorem j2s (x k:Nat) (c:UInt8) (hk:k ≤ 9) (hx:x < 2 ^ (7 * k)) (hc:k = 9→c.toNat ≤ 1) :
 bits BinOp.or IntKind.u64 (x:Int) (IntKind.u64.wrap (IntKind.u64.wrap (bits BinOp.and IntKind.u8 (c.toNat:Int) 127) * 2 ^ (7 * k))) = ((x + c.toNat % 128 * 2 ^ (7 * k):Nat):Int):=by
 have h1:=k6h ⟨c.toNat,c.toNat_lt⟩
 simp only at h1
 have hm:c.toNat % 128 < 128:=Nat.mod_lt _ (by decide)
 have hpow:(2:Nat) ^ (7 * k) ≤ 2 ^ 63:=Nat.pow_le_pow_right (by decide) (by omega)
 have hb:c.toNat % 128 * 2 ^ (7 * k) < 18446744073709551616:=by
  by_cases h9:k = 9
  · subst h9;have:=hc rfl;omega
  · have h2:(2:Nat) ^ (7 * k) ≤ 2 ^ 56:=Nat.pow_le_pow_right (by decide) (by omega)
    have h3:c.toNat % 128 * 2 ^ (7 * k) ≤ 127 * 2 ^ 56:=Nat.mul_le_mul (by omega) h2
    omega
 rw [h1]
 rw [IntKind.wrap_u64,IntKind.wrap_u64]
 have e1:((c.toNat % 128:Nat):Int) % 18446744073709551616 = ((c.toNat % 128:Nat):Int):=by omega
 rw [e1]
 have e2:((c.toNat % 128:Nat):Int) * 2 ^ (7 * k) = ((c.toNat % 128 * 2 ^ (7 * k):Nat):Int):=by push_cast;rfl
 rw [e2]
 have e3:((c.toNat % 128 * 2 ^ (7 * k):Nat):Int) % 18446744073709551616 = ((c.toNat % 128 * 2 ^ (7 * k):Nat):Int):=by omega
 rw [e3,bits_or_u64_nat _ _ (by omega) hb]
 congr 1
 have h4:=Nat.shiftLeft_add_eq_or_of_lt hx (c.toNat % 128)
 rw [Nat.shiftLeft_eq] at h4
 rw [Nat.or_comm,← h4];omega
theorem z0w {k x:Nat} {c:UInt8} {r:List UInt8} (h:(k = 0∨c.toNat ≠ 0)∧(k < 9∨c.toNat ≤ 1)) (hc:c.toNat < 128):z7f k x (c :: r) = some (x + c.toNat % 128 * 2 ^ (7 * k),r):=by
 rw [z7f,if_pos h,if_pos hc,Nat.mod_eq_of_lt hc]
theorem y4m {k x:Nat} {c:UInt8} {r:List UInt8} (h:(k = 0∨c.toNat ≠ 0)∧(k < 9∨c.toNat ≤ 1)) (hc:¬ c.toNat < 128):z7f k x (c :: r) = z7f (k + 1) (x + c.toNat % 128 * 2 ^ (7 * k)) r:=by
 rw [z7f,if_pos h,if_neg hc]
 have:=c.toNat_lt
 rw [show c.toNat - 128 = c.toNat % 128 from by omega]
theorem y6t {k x:Nat} {c:UInt8} {r:List UInt8} (h:¬ ((k = 0∨c.toNat ≠ 0)∧(k < 9∨c.toNat ≤ 1))):z7f k x (c :: r) = none:=by rw [z7f,if_neg h]
def j3x (B R:Nat) (l:List UInt8) (w:World) (i u:Value) (wr:World):Prop :=
 ∃ (k x:Nat) (r:List UInt8),i = .int .i64 k∧u = .int .u64 x∧k ≤ 9∧x < 2 ^ (7 * k)∧z7f 0 0 l = z7f k x r∧r.length ≤ 1000000∧RdrAt B wr R r∧w.grownBy wr (some R)
theorem z4n (B R:Nat) (l:List UInt8) (hl:l.length ≤ 1000000) (w:World) (hr:RdrAt B w R l) :
 Calls Tryz.prog 171 #[.pointer (some ⟨R,0,none⟩)] w (x9k B R ((z7f 0 0 l).map fun p=>(.int .u64 (p.1:Int),p.2)) w):=by
 have HR:=hd_ hr;clear hr
 go_enter Tryz.func171,Tryz.ntmps171
 go_wp2
 go_loopw [2,3] (fun u i wr=>j3x B R l w i u wr) (fun _ i _=>10 - (intOf i).toNat)
 case atStart=>exact ⟨0,0,l,rfl,rfl,by omega,by simp,rfl,hl,HR.out,z7b _ _⟩
 case round =>
  obtain ⟨k,x,r,rfl,rfl,hk,hx,heq,hrl,hrd,hg⟩:=hrel
  have Heq:=hd_ heq;have Hx:=hd_ hx;have HRd:=hd_ hrd
  clear heq hx hrd
  cases r with
  | nil =>
   have hn:Hid (z7f 0 0 l = none):=by have:=Heq.out;rw [z7f] at this;exact this
   go_wp2_with (go_at_call 169;refine (x8k B R [] 1 _ rfl _ HRd.out (by simp) (by omega)).mono ?_;rintro e w' ⟨rfl,rfl⟩)
   exact ⟨rfl,by rw [hn.out];exact And.intro rfl hg⟩
  | cons c r =>
   have c0:∀ v,z9c B wr [c] v→∃ b off cap,v = .slice (some ⟨b,off,none⟩) 1 cap∧b < B∧wr.cell? ⟨b,off,none⟩ = some (.int .u8 (c.toNat:Int)):=fun v hv=>by
    rcases hv with ⟨h,_⟩ | ⟨_,b,off,cap,rfl,_,_,h4,h5⟩
    · cases h
    · exact ⟨b,off,cap,rfl,h4,by simpa using h5 0 c rfl⟩
   have C0:=hd_ c0;clear c0
   have hrl':r.length ≤ 1000000:=by simp at hrl;omega
   obtain ⟨b0,e0⟩:∃ b,((k:Int) == 0) = b:=⟨_,rfl⟩
   obtain ⟨b1,e1⟩:∃ b,((c.toNat:Int) != 0) = b:=⟨_,rfl⟩
   obtain ⟨b2,e2⟩:∃ b,decide ((k:Int) < 9) = b:=⟨_,rfl⟩
   obtain ⟨b3,e3⟩:∃ b,decide ((c.toNat:Int) ≤ 1) = b:=⟨_,rfl⟩
   obtain ⟨b4,e4⟩:∃ b,decide ((c.toNat:Int) < 128) = b:=⟨_,rfl⟩
   have E:=hd_ (And.intro e0 (And.intro e1 (And.intro e2 (And.intro e3 e4))))
   have hcond:Hid (((b0 || b1) && (b2 || b3)) = true↔((k = 0∨c.toNat ≠ 0)∧(k < 9∨c.toNat ≤ 1))):=by
    show _↔_
    rw [← e0,← e1,← e2,← e3]
    simp;omega
   by_cases hgood:((b0 || b1) && (b2 || b3)) = true
   case neg =>
    have hn:Hid (z7f 0 0 l = none):=by show _ = _;rw [Heq.out];exact y6t fun h=>hgood (hcond.out.2 h)
    have hgf:((b0 || b1) && (b2 || b3)) = false:=by simpa using hgood
    clear hgood hcond
    have HG:=hd_ hgf;clear hgf
    cases b0 <;> cases b1 <;> cases b2 <;> cases b3
    all_goals first | (exfalso;exact absurd HG.out (by decide)) | skip
    all_goals
     go_wp2_with (first
      | (go_at_call 169;refine (y9c B R (c :: r) 1 _ rfl _ HRd.out (by simp) hrl).mono ?_;rintro e w1 ⟨v,v',rfl,hv,hv',rfl⟩;obtain ⟨b,off,cap,rfl,hbB,hc⟩:=C0.out v hv;have hbR:R ≠ b:=by (have:=HRd.out.le;omega))
      | (go_at_call 118;refine (z8k _ _).mono ?_;rintro e w' ⟨rfl,rfl⟩))
     exact ⟨rfl,by rw [hn.out];exact And.intro rfl (z2a hg (z5c _ _ _) (.inl rfl))⟩
   case pos =>
    have hgd:=hcond.out.1 hgood
    have HGD:=hd_ hgd
    have HG:=hd_ hgood;clear hgood hgd hcond
    cases b4
    · have hc128:Hid (¬ c.toNat < 128):=by have:=E.out.2.2.2.2;simp at this;show ¬ _;omega
      have hk9:k < 9:=by
       have h1:=HGD.out.2;have h2:=hc128.out;omega
      have hor:=hd_ (j2s x k c hk Hx.out (by omega))
      have hon:=hd_ (y4m (x:=x) (r:=r) HGD.out hc128.out)
      cases b0 <;> cases b1 <;> cases b2 <;> cases b3
      all_goals first | (exfalso;exact absurd HG.out (by decide)) | skip
      all_goals
       go_wp2_with (first
        | (go_at_call 169;refine (y9c B R (c :: r) 1 _ rfl _ HRd.out (by simp) hrl).mono ?_;rintro e w1 ⟨v,v',rfl,hv,hv',rfl⟩;obtain ⟨b,off,cap,rfl,hbB,hc⟩:=C0.out v hv;have hbR:R ≠ b:=by (have:=HRd.out.le;omega))
        | (go_at_call 118;refine (z5j _ _).mono ?_;rintro e w' ⟨rfl,rfl⟩))
       go_roundw
       case rel =>
        refine ⟨k + 1,x + c.toNat % 128 * 2 ^ (7 * k),r,by go_num,by rw [hor.out],by omega,?_,by rw [Heq.out,hon.out],hrl',HRd.out.took (by simpa using hv'),z2a hg (z5c _ _ _) (.inl rfl)⟩
        have h1:c.toNat % 128 * 2 ^ (7 * k) ≤ 127 * 2 ^ (7 * k):=Nat.mul_le_mul_right _ (by omega)
        have h2:(2:Nat) ^ (7 * (k + 1)) = 128 * 2 ^ (7 * k):=by rw [show 7 * (k + 1) = 7 + 7 * k from by omega,Nat.pow_add]
        have h3:=Hx.out
        omega
       case measure=>simp [intOf];omega
    · have hc128:Hid (c.toNat < 128):=by have:=E.out.2.2.2.2;simp at this;show _ < _;omega
      have hor:=hd_ (j2s x k c hk Hx.out (fun h=>by have:=HGD.out.2;omega))
      have hen:=hd_ (z0w (x:=x) (r:=r) HGD.out hc128.out)
      cases b0 <;> cases b1 <;> cases b2 <;> cases b3
      all_goals first | (exfalso;exact absurd HG.out (by decide)) | skip
      all_goals
       go_wp2_with (first
        | (go_at_call 169;refine (y9c B R (c :: r) 1 _ rfl _ HRd.out (by simp) hrl).mono ?_;rintro e w1 ⟨v,v',rfl,hv,hv',rfl⟩;obtain ⟨b,off,cap,rfl,hbB,hc⟩:=C0.out v hv;have hbR:R ≠ b:=by (have:=HRd.out.le;omega))
        | (go_at_call 118;refine (z5j _ _).mono ?_;rintro e w' ⟨rfl,rfl⟩))
       go_ret
       rw [Heq.out,hen.out]
       exact And.intro (by rw [← hor.out];rfl) (And.intro (HRd.out.took (by simpa using hv')) (z2a hg (z5c _ _ _) (.inl rfl)))
theorem y9i (x:V) (hx:sz x ≤ 60000) (v:Value) (w:World) (hr:RdV w.heap.size w x v):Calls Tryz.prog 111 #[v] w (x9b (ck x) w):=by
 have HR:=hd_ (fun ob=>hr.alloc ob)
 obtain ⟨oa,cap,rfl,hl⟩:=hr.form
 have hd:=x3w x
 clear hr hl
 rcases Bool.eq_false_or_eq_true (fm x) with hfx | hfx
 · by_cases h16:16 < dp x
   all_goals
    have hck:=hd_ (show ck x = (if 16 < dp x then 2 else 0) from by simp [ck,hfx])
    go_enter Tryz.func111,Tryz.ntmps111
    go_wp2_with (first
     | (go_at_call 165;refine (y7b 60000 (by decide) x hx _ _ (HR.out _)).mono ?_;rintro e w1 ⟨rfl,hb1⟩;obtain ⟨b0,b1,b2,b3⟩:=y1s (j3r hb1))
     | (go_at_call 166;refine (x3o 60000 (by decide) x hx _ _ ((HR.out _).ext hb1)).mono ?_;rintro e w2 ⟨rfl,hb2⟩))
    go_ret
    exact ⟨by rw [hck.out];first | rw [if_pos h16];rfl | rw [if_neg h16];rfl,z3d (hb1.trans (hb2.mono hb1.size))⟩
 · have hck:=hd_ (show ck x = 1 from by simp [ck,hfx])
   go_enter Tryz.func111,Tryz.ntmps111
   go_wp2_with (go_at_call 165;refine (y7b 60000 (by decide) x hx _ _ (HR.out _)).mono ?_;rintro e w1 ⟨rfl,hb1⟩)
   go_ret
   exact ⟨by rw [hck.out];rfl,z3d hb1⟩
theorem x2d (x:V) (hx:sz x ≤ 60000) (v:Value) (w:World) (hr:RdV w.heap.size w x v):Calls Tryz.prog 51 #[v] w (x1d x w):=by
 have HR:=hd_ (fun ob=>hr.alloc ob)
 obtain ⟨oa,cap,rfl,hl⟩:=hr.form
 clear hr hl
 by_cases hck:ck x = 0
 case neg =>
  have hne:(ck x != 0) = true:=by rw [bne_iff_ne];exact hck
  have Hck:=hd_ hck;clear hck
  go_enter Tryz.func51,Tryz.ntmps51
  go_wp2_with (go_at_call 111;refine (y9i x hx _ _ (HR.out _)).mono ?_;rintro e w' ⟨rfl,hb'⟩)
  go_ret2
  exact ⟨_,rfl,by rw [if_neg Hck.out];exact .inl ⟨rfl,rfl⟩,z3d hb'⟩
 case pos =>
  have hfm:=k5h hck
  have heq:(ck x != 0) = false:=by rw [hck];rfl
  have Hck:=hd_ hck;clear hck
  go_enter Tryz.func51,Tryz.ntmps51
  go_wp2_with (first
   | (go_at_call 111;refine (y9i x hx _ _ (HR.out _)).mono ?_;rintro e w1 ⟨rfl,hb1⟩;obtain ⟨b0,b1,b2,b3⟩:=y1s (j3r hb1))
   | (go_at_call 112;refine (x0d 60000 (by decide) x hfm hx _ _ ((HR.out _).ext hb1)).mono ?_;rintro e w2 ⟨v2,rfl,ho2,hb2⟩))
  go_ret2
  exact ⟨_,by rw [Hck.out];rfl,by rw [if_pos Hck.out];exact ho2.rd,z3d (hb1.trans (hb2.mono hb1.size))⟩
end Go.Proofs.YtdblnbnofjggnaaGreatDoor
