/- Parts of the proofs of chapter 49's laws. -/
import Derived.Test.YtdblnbnofjggnaaGreatDoorP19
import Derived.Laws.EntriesVeiled
import Derived.Test.YtdblnbnofjggnaaGreatDoorP12
set_option maxHeartbeats 1000000
set_option maxRecDepth 100000
open Go.Lib renaming hid → hd_
open List renaming setIfInBounds_toArray → aS, set_cons_zero → aZ, set_cons_succ → aU
open Go.Value renaming int → Z, slice → Q, string → U, pointer → F
open Go.IntKind renaming i64 → Y
open Option renaming none → I, some → J
open Go renaming World → X, Value → M, Calls → O
set_option linter.all false
namespace Go.Proofs.YtdblnbnofjggnaaGreatDoor
open Go.Proofs.Tryz
open Go.RowKit
theorem RdB.keep {w w':X} {v:Value} {l:List UInt8} (h:RdB w v l) (hs:∀ k,k<w.heap.size→w'.heap[k]? = w.heap[k]?):RdB w' v l:=by
 rcases h with h|⟨a,cap,h1,h1',h2,h3,h4⟩
 ·exact .inl h
 ·refine .inr ⟨a,cap,h1,h1',h2,h3,fun j u hu=>?_⟩
  have hc:=h4 j u hu
  have hlt:=World.block_lt_of_cell? w _ hc
  rw [World.cell?_of_block (w:=w) (hs _ hlt)];exact hc
theorem RdB.ext {w w':X} {v:Value} {l:List UInt8} (h:RdB w v l) (hb:Below w.heap.size w w'):RdB w' v l:=h.keep hb.block
def k8c (w:X) (e:Ending) (w':X):Prop :=
 ∃ tb G,e=.returned (F (J ⟨G,0,I⟩))∧WrAt w'.heap.size w' tb G∧Below w.heap.size w w'
theorem z3q (w:X):O prog 103 #[] w (k8c w):=by
 have hmf:∀ (fn:Fn) (first cap:Array M) (w:X),(Instr.makeFunc fn first cap).run prog w=.ok (.func fn first cap) w:=fun _ _ _ _=>rfl
 go_enter func103,ntmps103
 go_wp2
 go_ret
 refine ⟨w.heap.size+1,w.heap.size,rfl,⟨by simp,by simp;omega,?_,?_,?_,?_⟩,?_⟩
 all_goals first|simp|skip
 repeat (first|exact Below.refl _ _|refine Below.alloc ?_ (by simp) _)
def x4g (x:V) (w:X) (e:Ending) (w':X):Prop :=
 ∃ v,e=.returned (.tuple #[v,Z Y (ck x)])∧RdB w' v (if ck x=0 then enc x else [])∧Below w.heap.size w w'
theorem k8o {x:V} (h:ck x=0):fm x=true:=by
 unfold ck at h;by_cases hf:fm x=true
 ·exact hf
 ·rw [if_neg hf] at h;cases h
theorem x3s (x:V) (hx:sz x≤50000000) (v:M) (w:X) (hr:RdV w.heap.size w x v):O prog 37 #[v] w (x4g x w):=by
 have HR:=hd_ (fun ob=>hr.alloc ob)
 have HR0:=hd_ hr
 obtain ⟨oa,cap,rfl,hl⟩:=hr.form
 clear hr hl
 by_cases hck:ck x=0
 case neg =>
  have hne:(ck x != 0)=true:=by rw [bne_iff_ne];exact hck
  have it:=hd_ hck;clear hck
  go_enter func37,ntmps37
  go_wp2_with (go_at_call 102;refine (z8w x (by omega) _ _ (HR.out _)).mono ?_;rintro e w' ⟨rfl,de⟩)
  go_ret2
  exact ⟨_,rfl,by rw [if_neg it.out];exact .inl ⟨rfl,rfl⟩,z7d de⟩
 case pos =>
  have hfm:=k8o hck
  have heq:(ck x != 0)=false:=by rw [hck];rfl
  have it:=hd_ hck;clear hck
  rcases x2g hfm with hk|hk|hk
  ·rw [hk] at HR HR0 ⊢
   go_enter func37,ntmps37
   go_wp2_with (go_at_call 102;refine (z8w x (by omega) _ _ (HR.out _)).mono ?_;rintro e w' ⟨rfl,de⟩)
   have hlt:w.heap.size<w'.heap.size:=by have:=de.size;simp at this;omega
   have fX:w'.cell? ⟨w.heap.size,0,I⟩=J (Z Y 1):=(de.cell (p:=⟨w.heap.size,0,I⟩) (by simp)).trans (by simp)
   have ju:w'.cell? ⟨w.heap.size,1,I⟩=J (Z Y x.n):=(de.cell (p:=⟨w.heap.size,1,I⟩) (by simp)).trans (by simp)
   have jK:w'.cell? ⟨w.heap.size,2,I⟩=J (U x.s):=(de.cell (p:=⟨w.heap.size,2,I⟩) (by simp)).trans (by simp)
   have mI:w'.cell? ⟨w.heap.size,3,I⟩=J (Q oa x.l.length cap):=(de.cell (p:=⟨w.heap.size,3,I⟩) (by simp)).trans (by simp)
   have hbw:=z7d de
   have Hrx:=hd_ (HR0.out.ext hbw)
   refine wp_region_held_drew (S:=(fun w9=>w9.cell? ⟨w.heap.size,0,I⟩=J (Z Y 1)∧w9.cell? ⟨w.heap.size,1,I⟩=J (Z Y x.n)∧w9.cell? ⟨w.heap.size,2,I⟩=J (U x.s)∧w9.cell? ⟨w.heap.size,3,I⟩=J (Q oa x.l.length cap))) (by kernel_rfl) ⟨fX,ju,jK,mI⟩ (fun hHeld=>?_)
   refine tkH _ 1 ?_
   refine tkH _ 2 ?_
   refine tkH _ 7 ?_
   refine rdH 0 fun K hK=>?_
   go_simp
   refine (z3q _).mono ?_
   rintro e w2 ⟨tb,G,rfl,hW,dT⟩
   have aj:Below w'.heap.size w' w2:=((Below.refl _ w').drew).trans dT
   have HW:=hd_ hW
   obtain ⟨htb,hgb,hv0,mH,kd,hv3⟩:=hW
   have k0:=(aj.cell (p:=⟨w.heap.size,0,I⟩) hlt).trans fX
   have k1:=(aj.cell (p:=⟨w.heap.size,1,I⟩) hlt).trans ju
   have k2:=(aj.cell (p:=⟨w.heap.size,2,I⟩) hlt).trans jK
   have k3:=(aj.cell (p:=⟨w.heap.size,3,I⟩) hlt).trans mI
   clear dT
   refine hK.out _ _ ⟨k0,k1,k2,k3⟩ (fun hHeld=>?_)
   clear hK K
   try simp only [Act.put,aS,aZ,aU]
   refine tkH _ 3 ?_
   refine tkH _ 4 ?_
   refine tkH _ 5 ?_
   refine rdH 6 fun K hK=>?_
   go_simp
   refine hK.out _ _ ⟨k0,k1,k2,k3⟩ (fun hHeld=>?_)
   clear hK K
   try simp only [Act.put,aS,aZ,aU]
   refine rdH 8 fun K hK=>?_
   go_simp
   refine (y9l w2.heap.size (Q I 0 0) [] x.n Hrx.out.2.1 x.s _ _ (z3o.nil _ _ _) ?d1 ?d2 (enc x) ?d3).mono ?_
   case d1=>simp
   case d2=>exact Nat.le_refl _
   case d3=>show _=_;rw [j6x x hk];rfl
   rintro e w3 ⟨v3,rfl,dG,bj,eJ⟩
   refine hK.out _ _ ⟨z2b bj k0 (by simp [Value.ownBlock]),z2b bj k1 (by simp [Value.ownBlock]),z2b bj k2 (by simp [Value.ownBlock]),z2b bj k3 (by simp [Value.ownBlock])⟩ (fun hHeld=>?_)
   clear hK K
   try simp only [Act.put,aS,aZ,aU]
   refine rdH 9 fun K hK=>?_
   go_simp
   refine hK.out _ _ hHeld (fun hHeld=>?_)
   clear hK K
   try simp only [Act.put,aS,aZ,aU]
   refine rdH 10 fun K hK=>?_
   go_simp
   refine hK.out _ _ hHeld (fun hHeld=>?_)
   clear hK K
   try simp only [Act.put,aS,aZ,aU]
   refine wpAnyH_done (by kernel_rfl) ?_ _
   have cO:Below w.heap.size w w3:=z0a hbw (aj.trans ((Below.refl _ w2).grown bj aj.size (by simp [Value.ownBlock])))
   have HO:=hd_ dG.rd
   clear dG
   go_wp2
   go_ret2
   exact ⟨_,by rw [it.out];rfl,by rw [if_pos it.out];exact HO.out,cO⟩
  ·rw [hk] at HR HR0 ⊢
   go_enter func37,ntmps37
   go_wp2_with (go_at_call 102;refine (z8w x (by omega) _ _ (HR.out _)).mono ?_;rintro e w' ⟨rfl,de⟩)
   have hlt:w.heap.size<w'.heap.size:=by have:=de.size;simp at this;omega
   have fX:w'.cell? ⟨w.heap.size,0,I⟩=J (Z Y 2):=(de.cell (p:=⟨w.heap.size,0,I⟩) (by simp)).trans (by simp)
   have ju:w'.cell? ⟨w.heap.size,1,I⟩=J (Z Y x.n):=(de.cell (p:=⟨w.heap.size,1,I⟩) (by simp)).trans (by simp)
   have jK:w'.cell? ⟨w.heap.size,2,I⟩=J (U x.s):=(de.cell (p:=⟨w.heap.size,2,I⟩) (by simp)).trans (by simp)
   have mI:w'.cell? ⟨w.heap.size,3,I⟩=J (Q oa x.l.length cap):=(de.cell (p:=⟨w.heap.size,3,I⟩) (by simp)).trans (by simp)
   have hbw:=z7d de
   have Hrx:=hd_ (HR0.out.ext hbw)
   refine wp_region_held_drew (S:=(fun w9=>w9.cell? ⟨w.heap.size,0,I⟩=J (Z Y 2)∧w9.cell? ⟨w.heap.size,1,I⟩=J (Z Y x.n)∧w9.cell? ⟨w.heap.size,2,I⟩=J (U x.s)∧w9.cell? ⟨w.heap.size,3,I⟩=J (Q oa x.l.length cap))) (by kernel_rfl) ⟨fX,ju,jK,mI⟩ (fun hHeld=>?_)
   refine tkH _ 1 ?_
   refine tkH _ 2 ?_
   refine tkH _ 7 ?_
   refine rdH 0 fun K hK=>?_
   go_simp
   refine (z3q _).mono ?_
   rintro e w2 ⟨tb,G,rfl,hW,dT⟩
   have aj:Below w'.heap.size w' w2:=((Below.refl _ w').drew).trans dT
   have HW:=hd_ hW
   obtain ⟨htb,hgb,hv0,mH,kd,hv3⟩:=hW
   have k0:=(aj.cell (p:=⟨w.heap.size,0,I⟩) hlt).trans fX
   have k1:=(aj.cell (p:=⟨w.heap.size,1,I⟩) hlt).trans ju
   have k2:=(aj.cell (p:=⟨w.heap.size,2,I⟩) hlt).trans jK
   have k3:=(aj.cell (p:=⟨w.heap.size,3,I⟩) hlt).trans mI
   clear dT
   refine hK.out _ _ ⟨k0,k1,k2,k3⟩ (fun hHeld=>?_)
   clear hK K
   try simp only [Act.put,aS,aZ,aU]
   refine tkH _ 3 ?_
   refine tkH _ 4 ?_
   refine tkH _ 5 ?_
   refine rdH 6 fun K hK=>?_
   go_simp
   refine hK.out _ _ ⟨k0,k1,k2,k3⟩ (fun hHeld=>?_)
   clear hK K
   try simp only [Act.put,aS,aZ,aU]
   refine rdH 8 fun K hK=>?_
   go_simp
   refine (y0m w2.heap.size (Q I 0 0) [] x.n x.s _ _ (z3o.nil _ _ _) ?d1 ?d4 ?d2 (enc x) ?d3).mono ?_
   case d1=>simp
   case d4=>have:=v0e x;omega
   case d2=>exact Nat.le_refl _
   case d3=>show _=_;rw [j7x x hk];rfl
   rintro e w3 ⟨v3,rfl,dG,bj,eJ⟩
   refine hK.out _ _ ⟨z2b bj k0 (by simp [Value.ownBlock]),z2b bj k1 (by simp [Value.ownBlock]),z2b bj k2 (by simp [Value.ownBlock]),z2b bj k3 (by simp [Value.ownBlock])⟩ (fun hHeld=>?_)
   clear hK K
   try simp only [Act.put,aS,aZ,aU]
   refine rdH 9 fun K hK=>?_
   go_simp
   refine hK.out _ _ hHeld (fun hHeld=>?_)
   clear hK K
   try simp only [Act.put,aS,aZ,aU]
   refine rdH 10 fun K hK=>?_
   go_simp
   refine hK.out _ _ hHeld (fun hHeld=>?_)
   clear hK K
   try simp only [Act.put,aS,aZ,aU]
   refine wpAnyH_done (by kernel_rfl) ?_ _
   have cO:Below w.heap.size w w3:=z0a hbw (aj.trans ((Below.refl _ w2).grown bj aj.size (by simp [Value.ownBlock])))
   have HO:=hd_ dG.rd
   clear dG
   go_wp2
   go_ret2
   exact ⟨_,by rw [it.out];rfl,by rw [if_pos it.out];exact HO.out,cO⟩
  ·rw [hk] at HR HR0 ⊢
   go_enter func37,ntmps37
   go_wp2_with (go_at_call 102;refine (z8w x (by omega) _ _ (HR.out _)).mono ?_;rintro e w' ⟨rfl,de⟩)
   have hlt:w.heap.size<w'.heap.size:=by have:=de.size;simp at this;omega
   have fX:w'.cell? ⟨w.heap.size,0,I⟩=J (Z Y 3):=(de.cell (p:=⟨w.heap.size,0,I⟩) (by simp)).trans (by simp)
   have ju:w'.cell? ⟨w.heap.size,1,I⟩=J (Z Y x.n):=(de.cell (p:=⟨w.heap.size,1,I⟩) (by simp)).trans (by simp)
   have jK:w'.cell? ⟨w.heap.size,2,I⟩=J (U x.s):=(de.cell (p:=⟨w.heap.size,2,I⟩) (by simp)).trans (by simp)
   have mI:w'.cell? ⟨w.heap.size,3,I⟩=J (Q oa x.l.length cap):=(de.cell (p:=⟨w.heap.size,3,I⟩) (by simp)).trans (by simp)
   have hbw:=z7d de
   have Hrx:=hd_ (HR0.out.ext hbw)
   refine wp_region_held_drew (S:=(fun w9=>w9.cell? ⟨w.heap.size,0,I⟩=J (Z Y 3)∧w9.cell? ⟨w.heap.size,1,I⟩=J (Z Y x.n)∧w9.cell? ⟨w.heap.size,2,I⟩=J (U x.s)∧w9.cell? ⟨w.heap.size,3,I⟩=J (Q oa x.l.length cap))) (by kernel_rfl) ⟨fX,ju,jK,mI⟩ (fun hHeld=>?_)
   refine tkH _ 1 ?_
   refine tkH _ 2 ?_
   refine tkH _ 7 ?_
   refine rdH 0 fun K hK=>?_
   go_simp
   refine (z3q _).mono ?_
   rintro e w2 ⟨tb,G,rfl,hW,dT⟩
   have aj:Below w'.heap.size w' w2:=((Below.refl _ w').drew).trans dT
   have HW:=hd_ hW
   obtain ⟨htb,hgb,hv0,mH,kd,hv3⟩:=hW
   have k0:=(aj.cell (p:=⟨w.heap.size,0,I⟩) hlt).trans fX
   have k1:=(aj.cell (p:=⟨w.heap.size,1,I⟩) hlt).trans ju
   have k2:=(aj.cell (p:=⟨w.heap.size,2,I⟩) hlt).trans jK
   have k3:=(aj.cell (p:=⟨w.heap.size,3,I⟩) hlt).trans mI
   clear dT
   refine hK.out _ _ ⟨k0,k1,k2,k3⟩ (fun hHeld=>?_)
   clear hK K
   try simp only [Act.put,aS,aZ,aU]
   refine tkH _ 3 ?_
   refine tkH _ 4 ?_
   refine tkH _ 5 ?_
   refine rdH 6 fun K hK=>?_
   go_simp
   refine hK.out _ _ ⟨k0,k1,k2,k3⟩ (fun hHeld=>?_)
   clear hK K
   try simp only [Act.put,aS,aZ,aU]
   refine rdH 8 fun K hK=>?_
   go_simp
   refine (x2s (szs x.l) ?d5 x.l (v1e x hk hfm) (Nat.le_refl _) w2.heap.size tb G (Q I 0 0) [] x.n x.s oa cap _ (enc x) ?d6 HW.out (z3o.nil _ _ _) ?d1 ?d2 ?d3).mono ?_
   case d5=>have:=k8w x;omega
   case d6=>exact (Hrx.out.ext aj).sl
   case d1=>have:=k8w x;simp;omega
   case d2=>exact Nat.le_refl _
   case d3=>show _=_;rw [j8x x hk];rfl
   rintro e w3 ⟨v3,rfl,dG,bj,eJ⟩
   refine hK.out _ _ ⟨z2b bj k0 (by simp [Value.ownBlock]),z2b bj k1 (by simp [Value.ownBlock]),z2b bj k2 (by simp [Value.ownBlock]),z2b bj k3 (by simp [Value.ownBlock])⟩ (fun hHeld=>?_)
   clear hK K
   try simp only [Act.put,aS,aZ,aU]
   refine rdH 9 fun K hK=>?_
   go_simp
   refine hK.out _ _ hHeld (fun hHeld=>?_)
   clear hK K
   try simp only [Act.put,aS,aZ,aU]
   refine rdH 10 fun K hK=>?_
   go_simp
   refine hK.out _ _ hHeld (fun hHeld=>?_)
   clear hK K
   try simp only [Act.put,aS,aZ,aU]
   refine wpAnyH_done (by kernel_rfl) ?_ _
   have cO:Below w.heap.size w w3:=z0a hbw (aj.trans ((Below.refl _ w2).grown bj aj.size (by simp [Value.ownBlock])))
   have HO:=hd_ dG.rd
   clear dG
   go_wp2
   go_ret2
   exact ⟨_,by rw [it.out];rfl,by rw [if_pos it.out];exact HO.out,cO⟩
theorem RdB.form {w:X} {v:Value} {l:List UInt8} (h:RdB w v l):∃ oa cap,v=Q oa l.length cap:=by
 rcases h with ⟨rfl,rfl⟩|⟨a,cap,rfl,_⟩
 ·exact ⟨I,0,rfl⟩
 ·exact ⟨J a,cap,rfl⟩
theorem x4s (x:V) (hx:sz x≤60000) (v:M) (w:X) (hr:RdV w.heap.size w x v):O prog 37 #[v] w (x4g x w):=x3s x (by omega) v w hr
def z5t:List PanicEntry:=[{ v:=.iface 44 (Z Y 10),recovered:=false }]
theorem z7j (p:M) (w:X):O prog 118 #[p,.bool true] w fun e w'=>e=.returned (.tuple #[])∧w=w':=by
 go_enter func118,ntmps118
 go_wp2
 go_end0
 exact ⟨rfl,rfl⟩
theorem z4l (p:M) (w:X):O prog 118 #[p,.bool false] w fun e w'=>e=.panicked z5t∧w=w':=by
 go_enter func118,ntmps118
 go_wp2
 exact ⟨rfl,rfl,rfl⟩
structure RdrAt (B:Nat) (w:X) (R:Nat) (l:List UInt8):Prop where
 le:B≤R
 free:w.frozen? ⟨R,0,I⟩=false
 rest:∃ v,w.cell? ⟨R,0,I⟩=J v∧z6c B w l v
def j9r (B:Nat) (R:Nat) (l:List UInt8) (n:Nat) (w:X) (e:Ending) (w':X):Prop :=
 ∃ v v',e=.returned v∧z6c B w (l.take n) v∧z6c B w (l.drop n) v'∧w'=w.setCell ⟨R,0,I⟩ v'
theorem y2g (B R:Nat) (l:List UInt8) (n:Nat) (ni:Int) (hni:ni=(n:Int)) (w:X) (hr:RdrAt B w R l) (hn:n≤l.length) (hl:l.length≤1000000) :
 O prog 169 #[F (J ⟨R,0,I⟩),Z Y ni] w (j9r B R l n w):=by
 subst hni
 obtain ⟨hle,hfr,v,hv,hb⟩:=hr
 rcases hb with ⟨rfl,oa,cap,rfl,hcm⟩|⟨hne,b,off,cap,rfl,h2,h3,h4,h5⟩
 ·obtain rfl:n=0:=by simpa using hn
  go_enter func169,ntmps169
  go_wp2_with (go_at_call 118;refine (z7j _ _).mono ?_;rintro e w' ⟨rfl,rfl⟩)
  all_goals go_ret
  all_goals exact ⟨_,_,rfl,.inl ⟨rfl,_,_,rfl,by first|exact hcm|simp⟩,.inl ⟨rfl,_,_,rfl,by first|exact hcm|simp⟩,by first|rfl|simp⟩
 ·have H5:=hd_ h5;clear h5
  go_enter func169,ntmps169
  go_wp2_with (go_at_call 118;refine (z7j _ _).mono ?_;rintro e w' ⟨rfl,rfl⟩)
  all_goals go_ret
  ·have hnl:n=l.length:=by omega
   refine ⟨_,_,rfl,z6c.mk' (by simp;omega) (by simp;omega) (by omega) h4 (fun j c hj=>H5.out j c ?_),z6c.mk' (by simp) (by simp;omega) (by omega) h4 (fun j c hj=>?_),rfl⟩
   ·rw [List.getElem?_take] at hj;split at hj
    ·exact hj
    ·cases hj
   ·rw [List.getElem?_drop,List.getElem?_eq_none (by omega)] at hj;cases hj
  ·refine ⟨_,_,rfl,z6c.mk' (by simp;omega) (by simp;omega) (by omega) h4 (fun j c hj=>H5.out j c ?_),z6c.mk' (by simp) (by simp;omega) (by omega) h4 (fun j c hj=>?_),rfl⟩
   ·rw [List.getElem?_take] at hj;split at hj
    ·exact hj
    ·cases hj
   ·rw [Nat.add_assoc];exact H5.out (n+j) c (by simpa using hj)
theorem x4n (B R:Nat) (l:List UInt8) (n:Nat) (ni:Int) (hni:ni=(n:Int)) (w:X) (hr:RdrAt B w R l) (hn:l.length<n) (_:n≤1000000000) :
 O prog 169 #[F (J ⟨R,0,I⟩),Z Y ni] w fun e w'=>e=.panicked z5t∧w=w':=by
 subst hni
 obtain ⟨hle,hfr,v,hv,hb⟩:=hr
 obtain ⟨oa,cap,rfl,hlc,hcm⟩:=hb.form
 clear hb
 have hd:decide (n≤l.length)=false:=by simpa using hn
 go_enter func169,ntmps169
 go_wp2_with (go_at_call 118;refine (z4l _ _).mono ?_;rintro e w' ⟨rfl,rfl⟩)
 exact ⟨rfl,rfl,rfl⟩
theorem z7c (w:X) (R:Nat) (v:M):w.grownBy (w.setCell ⟨R,0,I⟩ v) (J R) :=
 ⟨rfl,rfl,rfl,by simp [World.setCell],fun k _ hk=>Below.heap_setCell _ _ _ _ (fun h=>hk (by rw [h]))⟩
theorem RdrAt.took {B R:Nat} {w:X} {l l':List UInt8} {v':Value} (h:RdrAt B w R l) (hb:z6c B w l' v'):RdrAt B (w.setCell ⟨R,0,I⟩ v') R l':=by
 obtain ⟨hle,hfr,v,hv,_⟩:=h
 refine ⟨hle,by rw [World.frozen?_setCell];exact hfr,v',World.cell?_setCell_same _ _ _ hv,hb.keep (Nat.le_refl _) fun k hk=>Below.heap_setCell _ _ _ _ (by show k≠R;omega)⟩
def z9d:Nat→Nat→List UInt8→Option (Nat × List UInt8)
 | _,_,[]=>I
 | i,u,c::r=>if (i=0∨c.toNat≠0)∧(i<9∨c.toNat≤1) then (if c.toNat<128 then J (u+c.toNat * 2 ^ (7 * i),r) else z9d (i+1) (u+(c.toNat - 128) * 2 ^ (7 * i)) r) else I
def x5n (B R:Nat) (o:Option (M × List UInt8)) (w:X) (e:Ending) (w':X):Prop :=
 match o with
 | some (v,r)=>e=.returned v∧RdrAt B w' R r∧w.grownBy w' (J R)
 | none=>e=.panicked z5t∧w.grownBy w' (J R)
theorem k9o:∀ b:Fin 256,bits BinOp.and IntKind.u8 ((b:Nat):Int) 127=((b.val % 128:Nat):Int):=by decide +kernel
theorem j9x (x k:Nat) (c:UInt8) (hk:k≤9) (hx:x<2 ^ (7 * k)) (hc:k=9→c.toNat≤1) :
 bits BinOp.or IntKind.u64 (x:Int) (IntKind.u64.wrap (IntKind.u64.wrap (bits BinOp.and IntKind.u8 (c.toNat:Int) 127) * 2 ^ (7 * k)))=((x+c.toNat % 128 * 2 ^ (7 * k):Nat):Int):=by
 have h1:=k9o ⟨c.toNat,c.toNat_lt⟩
 simp only at h1
 have hm:c.toNat % 128<128:=Nat.mod_lt _ (by decide)
 have hpow:(2:Nat) ^ (7 * k)≤2 ^ 63:=Nat.pow_le_pow_right (by decide) (by omega)
 have hb:c.toNat % 128 * 2 ^ (7 * k)<18446744073709551616:=by
  by_cases h9:k=9
  ·subst h9;have:=hc rfl;omega
  ·have h2:(2:Nat) ^ (7 * k)≤2 ^ 56:=Nat.pow_le_pow_right (by decide) (by omega)
   have h3:c.toNat % 128 * 2 ^ (7 * k)≤127 * 2 ^ 56:=Nat.mul_le_mul (by omega) h2
   omega
 rw [h1]
 rw [IntKind.wrap_u64,IntKind.wrap_u64]
 have e1:((c.toNat % 128:Nat):Int) % 18446744073709551616=((c.toNat % 128:Nat):Int):=by omega
 rw [e1]
 have e2:((c.toNat % 128:Nat):Int) * 2 ^ (7 * k)=((c.toNat % 128 * 2 ^ (7 * k):Nat):Int):=by push_cast;rfl
 rw [e2]
 have e3:((c.toNat % 128 * 2 ^ (7 * k):Nat):Int) % 18446744073709551616=((c.toNat % 128 * 2 ^ (7 * k):Nat):Int):=by omega
 rw [e3,bits_or_u64_nat _ _ (by omega) hb]
 congr 1
 have h4:=Nat.shiftLeft_add_eq_or_of_lt hx (c.toNat % 128)
 rw [Nat.shiftLeft_eq] at h4
 rw [Nat.or_comm,← h4];omega
theorem z8r {k x:Nat} {c:UInt8} {r:List UInt8} (h:(k=0∨c.toNat≠0)∧(k<9∨c.toNat≤1)) (hc:c.toNat<128):z9d k x (c::r)=J (x+c.toNat % 128 * 2 ^ (7 * k),r):=by
 rw [z9d,if_pos h,if_pos hc,Nat.mod_eq_of_lt hc]
theorem y4d {k x:Nat} {c:UInt8} {r:List UInt8} (h:(k=0∨c.toNat≠0)∧(k<9∨c.toNat≤1)) (hc:¬ c.toNat<128):z9d k x (c::r)=z9d (k+1) (x+c.toNat % 128 * 2 ^ (7 * k)) r:=by
 rw [z9d,if_pos h,if_neg hc]
 have:=c.toNat_lt
 rw [show c.toNat - 128=c.toNat % 128 from by omega]
theorem y3g {k x:Nat} {c:UInt8} {r:List UInt8} (h:¬ ((k=0∨c.toNat≠0)∧(k<9∨c.toNat≤1))):z9d k x (c::r)=I:=by rw [z9d,if_neg h]
def k9c (B R:Nat) (l:List UInt8) (w:X) (i u:M) (wr:X):Prop :=
 ∃ (k x:Nat) (r:List UInt8),i=Z Y k∧u=Z .u64 x∧k≤9∧x<2 ^ (7 * k)∧z9d 0 0 l=z9d k x r∧r.length≤1000000∧RdrAt B wr R r∧w.grownBy wr (J R)
theorem z8o (B R:Nat) (l:List UInt8) (hl:l.length≤1000000) (w:X) (hr:RdrAt B w R l) :
 O prog 171 #[F (J ⟨R,0,I⟩)] w (x5n B R ((z9d 0 0 l).map fun p=>(Z .u64 (p.1:Int),p.2)) w):=by
 have HR:=hd_ hr;clear hr
 go_enter func171,ntmps171
 go_wp2
 go_loopw [2,3] (fun u i wr=>k9c B R l w i u wr) (fun _ i _=>10 - (intOf i).toNat)
 case atStart=>exact ⟨0,0,l,rfl,rfl,by omega,by simp,rfl,hl,HR.out,z1b _ _⟩
 case round =>
  obtain ⟨k,x,r,rfl,rfl,hk,hx,heq,hrl,bk,hg⟩:=hrel
  have jZ:=hd_ heq;have Hx:=hd_ hx;have eD:=hd_ bk
  clear heq hx bk
  cases r with
  | nil =>
   have hn:Hid (z9d 0 0 l=I):=by have:=jZ.out;rw [z9d] at this;exact this
   go_wp2_with (go_at_call 169;refine (x4n B R [] 1 _ rfl _ eD.out (by simp) (by omega)).mono ?_;rintro e w' ⟨rfl,rfl⟩)
   exact ⟨rfl,by rw [hn.out];exact And.intro rfl hg⟩
  | cons c r =>
   have c0:∀ v,z6c B wr [c] v→∃ b off cap,v=Q (J ⟨b,off,I⟩) 1 cap∧b<B∧wr.cell? ⟨b,off,I⟩=J (Z .u8 (c.toNat:Int)):=fun v hv=>by
    rcases hv with ⟨h,_⟩|⟨_,b,off,cap,rfl,_,_,h4,h5⟩
    ·cases h
    ·exact ⟨b,off,cap,rfl,h4,by simpa using h5 0 c rfl⟩
   have C0:=hd_ c0;clear c0
   have hrl':r.length≤1000000:=by simp at hrl;omega
   obtain ⟨b0,e0⟩:∃ b,((k:Int) == 0)=b:=⟨_,rfl⟩
   obtain ⟨b1,e1⟩:∃ b,((c.toNat:Int) != 0)=b:=⟨_,rfl⟩
   obtain ⟨b2,e2⟩:∃ b,decide ((k:Int)<9)=b:=⟨_,rfl⟩
   obtain ⟨b3,e3⟩:∃ b,decide ((c.toNat:Int)≤1)=b:=⟨_,rfl⟩
   obtain ⟨b4,e4⟩:∃ b,decide ((c.toNat:Int)<128)=b:=⟨_,rfl⟩
   have E:=hd_ (And.intro e0 (And.intro e1 (And.intro e2 (And.intro e3 e4))))
   have hcond:Hid (((b0 || b1)&&(b2 || b3))=true↔((k=0∨c.toNat≠0)∧(k<9∨c.toNat≤1))):=by
    show _↔_
    rw [← e0,← e1,← e2,← e3]
    simp;omega
   by_cases hgood:((b0 || b1)&&(b2 || b3))=true
   case neg =>
    have hn:Hid (z9d 0 0 l=I):=by show _=_;rw [jZ.out];exact y3g fun h=>hgood (hcond.out.2 h)
    have hgf:((b0 || b1)&&(b2 || b3))=false:=by simpa using hgood
    clear hgood hcond
    have HG:=hd_ hgf;clear hgf
    cases b0 <;> cases b1 <;> cases b2 <;> cases b3
    all_goals first|(exfalso;exact absurd HG.out (by decide))|skip
    all_goals
     go_wp2_with (first
      | (go_at_call 169;refine (y2g B R (c::r) 1 _ rfl _ eD.out (by simp) hrl).mono ?_;rintro e w1 ⟨v,v',rfl,hv,hv',rfl⟩;obtain ⟨b,off,cap,rfl,mJ,hc⟩:=C0.out v hv;have jL:R≠b:=by (have:=eD.out.le;omega))
      | (go_at_call 118;refine (z4l _ _).mono ?_;rintro e w' ⟨rfl,rfl⟩))
     exact ⟨rfl,by rw [hn.out];exact And.intro rfl (z2a hg (z7c _ _ _) (.inl rfl))⟩
   case pos =>
    have hgd:=hcond.out.1 hgood
    have lS:=hd_ hgd
    have HG:=hd_ hgood;clear hgood hgd hcond
    cases b4
    ·have dU:Hid (¬ c.toNat<128):=by have:=E.out.2.2.2.2;simp at this;show ¬ _;omega
     have hk9:k<9:=by
      have h1:=lS.out.2;have h2:=dU.out;omega
     have hor:=hd_ (j9x x k c hk Hx.out (by omega))
     have hon:=hd_ (y4d (x:=x) (r:=r) lS.out dU.out)
     cases b0 <;> cases b1 <;> cases b2 <;> cases b3
     all_goals first|(exfalso;exact absurd HG.out (by decide))|skip
     all_goals
      go_wp2_with (first
       | (go_at_call 169;refine (y2g B R (c::r) 1 _ rfl _ eD.out (by simp) hrl).mono ?_;rintro e w1 ⟨v,v',rfl,hv,hv',rfl⟩;obtain ⟨b,off,cap,rfl,mJ,hc⟩:=C0.out v hv;have jL:R≠b:=by (have:=eD.out.le;omega))
       | (go_at_call 118;refine (z7j _ _).mono ?_;rintro e w' ⟨rfl,rfl⟩))
      go_roundw
      case rel =>
       refine ⟨k+1,x+c.toNat % 128 * 2 ^ (7 * k),r,by go_num,by rw [hor.out],by omega,?_,by rw [jZ.out,hon.out],hrl',eD.out.took (by simpa using hv'),z2a hg (z7c _ _ _) (.inl rfl)⟩
       have h1:c.toNat % 128 * 2 ^ (7 * k)≤127 * 2 ^ (7 * k):=Nat.mul_le_mul_right _ (by omega)
       have h2:(2:Nat) ^ (7 * (k+1))=128 * 2 ^ (7 * k):=by rw [show 7 * (k+1)=7+7 * k from by omega,Nat.pow_add]
       have h3:=Hx.out
       omega
      case measure=>simp [intOf];omega
    ·have dU:Hid (c.toNat<128):=by have:=E.out.2.2.2.2;simp at this;show _<_;omega
     have hor:=hd_ (j9x x k c hk Hx.out (fun h=>by have:=lS.out.2;omega))
     have hen:=hd_ (z8r (x:=x) (r:=r) lS.out dU.out)
     cases b0 <;> cases b1 <;> cases b2 <;> cases b3
     all_goals first|(exfalso;exact absurd HG.out (by decide))|skip
     all_goals
      go_wp2_with (first
       | (go_at_call 169;refine (y2g B R (c::r) 1 _ rfl _ eD.out (by simp) hrl).mono ?_;rintro e w1 ⟨v,v',rfl,hv,hv',rfl⟩;obtain ⟨b,off,cap,rfl,mJ,hc⟩:=C0.out v hv;have jL:R≠b:=by (have:=eD.out.le;omega))
       | (go_at_call 118;refine (z7j _ _).mono ?_;rintro e w' ⟨rfl,rfl⟩))
      go_ret
      rw [jZ.out,hen.out]
      exact And.intro (by rw [← hor.out];rfl) (And.intro (eD.out.took (by simpa using hv')) (z2a hg (z7c _ _ _) (.inl rfl)))
theorem z8z (x:V) (hx:sz x≤60000) (v:M) (w:X) (hr:RdV w.heap.size w x v):O prog 111 #[v] w (x1f (ck x) w):=by
 have HR:=hd_ (fun ob=>hr.alloc ob)
 obtain ⟨oa,cap,rfl,hl⟩:=hr.form
 have hd:=j0a x
 clear hr hl
 rcases Bool.eq_false_or_eq_true (fm x) with hfx|hfx
 ·by_cases h16:16<dp x
  all_goals
   have hck:=hd_ (show ck x=(if 16<dp x then 2 else 0) from by simp [ck,hfx])
   go_enter func111,ntmps111
   go_wp2_with (first
    | (go_at_call 165;refine (y9e 60000 (by decide) x hx _ _ (HR.out _)).mono ?_;rintro e w1 ⟨rfl,af⟩;obtain ⟨b0,b1,b2,b3⟩:=y8e (j2a af))
    | (go_at_call 166;refine (x2r 60000 (by decide) x hx _ _ ((HR.out _).ext af)).mono ?_;rintro e w2 ⟨rfl,aj⟩))
   go_ret
   exact ⟨by rw [hck.out];first|rw [if_pos h16];rfl|rw [if_neg h16];rfl,z7d (af.trans (aj.mono af.size))⟩
 ·have hck:=hd_ (show ck x=1 from by simp [ck,hfx])
  go_enter func111,ntmps111
  go_wp2_with (go_at_call 165;refine (y9e 60000 (by decide) x hx _ _ (HR.out _)).mono ?_;rintro e w1 ⟨rfl,af⟩)
  go_ret
  exact ⟨by rw [hck.out];rfl,z7d af⟩
theorem x5g (x:V) (hx:sz x≤60000) (v:M) (w:X) (hr:RdV w.heap.size w x v):O prog 51 #[v] w (x4g x w):=by
 have HR:=hd_ (fun ob=>hr.alloc ob)
 obtain ⟨oa,cap,rfl,hl⟩:=hr.form
 clear hr hl
 by_cases hck:ck x=0
 case neg =>
  have hne:(ck x != 0)=true:=by rw [bne_iff_ne];exact hck
  have it:=hd_ hck;clear hck
  go_enter func51,ntmps51
  go_wp2_with (go_at_call 111;refine (z8z x hx _ _ (HR.out _)).mono ?_;rintro e w' ⟨rfl,de⟩)
  go_ret2
  exact ⟨_,rfl,by rw [if_neg it.out];exact .inl ⟨rfl,rfl⟩,z7d de⟩
 case pos =>
  have hfm:=k8o hck
  have heq:(ck x != 0)=false:=by rw [hck];rfl
  have it:=hd_ hck;clear hck
  go_enter func51,ntmps51
  go_wp2_with (first
   | (go_at_call 111;refine (z8z x hx _ _ (HR.out _)).mono ?_;rintro e w1 ⟨rfl,af⟩;obtain ⟨b0,b1,b2,b3⟩:=y8e (j2a af))
   | (go_at_call 112;refine (y1g 60000 (by decide) x hfm hx _ _ ((HR.out _).ext af)).mono ?_;rintro e w2 ⟨v2,rfl,da,aj⟩))
  go_ret2
  exact ⟨_,by rw [it.out];rfl,by rw [if_pos it.out];exact da.rd,z7d (af.trans (aj.mono af.size))⟩
end Go.Proofs.YtdblnbnofjggnaaGreatDoor
