/- Parts of the proofs of chapter 49's laws. -/
import Derived.Test.YtdblnbnofjggnaaGreatDoorP22
import Derived.Deep.RegionLaw
set_option maxHeartbeats 4000000
set_option maxRecDepth 100000
open Go.Lib renaming hid → hd_
open Go.World renaming cell?_of_block → cB
open Nat renaming le_refl → lR
open Go.Value renaming int → Q, slice → J, string → O, pointer → U
open Go.IntKind renaming i64 → Y
open Go.Obj renaming cells → C
open Option renaming none → I, some → X
open Bool renaming true → S, false → L
open Go renaming World → M, Value → F, maxLen → H
set_option linter.all false
namespace Go.Proofs.YtdblnbnofjggnaaGreatDoor
open Go.Proofs.Tryz
open Go.RowKit
def j5c (B R T:Nat) (d n:Nat) (w:M) (r0:List UInt8) (i:F) (wr:M):Prop :=
 ∃ (k:Nat) (xs:List V) (r:List UInt8) (lv:F),k≤n∧i=Q Y k∧z7t (rdV d) k r0=X (xs,r)∧xs.length=k∧r.length≤1000000∧BoxAt wr T (Q Y 3) (Q Y 0) (O ⟨#[]⟩) lv ∧
  (∃ oa cap,lv=J oa k cap)∧x0e 80 (fun g=>T<g∧X g≠lv.ownBlock∧g<wr.heap.size) wr (T+1) lv xs∧RdrAt B wr R r∧w.grownBy wr (X R)
theorem j6c (f:List UInt8→Option (V × List UInt8)):∀ (n k:Nat) (l:List UInt8),k≤n→z7t f k l=I→z7t f n l=I
 | 0,k,l,hk,h=>by
   obtain rfl:k=0:=by omega
   exact h
 | n+1,k,l,hk,h=>by
  by_cases he:k=n+1
  ·subst he;exact h
  ·simp only [z7t,j6c f n k l (by omega) h]
theorem y7w (f:List UInt8→Option (V × List UInt8)) (n k:Nat) (l r:List UInt8) (xs:List V) (hk:k<n) (h:z7t f k l=X (xs,r)) (hr:f r=I):z7t f n l=I :=
 j6c f n (k+1) l (by omega) (by simp only [z7t,h,hr])
theorem y5g (f:List UInt8→Option (V × List UInt8)) (k:Nat) (l r r':List UInt8) (xs:List V) (x:V) (h:z7t f k l=X (xs,r)) (hr:f r=X (x,r')):z7t f (k+1) l=X (xs++[x],r'):=by
 simp only [z7t,h,hr]
theorem x0e.own_lt {e:TypeId} {D:Nat→Prop} {w:M} {base:Nat} {v:Value} {l:List V} (h:x0e e D w base v l) (g:Nat) (hg:v.ownBlock=X g):base≤g∧g<w.heap.size:=by
 obtain ⟨lvs,h1,h2,h3,h4⟩:=h
 rcases h1.2 with ⟨rfl,h0⟩|⟨g',cap,cur,rfl,hb,hgb,hn,hm,hcs,ht⟩
 ·simp [Value.ownBlock] at hg
 ·simp [Value.ownBlock] at hg;subst hg
  exact ⟨hb,by
   rcases Nat.lt_or_ge g' w.heap.size with hx|hx
   ·exact hx
   ·rw [Array.getElem?_eq_none hx] at hgb;cases hgb⟩
theorem x7n (f:List UInt8→Option (V × List UInt8)) (hf:∀ l x r,f l=X (x,r)→r.length<l.length):∀ (n:Nat) (l:List UInt8) (xs:List V) (r:List UInt8),z7t f n l=X (xs,r)→r.length≤l.length
 | 0,l,xs,r,h=>by simp [z7t] at h;obtain ⟨rfl,rfl⟩:=h;exact lR _
 | n+1,l,xs,r,h=>by
  simp only [z7t] at h
  cases hN:z7t f n l with
  | none=>rw [hN] at h;cases h
  | some p =>
   obtain ⟨ys,t⟩:=p
   rw [hN] at h;simp only at h
   cases hM:f t with
   | none=>rw [hM] at h;cases h
   | some q =>
    obtain ⟨y,t'⟩:=q
    rw [hM] at h;simp at h
    obtain ⟨_,rfl⟩:=h
    have:=x7n f hf n l ys t hN
    have:=hf t y t' hM
    omega
theorem x9g:∀ (d:Nat) (l:List UInt8) (x:V) (r:List UInt8),rdV d l=X (x,r)→r.length<l.length:=by
 intro d
 induction d with
 | zero =>
  intro l x r h
  cases l with
  | nil=>rw [y0a] at h;cases h
  | cons c t =>
   by_cases h1:c=1
   ·subst h1;rw [x6g] at h
    cases hN:z9d 0 0 t with
    | none=>rw [hN] at h;cases h
    | some p=>obtain ⟨u,t'⟩:=p;rw [hN] at h;simp at h;obtain ⟨_,rfl⟩:=h;have:=z9h t 0 0 _ _ hN;simp;omega
   ·by_cases h2:c=2
    ·subst h2;rw [y2p] at h
     cases hN:z8h t with
     | none=>rw [hN] at h;cases h
     | some p=>obtain ⟨u,t'⟩:=p;rw [hN] at h;simp at h;obtain ⟨_,rfl⟩:=h;have:=z0s hN;simp;omega
    ·by_cases h3:c=3
     ·subst h3;rw [y6w] at h;cases h
     ·rw [y4g 0 c t h1 h2 h3] at h;cases h
 | succ d ih =>
  intro l x r h
  cases l with
  | nil=>rw [y0a] at h;cases h
  | cons c t =>
   by_cases h1:c=1
   ·subst h1;rw [x6g] at h
    cases hN:z9d 0 0 t with
    | none=>rw [hN] at h;cases h
    | some p=>obtain ⟨u,t'⟩:=p;rw [hN] at h;simp at h;obtain ⟨_,rfl⟩:=h;have:=z9h t 0 0 _ _ hN;simp;omega
   ·by_cases h2:c=2
    ·subst h2;rw [y2p] at h
     cases hN:z8h t with
     | none=>rw [hN] at h;cases h
     | some p=>obtain ⟨u,t'⟩:=p;rw [hN] at h;simp at h;obtain ⟨_,rfl⟩:=h;have:=z0s hN;simp;omega
    ·by_cases h3:c=3
     ·subst h3;rw [x7g] at h
      cases hN:z8h t with
      | none=>rw [hN] at h;cases h
      | some p =>
       obtain ⟨n,t'⟩:=p;rw [hN] at h;simp only at h
       cases hM:z7t (rdV d) n t' with
       | none=>rw [hM] at h;cases h
       | some q =>
        obtain ⟨xs,t2⟩:=q;rw [hM] at h;simp at h;obtain ⟨_,rfl⟩:=h
        have:=z0s hN
        have:=x7n (rdV d) ih n t' xs t2 hM
        simp;omega
     ·rw [y4g (d+1) c t h1 h2 h3] at h;cases h
theorem x0e.mono {e:TypeId} {D D':Nat→Prop} {w:M} {base:Nat} {v:Value} {l:List V} (h:x0e e D w base v l) (hB:∀ k,D k→D' k) (h4:∀ k,D' k→X k≠v.ownBlock):x0e e D' w base v l:=by
 obtain ⟨lvs,h1,h2,h3,_⟩:=h
 exact ⟨lvs,h1,z5f hB (fun _ _=>rfl) l lvs h2,h3,h4⟩
theorem x0e.shape {e:TypeId} {D:Nat→Prop} {w:M} {base:Nat} {v:Value} {l:List V} (h:x0e e D w base v l):∃ oa cap,v=J oa l.length cap:=by
 obtain ⟨lvs,h1,h2,h3,_⟩:=h
 rcases h1.2 with ⟨rfl,h0⟩|⟨g,cap,cur,rfl,_⟩
 ·exact ⟨I,0,by rw [h0]⟩
 ·exact ⟨_,cap,rfl⟩
theorem y5j.one {D:Nat→Prop} {w:M} {l:List V} {lv:Value} (h:y5j D w l lv):lv.oneCell'=S:=by
 rcases h with ⟨_,oa,cap,rfl⟩|⟨_,c,o,cap,rfl,_⟩ <;> rfl
theorem y8w {B R T d n k:Nat} {w wr w9 w':M} {r0 r3:List UInt8} {x:V} {xs:List V} {oa dg:Option Addr} {cp dq:Nat} (hT:T=w.heap.size) (jv:R<T) (hkn:k<n) (hxl:xs.length=k)
 (hn:z7t (rdV d) (k+1) r0=X (xs++[x],r3)) (jw:r3.length≤1000000) (hbx:BoxAt wr T (Q Y 3) (Q Y 0) (O ⟨#[]⟩) (J oa k cp))
 (bj:w.grownBy wr (X R)) (hTw:T<wr.heap.size) (ay:wr.grownBy w9 (X R)) (bD:RdrAt B w9 R r3) (ob:Obj)
 (eS:∀ g,(J oa k cp).ownBlock=X g→T+1≤g∧g<wr.heap.size)
 (ho:x0e 80 (fun g=>T<g∧X g≠(J oa k cp).ownBlock∧g<(w9.alloc ob).heap.size) w' (T+1) (.slice dg (xs++[x]).length dq) (xs++[x])) (hg:(w9.alloc ob).grownBy w' (J oa k cp).ownBlock) :
 j5c B R T d n w r0 (Q Y ((k:Int)+1)) (w'.setCell ⟨T,3,I⟩ (.slice dg (xs++[x]).length dq)):=by
 have hl:(xs++[x]).length=k+1:=by simp [hxl]
 have lU:X T≠(J oa k cp).ownBlock:=fun e=>by have:=eS _ e.symm;omega
 have hRo:∀ j,j≤R→X j≠(J oa k cp).ownBlock:=fun j hj e=>by have:=eS _ e.symm;omega
 have jx:=ay.size
 have lM:=hg.size
 have eU:=hbx.grown ay (by omega)
 have hTa:T<(w9.alloc ob).heap.size:=by simp;omega
 have cl:∀ i,w'.cell? ⟨T,i,I⟩=w9.cell? ⟨T,i,I⟩:=fun i=>cB (w:=w9) ((hg.block T hTa lU).trans (Below.heap_alloc w9 ob T (by omega)))
 have fl:∀ i,w'.frozen? ⟨T,i,I⟩=w9.frozen? ⟨T,i,I⟩:=fun i=>World.frozen?_of_block (w:=w9) ((hg.block T hTa lU).trans (Below.heap_alloc w9 ob T (by omega)))
 have hwg:w.grownBy w' (X R):=z2a (z4a (z2a bj ay (.inl rfl)) ob) hg (.inr fun g hg=>by have:=eS g hg;omega)
 rw [hl] at ho ⊢
 have hob:=x0e.own_lt ho
 refine ⟨k+1,xs++[x],r3,J dg (k+1) dq,by omega,by simp,hn,hl,jw,?_,⟨dg,dq,rfl⟩,?_,?_,z5a hwg (by omega)⟩
 ·refine ⟨?_,?_,?_,?_,?_⟩
  ·rw [World.cell?_setCell_other _ _ _ _ (by simp),cl 0];exact eU.c0
  ·rw [World.cell?_setCell_other _ _ _ _ (by simp),cl 1];exact eU.c1
  ·rw [World.cell?_setCell_other _ _ _ _ (by simp),cl 2];exact eU.c2
  ·exact World.cell?_setCell_same' _ _ _ (by rw [cl 3,eU.c3];rfl)
  ·intro o;rw [World.frozen?_setCell,fl o];exact eU.fr o
 ·obtain ⟨lvs,_,_,_,hd4⟩:=id ho
  refine ((x0e.kept ho (z6b w' T 3 _) (.inr fun e=>by have:=hob T e;omega) (fun j hj e=>by injection e with e;have:=hj.1;omega) (fun j hj=>by have:=hj.2.2;omega))).mono (fun j hj=>⟨hj.1,hd4 j hj,by have:=hj.2.2;simp [World.setCell];omega⟩) ?_
  exact fun j hj=>hj.2.1
 ·refine RdrAt.set ?_ jv
  exact bD.keep fun j hj=>(hg.block j (by simp;omega) (hRo j hj)).trans (Below.heap_alloc w9 ob j (by omega))
theorem j7c (d:Nat) (hd:d≤16) (ih:∀ d',d=d'+1→j1c d') (B R:Nat) (r:List UInt8) (hl:(3::r).length≤1000000) (w:M) (hr:RdrAt B w R (3::r)) (aE:R<w.heap.size) :
 Calls prog 117 #[U (X ⟨R,0,I⟩),Q Y (16 - (d:Int))] w (z9z B R (rdV d (3::r)) w):=by
 have HR:=hd_ hr;clear hr
 have IH:=hd_ ih;clear ih
 have hrl:r.length≤1000000:=by simp at hl;omega
 cases d with
 | zero =>
  have hn:=hd_ (y6w r)
  go_enter func117,ntmps117
  go_wp2_with (first
   | (go_at_call 169;refine (z3i B R 3 r hl w HR.out aE _).mono ?_;rintro e w1 ⟨b,off,cap,v',rfl,rfl,jL,hbw,hc,bk⟩)
   | (go_at_call 118;refine (z4l _ _).mono ?_;rintro e w' ⟨rfl,rfl⟩))
  exact ⟨rfl,by rw [hn.out];exact And.intro rfl (z4a (z7c w R v') _)⟩
 | succ d =>
  have jI:d≤15:=by omega
  have hv:=hd_ (x7g d r)
  have hdt:decide ((16 - ((d:Int)+1))<16)=S:=by simp;omega
  cases hN:z8h r with
  | none =>
   have hn:Hid (rdV (d+1) (3::r)=I):=by show _=_;rw [hv.out,hN]
   have HN:=hd_ hN;clear hN
   go_enter func117,ntmps117
   go_wp2_with (first
    | (go_at_call 169;refine (z3i B R 3 r hl w HR.out aE _).mono ?_;rintro e w1 ⟨b,off,cap,v',rfl,rfl,jL,hbw,hc,bk⟩)
    | (go_at_call 118;refine (z7j _ _).mono ?_;rintro e w' ⟨rfl,rfl⟩))
   have hszw:(w.setCell ⟨R,0,I⟩ v').heap.size=w.heap.size:=by simp [World.setCell]
   refine (z6t B R r hrl _ (bk.keep fun k hk=>Below.heap_alloc _ _ k (by omega))).mono ?_
   rw [HN.out]
   rintro e w2 ⟨rfl,hg⟩
   exact ⟨rfl,by rw [hn.out];exact And.intro rfl (z2a (z4a (z7c w R v') _) hg (.inl rfl))⟩
  | some p =>
   obtain ⟨n,r'⟩:=p
   have hlen:=z0s hN
   have HN:=hd_ hN;clear hN
   go_enter func117,ntmps117
   go_wp2_with (first
    | (go_at_call 169;refine (z3i B R 3 r hl w HR.out aE _).mono ?_;rintro e w1 ⟨b,off,cap,v',rfl,rfl,jL,hbw,hc,bk⟩)
    | (go_at_call 118;refine (z7j _ _).mono ?_;rintro e w' ⟨rfl,rfl⟩))
   have hszw:(w.setCell ⟨R,0,I⟩ v').heap.size=w.heap.size:=by simp [World.setCell]
   refine (z6t B R r hrl _ (bk.keep fun k hk=>Below.heap_alloc _ _ k (by omega))).mono ?_
   rw [HN.out]
   rintro e w2 ⟨rfl,gH,hg⟩
   have hbx:=(BoxAt.made (w.setCell ⟨R,0,I⟩ v') 80 (Q Y 3) (Q Y 0) (O ⟨#[]⟩) (J I 0 0)).grown hg (by omega)
   rw [hszw] at hbx
   have bB:w.grownBy w2 (X R):=z2a (z4a (z7c w R v') _) hg (.inl rfl)
   clear hg hc bk
   have HB:=hd_ hbx;clear hbx
   go_wp2
   go_loopw [37] (fun i wr=>j5c B R w.heap.size d n w r' i wr) (fun i _=>n - (intOf i).toNat)
   case atStart=>exact ⟨0,[],r',J I 0 0,Nat.zero_le _,rfl,rfl,rfl,by omega,HB.out,⟨I,0,rfl⟩,⟨[],World.ownsRow_nil _ _ _ _,trivial,by simp,by simp [Value.ownBlock]⟩,gH,bB⟩
   case round =>
    obtain ⟨k,xs,r2,lv,hkn,rfl,bk,hxl,hr2,hbx,⟨oa,cp,rfl⟩,hown,hrd3,bj⟩:=hrel
    have hsz3:=bj.size
    have hRwr:R<wr.heap.size:=by omega
    have Hrd:=hd_ bk;have nI:=hd_ hxl;have fY:=hd_ hown;have iu:=hd_ hrd3;have eN:=hd_ hbx
    clear bk hxl hown hrd3
    by_cases hlt:k<n
    case neg =>
     obtain rfl:k=n:=by omega
     have hn:Hid (rdV (d+1) (3::r)=X (.mk 3 0 ⟨#[]⟩ xs,r2)):=by show _=_;rw [hv.out,HN.out];simp only;rw [Hrd.out]
     obtain ⟨x0,x1,x2,x3,xf⟩:=hbx
     go_wp2
     refine bodyPost_ret (v:=.agg #[Q Y 3,Q Y 0,O ⟨#[]⟩,J oa k cp]) (by simp [results,results117,go_sem,x0,x1,x2,x3]) rfl ?_
     rw [hn.out]
     have hsl:y5j (fun g=>w.heap.size<g∧g<wr.heap.size) wr xs (J oa k cp):=fY.out.sl (fun g hg=>by have:=hg.1;have:=hg.2.2;omega) (fun g hg=>by have:=fY.out.own_lt g hg;omega)
     exact ⟨_,rfl,⟨by show I64 3;unfold I64;omega,by show I64 0;unfold I64;omega,Nat.zero_le H,_,rfl,hsl.keep (fun g hg=>⟨by omega,by simp [World.setCell];omega⟩) (fun g hg=>by repeat (first|rfl|refine (Below.heap_setCell _ _ _ _ (by show g≠w.heap.size;omega)).trans ?_))⟩,by repeat (first|exact iu.out|refine RdrAt.set ?_ aE),by repeat (first|exact bj|refine z5a ?_ (lR _))⟩
    case pos =>
     cases hE:rdV d r2 with
     | none =>
      have hn:Hid (rdV (d+1) (3::r)=I):=by show _=_;rw [hv.out,HN.out];simp only;rw [y7w _ n k _ _ xs hlt Hrd.out hE]
      have HE:=hd_ hE;clear hE
      have hw:IntKind.i64.wrap (16 - ((d:Int)+1)+1)=16 - (d:Int):=by rw [IntKind.wrap_i64];omega
      obtain ⟨x0,x1,x2,x3,xf⟩:=hbx
      go_wp2
      have HW:=hd_ hw
      refine wp_region_any (by kernel_rfl) ?_
      try (change wpAny _ _ _ _ _ _ _ (World.drew _))
      refine wpAny_take (i:=0) (v:=?_) rfl (by kernel_rfl) (by kernel_rfl) (by kernel_rfl) (fun _ _ _ h=>h) (Or.inl ⟨by rfl,?hy0⟩) ?rest0
      case hy0=>(intro w;go_simp;try with_reducible rfl)
      refine wpAny_take (i:=2) (v:=?_) rfl (by kernel_rfl) (by kernel_rfl) (by kernel_rfl) (fun _ _ _ h=>h) (Or.inl ⟨by rfl,?hy2⟩) ?rest2
      case hy2=>(intro w;go_simp;try with_reducible rfl)
      refine wpAny_take (i:=3) (v:=?_) rfl (by kernel_rfl) (by kernel_rfl) (by kernel_rfl) (fun _ _ _ h=>h) (Or.inl ⟨by rfl,?hy3⟩) ?rest3
      case hy3=>(intro w;go_simp;try with_reducible rfl)
      refine wpAny_take (i:=4) (v:=?_) rfl (by kernel_rfl) (by kernel_rfl) (by kernel_rfl) (fun _ _ _ h=>h) (Or.inl ⟨by rfl,?hy4⟩) ?rest4
      case hy4=>(intro w;go_simp;try with_reducible rfl)
      refine wpAny_ready (rs:=[1,5]) (by kernel_rfl) (by simp) ?_
      refine AllReady.cons rfl (fun K hK=>?_) (AllReady.cons rfl (fun K hK=>?_) AllReady.nil)
      ·go_simp
       refine hK _ _ ?_
       clear hK K
       refine wpAny_ready (rs:=[5]) (by kernel_rfl) (by simp) ?_
       refine AllReady.cons rfl (fun K hK=>?_) AllReady.nil
       go_simp
       go_at_call 117
       refine (IH.out d rfl B R r2 _ (by first|rfl|exact HW.out) hr2 wr.drew (RdrAt.keep iu.out fun j hj=>rfl) (by simpa using hRwr)).mono ?_
       rw [HE.out]
       rintro e w9 ⟨rfl,ay⟩
       go_wp2
       exact ⟨rfl,by rw [hn.out];exact And.intro rfl (z2a (z3g bj) ay (.inl rfl))⟩
      ·go_simp
       go_at_call 117
       refine (IH.out d rfl B R r2 _ (by first|rfl|exact HW.out) hr2 wr.drew (RdrAt.keep iu.out fun j hj=>rfl) (by simpa using hRwr)).mono ?_
       rw [HE.out]
       rintro e w9 ⟨rfl,ay⟩
       go_wp2
       exact ⟨rfl,by rw [hn.out];exact And.intro rfl (z2a (z3g bj) ay (.inl rfl))⟩
     | some q =>
      obtain ⟨x,r3⟩:=q
      have HE:=hd_ hE;clear hE
      have hn:Hid (z7t (rdV d) (k+1) r'=X (xs++[x],r3)):=y5g _ k _ _ _ _ _ Hrd.out HE.out
      have hw:IntKind.i64.wrap (16 - ((d:Int)+1)+1)=16 - (d:Int):=by rw [IntKind.wrap_i64];omega
      have HW:=hd_ hw
      obtain ⟨x0,x1,x2,x3,xf⟩:=hbx
      go_wp2
      have hTwr:w.heap.size<wr.heap.size:=World.block_lt_of_cell? wr _ x0
      have gX:=fY.out.own_lt
      have lU:X w.heap.size≠(J oa k cp).ownBlock:=fun e=>by have:=gX _ e.symm;omega
      have eO:=hd_ gX;clear gX
      go_region_law (first
       | (go_simp;go_at_call 117;refine (IH.out d rfl B R r2 _ (by first|rfl|exact HW.out) hr2 wr.drew (RdrAt.keep iu.out fun j hj=>rfl) (by simpa using hRwr)).mono ?_;rw [HE.out];rintro e w9 ⟨v9,rfl,eV,bD,hg9'⟩
          have ay:wr.grownBy w9 (X R):=z2a (z3g (z1b wr _)) hg9' (.inl rfl)
          have y0:w9.cell? ⟨w.heap.size,3,I⟩=X (J oa k cp):=ay.cell x3 (fun e=>by injection e with e;exact absurd e (by show w.heap.size≠R;omega))
          have jx:=ay.size
          have hTw9:w.heap.size<w9.heap.size:=by omega
          obtain ⟨z1,z2,z3,lx,rfl,z4⟩:=eV
          have Z:=hd_ (And.intro z1 (And.intro z2 (And.intro z3 z4)))
          clear z1 z2 z3 z4 hg9')
       | (refine z8p (e:=80) (z:=.agg #[Q Y 0,Q Y 0,O ⟨#[]⟩,J I 0 0]) (bytes:=56) underlying78 (by kernel_rfl) rfl (by decide) rfl _ _ rfl (fun g=>w.heap.size<g∧X g≠(J oa k cp).ownBlock∧g<(w9.alloc (C #[Q Y x.kind,Q Y x.n,O x.s,lx] 80)).heap.size) (w.heap.size+1) (J oa k cp) xs rfl ?q1 _ x lx rfl ?q2 Z.out.2.2.2.one ?q3 ?q4 ?q5 ?q6 ?_
          case q1 =>
           refine ((fY.out.kept ay (.inr fun e=>by have:=eO.out R e;omega) (fun j hj e=>by injection e with e;have:=hj.1;omega) (fun j hj=>hj.2.2)).kept (row:=X R) (z4a (z1b w9 _) _) (.inr fun e=>by have:=eO.out R e;omega) (fun j hj e=>by injection e with e;have:=hj.1;omega) (fun j hj=>by have:=hj.2.2;omega)).mono (fun j hj=>⟨hj.1,hj.2.1,by have:=hj.2.2;simp;omega⟩) (fun j hj=>hj.2.1)
          case q2=>exact ⟨Z.out.1,Z.out.2.1,Z.out.2.2.1,Z.out.2.2.2.keep (fun j hj=>⟨by have:wr.heap.size≤j:=hj.1;omega,fun e=>by have h1:=(eO.out j e.symm).2;have h2:wr.heap.size≤j:=hj.1;omega,by have:=hj.2;simp;omega⟩) (fun j hj=>Below.heap_alloc w9 _ j hj.2)⟩
          case q3=>simp
          case q4=>(have:=nI.out;omega)
          case q5=>simp;omega
          case q6=>exact fun j hj=>hj.2.2
          intro v' w' ho hg hnx
          obtain ⟨dg,dq,rfl⟩:=ho.shape
          have nJ:=(hg.block w.heap.size (by simp;omega) lU).trans (Below.heap_alloc w9 _ w.heap.size (by omega))
          have y3:w'.cell? ⟨w.heap.size,3,I⟩=X (J oa k cp):=(cB (w:=w9) nJ).trans y0
          have yf:w'.frozen? ⟨w.heap.size,3,I⟩=L:=(World.frozen?_of_block (w:=w9) nJ).trans ((World.frozen?_of_block (w:=wr) (ay.block w.heap.size (by omega) (fun e=>by injection e with e;omega))).trans (xf 3))
          clear nJ
          have HO:=hd_ ho;clear ho))
      all_goals
       go_wp2
       go_roundw
       case rel =>
        have hll:(xs++[x]).length=xs.length+1:=by simp
        have q:=y8w rfl aE hlt nI.out hn.out (Nat.le_trans (Nat.le_of_lt (x9g d r2 x r3 HE.out)) hr2) eN.out bj hTwr ay bD _ eO.out HO.out hg
        rw [hll] at q
        exact q
       case measure=>simp [intOf];omega
theorem y9w (d:Nat) (B R:Nat) (di:Int) (w:M) (hr:RdrAt B w R []) (aE:R<w.heap.size) :
 Calls prog 117 #[U (X ⟨R,0,I⟩),Q Y di] w (z9z B R (rdV d []) w):=by
 have HR:=hd_ hr;clear hr
 have hn:=hd_ (y0a d)
 go_enter func117,ntmps117
 go_wp2_with (go_at_call 169;refine (x4n B R [] 1 _ rfl _ (RdrAt.keep HR.out fun k hk=>Below.heap_alloc _ _ k (by omega)) (by simp) (by omega)).mono ?_;rintro e w' ⟨rfl,rfl⟩)
 exact ⟨rfl,by rw [hn.out];exact And.intro rfl (z4a (z1b w _) _)⟩
theorem y6g:∀ d,d≤16→j1c d:=by
 intro d
 induction d with
 | zero =>
  intro hd B R l di hdi hl w hr aE
  cases l with
  | nil=>exact y9w 0 B R di w hr aE
  | cons c r =>
   by_cases h1:c=1
   ·subst h1;exact j2c 0 B R r di hl w hr aE
   by_cases h2:c=2
   ·subst h2;exact j3c 0 B R r di hl w hr aE
   by_cases h3:c=3
   ·subst h3;subst hdi;exact j7c 0 hd (fun d' h=>by omega) B R r hl w hr aE
   ·exact j4c 0 B R c r di hl w hr aE h1 h2 h3
 | succ d ih =>
  intro hd B R l di hdi hl w hr aE
  cases l with
  | nil=>exact y9w (d+1) B R di w hr aE
  | cons c r =>
   by_cases h1:c=1
   ·subst h1;exact j2c (d+1) B R r di hl w hr aE
   by_cases h2:c=2
   ·subst h2;exact j3c (d+1) B R r di hl w hr aE
   by_cases h3:c=3
   ·subst h3;subst hdi;exact j7c (d+1) hd (fun d' h=>by
      obtain rfl:d=d':=by omega
      exact ih (by omega)) B R r hl w hr aE
   ·exact j4c (d+1) B R c r di hl w hr aE h1 h2 h3
theorem x6s (V E:Nat) (w:M) :
 CallsD prog 116 #[U (X ⟨V,0,I⟩),U (X ⟨E,0,I⟩)] .returning w fun e u' w'=>e=.returned (.tuple #[])∧u'=.returning∧w'=w:=by
 refine callsD_of_wpS func116 rfl fun c₀ cs hu=>?_
 apply wpS_seq
 apply wpS_region
 simp [wpOpsS,go_sem,recoverD,hu,ntmps116,Exit.thenS]
 apply wpS_seq
 apply wpS_region
 simp [wpOpsS,go_sem,Exit.thenS]
 refine wpS_cond (t:=false) (by simp [Act.eval,Array.replicate]) ?_
 simp only [Bool.false_eq_true,if_false]
 refine wpS_of_wp (wp_skip ?_)
 cases c₀
 simp_all [bodyPostS,results,results116]
theorem y8b (xT:TypeId) (v:F) (w:M):(Instr.typeAssert (.iface 44 v) xT 44 L).run prog w=.ok v w:=by kernel_rfl
def j0y (V E:Nat) (w w':M):Prop :=
 BoxAt w' V (Q Y 0) (Q Y 0) (O ⟨#[]⟩) (J I 0 0)∧w'.cell? ⟨E,0,I⟩=X (Q Y 10)∧w'.frozen? ⟨E,0,I⟩=L∧∀ (base:M) (G:Option Nat),base.grownBy w G→base.heap.size≤V→base.heap.size≤E→base.grownBy w' G
theorem k2p (V E:Nat) (a b c d x:F) (w:M) (h:BoxAt w V a b c d) (he:w.cell? ⟨E,0,I⟩=X x) (hz:w.frozen? ⟨E,0,I⟩=L) (hne:V≠E) :
 j0y V E w (((((w.setCell ⟨V,0,I⟩ (Q Y 0)).setCell ⟨V,1,I⟩ (Q Y 0)).setCell ⟨V,2,I⟩ (O ⟨#[]⟩)).setCell ⟨V,3,I⟩ (J I 0 0)).setCell ⟨E,0,I⟩ (Q Y 10)).drew:=by
 obtain ⟨x0,x1,x2,x3,xf⟩:=h
 refine ⟨⟨?_,?_,?_,?_,?_⟩,?_,?_,?_⟩
 ·simp [go_sem,x0]
 ·simp [go_sem,x1]
 ·simp [go_sem,x2]
 ·simp [go_sem,x3]
 ·intro o;simp [go_sem,xf]
 ·simp [go_sem,he]
 ·simp [go_sem,hz]
 ·intro base G hg hV hE
  exact z3g (z5a (z5a (z5a (z5a (z5a hg hV) hV) hV) hV) hE)
theorem z1s (V E:Nat) (a b c d x:F) (w:M) (h:BoxAt w V a b c d) (he:w.cell? ⟨E,0,I⟩=X x) (hz:w.frozen? ⟨E,0,I⟩=L) (hne:V≠E) :
 CallsD prog 116 #[U (X ⟨V,0,I⟩),U (X ⟨E,0,I⟩)] (.panicking z5t) w fun e u' w' =>
  e=.returned (.tuple #[])∧u'=.panicking [{ v:=.iface 44 (Q Y 10),recovered:=S }]∧j0y V E w w':=by
 have hfin:=hd_ (k2p V E a b c d x w h he hz hne)
 obtain ⟨x0,x1,x2,x3,xf⟩:=h
 unfold z5t
 have hta:=y8b
 have hVl:=World.block_lt_of_cell? w _ x0
 have hEl:=World.block_lt_of_cell? w _ he
 refine callsD_of_wpS func116 rfl fun c₀ cs hu=>?_
 apply wpS_seq
 apply wpS_region
 simp [wpOpsS,go_sem,recoverD,hu,ntmps116,Exit.thenS]
 apply wpS_seq
 apply wpS_region
 simp [wpOpsS,go_sem,Exit.thenS]
 refine wpS_cond (t:=S) (by simp [Act.eval,Array.replicate]) ?_
 simp only [if_true]
 refine wpS_of_wp ?_
 go_wp2
 go_region
 all_goals
  show bodyPostS _ _ _ _ _ _ _ _ _
  cases c₀
  simp only at hu
  subst hu
  simp [bodyPostS,results,results116]
  try exact hfin.out
 all_goals trace_state
def z4w (l:List UInt8):Option V:=match rdV 16 l with|some (x,[])=>X x|_=>I
def y3p (o:Option V) (w:M) (e:Ending) (w':M):Prop :=
 match o with
 | some x=>∃ v,e=.returned (.tuple #[v,Q Y 0])∧x2f (fun k=>w.heap.size≤k∧k<w'.heap.size) w' x v∧w.grownBy w' I
 | none=>e=.returned (.tuple #[.agg #[Q Y 0,Q Y 0,O ⟨#[]⟩,J I 0 0],Q Y 10])∧w.grownBy w' I
def y0x (w:M) (v:F):M:=((w.alloc (C #[Q Y 0,Q Y 0,O ⟨#[]⟩,J I 0 0] 80)).alloc (C #[Q Y 0] 44)).alloc (C #[v] 141)
theorem y7g (w:M) (v:F):(y0x w v).heap.size=w.heap.size+1+1+1:=by simp [y0x]
theorem z8t (w:M) (v:F) (G:Option Nat):w.grownBy (y0x w v) G:=z4a (z4a (z4a (z1b w G) _) _) _
theorem j8c (w:M) (v:F) (t:TypeId):(w.alloc (C #[v] t)).cell? ⟨w.heap.size,0,I⟩=X v:=by simp
theorem y4p {B:Nat} {l:List UInt8} {v:Value} {w:M} (hb:z6c B w l v) (hB:B≤w.heap.size):RdrAt w.heap.size (y0x w v) (w.heap.size+1+1) l:=by
 refine ⟨by omega,?_,v,?_,?_⟩
 ·exact World.frozen?_alloc_at _ _ _ _ (by simp)
 ·have e:((w.alloc (C #[Q Y 0,Q Y 0,O ⟨#[]⟩,J I 0 0] 80)).alloc (C #[Q Y 0] 44)).heap.size=w.heap.size+1+1:=by simp
  have h:=j8c ((w.alloc (C #[Q Y 0,Q Y 0,O ⟨#[]⟩,J I 0 0] 80)).alloc (C #[Q Y 0] 44)) v 141
  rw [e] at h;exact h
 ·exact hb.keep hB fun k hk=>(z8t w v I).block k (by omega) (by simp)
theorem y5p (w:M) (v:F):BoxAt (y0x w v) w.heap.size (Q Y 0) (Q Y 0) (O ⟨#[]⟩) (J I 0 0):=by
 have h:=BoxAt.made w 80 (Q Y 0) (Q Y 0) (O ⟨#[]⟩) (J I 0 0)
 exact h.grown (R:=w.heap.size+1) (z4a (z4a (z1b _ _) _) _) (by omega)
theorem j9c (w:M) (v:F):(y0x w v).cell? ⟨w.heap.size+1,0,I⟩=X (Q Y 0)∧(y0x w v).frozen? ⟨w.heap.size+1,0,I⟩=L:=by
 have h:(y0x w v).heap[w.heap.size+1]? = ((w.alloc (C #[Q Y 0,Q Y 0,O ⟨#[]⟩,J I 0 0] 80)).alloc (C #[Q Y 0] 44)).heap[w.heap.size+1]?:=Below.heap_alloc _ _ _ (by simp)
 exact ⟨(cB (w:=_) h).trans (by simp),(World.frozen?_of_block (w:=_) h).trans (World.frozen?_alloc_at _ _ _ _ (by simp))⟩
theorem x0h {w:M} {V:Nat} {a b c d:Value} (h:BoxAt w V a b c d) (a' b' c' d':F):BoxAt ((((w.setCell ⟨V,0,I⟩ a').setCell ⟨V,1,I⟩ b').setCell ⟨V,2,I⟩ c').setCell ⟨V,3,I⟩ d') V a' b' c' d':=by
 obtain ⟨x0,x1,x2,x3,xf⟩:=h
 refine ⟨?_,?_,?_,?_,?_⟩
 ·simp [go_sem,x0]
 ·simp [go_sem,x1]
 ·simp [go_sem,x2]
 ·simp [go_sem,x3]
 ·intro o;simp [go_sem,xf]
theorem y5j.shape {D:Nat→Prop} {w:M} {l:List V} {lv:Value} (h:y5j D w l lv):∃ o n c,lv=J o n c:=by
 rcases h with ⟨_,oa,cap,rfl⟩|⟨_,c,o,cap,rfl,_⟩
 ·exact ⟨_,_,_,rfl⟩
 ·exact ⟨_,_,_,rfl⟩
theorem x1h (B:Nat) (l:List UInt8) (hl:l.length≤1000000) (oa:Option Addr) (cap:Nat) (w:M) (hb:z6c B w l (J oa l.length cap)) (hB:B≤w.heap.size) (hN:rdV 16 l=I) :
 Calls prog 55 #[J oa l.length cap] w (y3p I w):=by
 have hmf:∀ (fn:Fn) (first cap:Array F) (w:M),(Instr.makeFunc fn first cap).run prog w=.ok (.func fn first cap) w:=fun _ _ _ _=>rfl
 have HR:=hd_ (y4p hb hB)
 have hx:=hd_ (y5p w (J oa l.length cap))
 have hy:=hd_ (j9c w (J oa l.length cap))
 have hg0:=hd_ (z8t w (J oa l.length cap) I)
 have hsz:=hd_ (y7g w (J oa l.length cap))
 have HN:=hd_ hN;clear hN hb
 go_enter_defers func55,ntmps55
 go_wp2_with (go_at_call 117;refine (y6g 16 (by omega) w.heap.size (w.heap.size+1+1) l 0 (by simp) hl (y0x w (J oa l.length cap)) HR.out (by rw [hsz.out];omega)).mono ?_;rw [HN.out];rintro e w9 ⟨rfl,ay⟩)
 refine leaves_cons (f:=116) (args:=#[U (X ⟨w.heap.size,0,I⟩),U (X ⟨w.heap.size+1,0,I⟩)]) (by simp) (by simp [go_sem]) ?_
 have hs0:=hsz.out
 have kN:=ay.block (w.heap.size+1) (by omega) (fun e=>by injection e;omega)
 refine (z1s w.heap.size (w.heap.size+1) _ _ _ _ (Q Y 0) w9 (hx.out.grown ay (by omega)) ((cB (w:=y0x w _) kN).trans hy.out.1) ((World.frozen?_of_block (w:=y0x w _) kN).trans hy.out.2) (by omega)).mono ?_
 rintro e u' w'' ⟨rfl,rfl,jK,hy2,_,al⟩
 have bB:w.grownBy w'' I:=al w I (z2a hg0.out ay (.inr fun g hg=>by injection hg;omega)) (by omega) (by omega)
 obtain ⟨x0,x1,x2,x3,_⟩:=jK
 simp [Leaves,settle,results,results55,go_sem,x0,x1,x2,x3,hy2]
 exact ⟨rfl,bB⟩
theorem x2h (B:Nat) (l:List UInt8) (hl:l.length≤1000000) (oa:Option Addr) (cap:Nat) (w:M) (hb:z6c B w l (J oa l.length cap)) (hB:B≤w.heap.size) (x:V) (r:List UInt8) (hN:rdV 16 l=X (x,r)) (hr:r≠[]) :
 Calls prog 55 #[J oa l.length cap] w (y3p I w):=by
 have hmf:∀ (fn:Fn) (first cap:Array F) (w:M),(Instr.makeFunc fn first cap).run prog w=.ok (.func fn first cap) w:=fun _ _ _ _=>rfl
 have HR:=hd_ (y4p hb hB)
 have hx:=hd_ (y5p w (J oa l.length cap))
 have hy:=hd_ (j9c w (J oa l.length cap))
 have hg0:=hd_ (z8t w (J oa l.length cap) I)
 have hsz:=hd_ (y7g w (J oa l.length cap))
 have HN:=hd_ hN;clear hN hb
 have hrl:((r.length:Int) == 0)=L:=by cases r <;> simp_all <;> omega
 have hbnd:(r.length:Int)≤1000000:=by have:=x9g 16 l x r HN.out;omega
 clear hr
 go_enter_defers func55,ntmps55
 go_wp2_with (first
  | (go_at_call 117;refine (y6g 16 (by omega) w.heap.size (w.heap.size+1+1) l 0 (by simp) hl (y0x w (J oa l.length cap)) HR.out (by rw [hsz.out];omega)).mono ?_;rw [HN.out];rintro e w9 ⟨v9,rfl,⟨z1,z2,z3,lx,rfl,z4⟩,bD,ay⟩
     obtain ⟨xo,xn,xc,rfl⟩:=z4.shape
     have hs0:=hsz.out
     have jx:=ay.size
     have hx9:=hd_ (hx.out.grown ay (by omega))
     obtain ⟨x0,x1,x2,x3,xf⟩:=hx9.out
     have kN:=ay.block (w.heap.size+1) (by omega) (fun e=>by injection e;omega)
     have e0:w9.cell? ⟨w.heap.size+1,0,I⟩=X (Q Y 0):=(cB (w:=y0x w _) kN).trans hy.out.1
     have ef:w9.frozen? ⟨w.heap.size+1,0,I⟩=L:=(World.frozen?_of_block (w:=y0x w _) kN).trans hy.out.2
     obtain ⟨_,fR,vR,cR,bR⟩:=bD
     obtain ⟨oR,capR,rfl⟩:=bR.shape
     have Z:=hd_ (And.intro z1 (And.intro z2 (And.intro z3 z4)))
     clear kN bR z1 z2 z3 z4
     have bB:=hd_ (z2a (G:=I) hg0.out ay (.inr fun g hg=>by injection hg;omega)))
  | (go_at_call 118;refine (z4l _ _).mono ?_;rintro e w' ⟨rfl,rfl⟩))
 refine leaves_cons (f:=116) (args:=#[U (X ⟨w.heap.size,0,I⟩),U (X ⟨w.heap.size+1,0,I⟩)]) (by simp) (by simp [go_sem]) ?_
 refine (z1s w.heap.size (w.heap.size+1) _ _ _ _ (Q Y 0) _ (x0h hx9.out _ _ _ _) (by simp [go_sem,e0]) (by simp [go_sem,ef]) (by omega)).mono ?_
 rintro e u' w'' ⟨rfl,rfl,jK,hy2,_,al⟩
 have bB:w.grownBy w'' I:=al w I (z5a (z5a (z5a (z5a bB.out (lR _)) (lR _)) (lR _)) (lR _)) (by omega) (by omega)
 obtain ⟨y0,y1,y2,y3,_⟩:=jK
 simp [Leaves,settle,results,results55,go_sem,y0,y1,y2,y3,hy2]
 exact ⟨rfl,bB⟩
def k3p (w9:M) (V E:Nat) (a b c d:F):M :=
 ((((((((w9.setCell ⟨V,0,I⟩ a).setCell ⟨V,1,I⟩ b).setCell ⟨V,2,I⟩ c).setCell ⟨V,3,I⟩ d).setCell ⟨V,0,I⟩ a).setCell ⟨V,1,I⟩ b).setCell ⟨V,2,I⟩ c).setCell ⟨V,3,I⟩ d).setCell ⟨E,0,I⟩ (Q Y 0)
structure FinS (w9:M) (V E:Nat) (a b c d:F) (wf:M):Prop where
 c0:wf.cell? ⟨V,0,I⟩=X a
 c1:wf.cell? ⟨V,1,I⟩=X b
 c2:wf.cell? ⟨V,2,I⟩=X c
 c3:wf.cell? ⟨V,3,I⟩=X d
 e0:wf.cell? ⟨E,0,I⟩=X (Q Y 0)
 sz:wf.heap.size=w9.heap.size
 old:∀ k,k≠V→k≠E→wf.heap[k]? = w9.heap[k]?
 gr:∀ (base:M) (G:Option Nat),base.grownBy w9 G→base.heap.size≤V→base.heap.size≤E→base.grownBy wf G
theorem v5f (w9:M) (V E:Nat) (a b c d x y z u e:F) (h:BoxAt w9 V x y z u) (he:w9.cell? ⟨E,0,I⟩=X e) (hne:V≠E):FinS w9 V E a b c d (k3p w9 V E a b c d):=by
 have hb:=x0h (x0h h a b c d) a b c d
 have he2:((((((((w9.setCell ⟨V,0,I⟩ a).setCell ⟨V,1,I⟩ b).setCell ⟨V,2,I⟩ c).setCell ⟨V,3,I⟩ d).setCell ⟨V,0,I⟩ a).setCell ⟨V,1,I⟩ b).setCell ⟨V,2,I⟩ c).setCell ⟨V,3,I⟩ d).cell? ⟨E,0,I⟩=X e:=by simp [go_sem,he]
 refine ⟨?_,?_,?_,?_,World.cell?_setCell_same' _ _ _ (by rw [he2];rfl),by simp [k3p,World.setCell],?_,?_⟩
 ·exact (World.cell?_setCell_other _ _ _ _ (by simp)).trans hb.c0
 ·exact (World.cell?_setCell_other _ _ _ _ (by simp)).trans hb.c1
 ·exact (World.cell?_setCell_other _ _ _ _ (by simp)).trans hb.c2
 ·exact (World.cell?_setCell_other _ _ _ _ (by simp)).trans hb.c3
 ·intro k h1 h2
  unfold k3p
  rw [Below.heap_setCell _ _ _ _ (by exact h2),Below.heap_setCell _ _ _ _ (by exact h1),Below.heap_setCell _ _ _ _ (by exact h1),Below.heap_setCell _ _ _ _ (by exact h1),Below.heap_setCell _ _ _ _ (by exact h1),Below.heap_setCell _ _ _ _ (by exact h1),Below.heap_setCell _ _ _ _ (by exact h1),Below.heap_setCell _ _ _ _ (by exact h1),Below.heap_setCell _ _ _ _ (by exact h1)]
 ·intro base G hg hV hE
  exact z5a (z5a (z5a (z5a (z5a (z5a (z5a (z5a (z5a hg hV) hV) hV) hV) hV) hV) hV) hV) hE
theorem x3h (B:Nat) (l:List UInt8) (hl:l.length≤1000000) (oa:Option Addr) (cap:Nat) (w:M) (hb:z6c B w l (J oa l.length cap)) (hB:B≤w.heap.size) (x:V) (r:List UInt8) (hN:rdV 16 l=X (x,r)) (hr:r=[]) :
 Calls prog 55 #[J oa l.length cap] w (y3p (X x) w):=by
 have hmf:∀ (fn:Fn) (first cap:Array F) (w:M),(Instr.makeFunc fn first cap).run prog w=.ok (.func fn first cap) w:=fun _ _ _ _=>rfl
 have HR:=hd_ (y4p hb hB)
 have hx:=hd_ (y5p w (J oa l.length cap))
 have hy:=hd_ (j9c w (J oa l.length cap))
 have hg0:=hd_ (z8t w (J oa l.length cap) I)
 have hsz:=hd_ (y7g w (J oa l.length cap))
 have HN:=hd_ hN;clear hN hb
 have hrl:((r.length:Int) == 0)=S:=by cases r <;> simp_all <;> omega
 have hbnd:(r.length:Int)≤1000000:=by have:=x9g 16 l x r HN.out;omega
 clear hr
 go_enter_defers func55,ntmps55
 go_wp2_with (first
  | (go_at_call 117;refine (y6g 16 (by omega) w.heap.size (w.heap.size+1+1) l 0 (by simp) hl (y0x w (J oa l.length cap)) HR.out (by rw [hsz.out];omega)).mono ?_;rw [HN.out];rintro e w9 ⟨v9,rfl,⟨z1,z2,z3,lx,rfl,z4⟩,bD,ay⟩
     obtain ⟨xo,xn,xc,rfl⟩:=z4.shape
     have hs0:=hsz.out
     have jx:=ay.size
     have hx9:=hd_ (hx.out.grown ay (by omega))
     obtain ⟨x0,x1,x2,x3,xf⟩:=hx9.out
     have kN:=ay.block (w.heap.size+1) (by omega) (fun e=>by injection e;omega)
     have e0:w9.cell? ⟨w.heap.size+1,0,I⟩=X (Q Y 0):=(cB (w:=y0x w _) kN).trans hy.out.1
     have ef:w9.frozen? ⟨w.heap.size+1,0,I⟩=L:=(World.frozen?_of_block (w:=y0x w _) kN).trans hy.out.2
     obtain ⟨_,fR,vR,cR,bR⟩:=bD
     obtain ⟨oR,capR,rfl⟩:=bR.shape
     have Z:=hd_ (And.intro z1 (And.intro z2 (And.intro z3 z4)))
     clear kN bR z1 z2 z3 z4
     have bB:=hd_ (z2a (G:=I) hg0.out ay (.inr fun g hg=>by injection hg;omega)))
  | (go_at_call 118;refine (z7j _ _).mono ?_;rintro e w' ⟨rfl,rfl⟩))
 have hf:=v5f w9 w.heap.size (w.heap.size+1) (Q Y x.kind) (Q Y x.n) (O x.s) (J xo xn xc) _ _ _ _ _ hx9.out e0 (by omega)
 change bodyPostD _ _ _ _ _ (k3p w9 w.heap.size (w.heap.size+1) (Q Y x.kind) (Q Y x.n) (O x.s) (J xo xn xc))
 generalize k3p w9 w.heap.size (w.heap.size+1) (Q Y x.kind) (Q Y x.n) (O x.s) (J xo xn xc)=wf at hf ⊢
 obtain ⟨y0,y1,y2,y3,y4,ys,yo,yg⟩:=hf
 have YO:=hd_ yo;have YG:=hd_ yg;clear yo yg
 refine leaves_cons (f:=116) (args:=#[U (X ⟨w.heap.size,0,I⟩),U (X ⟨w.heap.size+1,0,I⟩)]) (by simp) (by simp [go_sem]) ?_
 refine (x6s w.heap.size (w.heap.size+1) wf).mono ?_
 rintro e u' w'' ⟨rfl,rfl,rfl⟩
 simp [Leaves,settle,results,results55,go_sem,y0,y1,y2,y3,y4]
 refine ⟨_,rfl,⟨Z.out.1,Z.out.2.1,Z.out.2.2.1,_,rfl,Z.out.2.2.2.keep (fun k hk=>⟨by omega,by omega⟩) (fun k hk=>YO.out k (by omega) (by omega))⟩,YG.out w I bB.out (lR _) (by omega)⟩
theorem y2m (B:Nat) (l:List UInt8) (hl:l.length≤1000000) (v:F) (w:M) (hb:z6c B w l v) (hB:B≤w.heap.size) :
 Calls prog 55 #[v] w (y3p (z4w l) w):=by
 obtain ⟨oa,cap,rfl⟩:=hb.shape
 unfold z4w
 cases hN:rdV 16 l with
 | none=>exact x1h B l hl oa cap w hb hB hN
 | some p =>
  obtain ⟨x,r⟩:=p
  cases r with
  | nil=>exact x3h B l hl oa cap w hb hB x [] hN rfl
  | cons c r=>exact x2h B l hl oa cap w hb hB x (c::r) hN (by simp)
def k4p (o:Option V) (w:M) (e:Ending) (w':M):Prop :=
 match o with
 | some x=>∃ oa cap,e=.returned (.tuple #[.agg #[Q Y x.kind,Q Y x.n,O x.s,J oa x.l.length cap],Q Y 0])∧RdV w'.heap.size w' x (.agg #[Q Y x.kind,Q Y x.n,O x.s,J oa x.l.length cap])∧Below w.heap.size w w'
 | none=>e=.returned (.tuple #[.agg #[Q Y 0,Q Y 0,O ⟨#[]⟩,J I 0 0],Q Y 10])∧Below w.heap.size w w'
theorem j0d (x:Nat) (h:x<256):(y2u x).toNat=x:=by have:=y3o x;omega
theorem j1y (x:Nat):(y2o x).toNat=x % 128+128:=by have:=x7e x;omega
theorem y1x (k:Nat):(2:Nat) ^ (7 * (k+1))=128 * 2 ^ (7 * k):=by rw [show 7 * (k+1)=7+7 * k from by omega,Nat.pow_add]
theorem y2x (u p:Nat):u % 128 * p+u / 128 * (128 * p)=u * p:=by
 have h:=Nat.mod_add_div u 128
 calc u % 128 * p+u / 128 * (128 * p)=u % 128 * p+128 * (u / 128) * p:=by rw [← Nat.mul_assoc,Nat.mul_comm (u / 128) 128]
  _=(u % 128+128 * (u / 128)) * p:=by rw [Nat.add_mul]
  _=u * p:=by rw [h]
theorem x8n:∀ (f k u x:Nat) (r:List UInt8),f+k=9→u<128 ^ f * 2→(k=0∨u≠0)→z9d k x (y2e f u++r)=X (x+u * 2 ^ (7 * k),r)
 | 0,k,u,x,r,hk,hu,h0=>by
  have hu':u<2:=by simpa using hu
  have hl:=j0d u (by omega)
  simp only [y2e,List.singleton_append]
  rw [z8r (by rw [hl];omega) (by omega),hl,Nat.mod_eq_of_lt (by omega)]
 | f+1,k,u,x,r,hk,hu,h0=>by
  by_cases h:u<128
  ·have hl:=j0d u (by omega)
   rw [y2e,if_pos h]
   simp only [List.singleton_append]
   rw [z8r (by rw [hl];omega) (by omega),hl,Nat.mod_eq_of_lt (by omega)]
  ·have hh:=j1y u
   rw [y2e,if_neg h,List.cons_append,y4d (by rw [hh];omega) (by omega),hh]
   rw [x8n f (k+1) (u / 128) _ r (by omega) (by
    rw [Nat.pow_succ] at hu
    exact Nat.div_lt_of_lt_mul (by rw [← Nat.mul_assoc,Nat.mul_comm 128];exact hu)) (by omega)]
   congr 2
   rw [y1x,show (u % 128+128) % 128=u % 128 from by omega,Nat.add_assoc,y2x]
theorem j1d (u:Nat) (hu:u<18446744073709551616) (r:List UInt8):z9d 0 0 (num u++r)=X (u,r):=by
 have:=x8n 9 0 u 0 r rfl (by simpa using hu) (.inl rfl)
 simpa [num] using this
theorem y3x:∀ (f k x n:Nat) (l r:List UInt8),f+k=9→z9d k x l=X (n,r)→∃ u,l=y2e f u++r∧n=x+u * 2 ^ (7 * k)∧(k=0∨u≠0)∧u<128 ^ f * 2
 | f,k,x,n,[],r,hk,h=>by simp [z9d] at h
 | f,k,x,n,c::t,r,hk,h=>by
  by_cases hg:(k=0∨c.toNat≠0)∧(k<9∨c.toNat≤1)
  case neg=>rw [y3g hg] at h;cases h
  have hlo:c.toNat<256:=c.toNat_lt
  by_cases hc:c.toNat<128
  ·rw [z8r hg hc,Nat.mod_eq_of_lt hc] at h
   simp at h;obtain ⟨rfl,rfl⟩:=h
   have hcl:y2u c.toNat=c:=UInt8.toNat_inj.1 (j0d c.toNat hlo)
   refine ⟨c.toNat,?_,rfl,hg.1,?_⟩
   ·cases f with
    | zero=>simp [y2e,hcl]
    | succ f=>rw [y2e,if_pos hc];simp [hcl]
   ·have h1:1≤128 ^ f:=Nat.one_le_pow _ _ (by decide)
    cases f with
    | zero=>have:=hg.2;simp;omega
    | succ f =>
     have h2:1≤128 ^ f:=Nat.one_le_pow _ _ (by decide)
     rw [Nat.pow_succ];omega
  ·cases f with
   | zero=>have:=hg.2;omega
   | succ f =>
    rw [y4d hg hc] at h
    obtain ⟨u,rfl,rfl,hu0,hul⟩:=y3x f (k+1) _ n t r (by omega) h
    have hu1:u≠0:=by omega
    have hd:(c.toNat % 128+128 * u) / 128=u:=by omega
    have hm:(c.toNat % 128+128 * u) % 128=c.toNat % 128:=by omega
    have hh:y2o (c.toNat % 128+128 * u)=c:=UInt8.toNat_inj.1 (by rw [j1y,hm];omega)
    refine ⟨c.toNat % 128+128 * u,?_,?_,.inr (by omega),?_⟩
    ·rw [y2e,if_neg (by omega),hh,hd,List.cons_append]
    ·have:=y2x (c.toNat % 128+128 * u) (2 ^ (7 * k))
     rw [hm,hd] at this
     rw [y1x,← this,Nat.add_assoc]
    ·rw [Nat.pow_succ];omega
theorem j2d {n:Nat} {l r:List UInt8} (h:z9d 0 0 l=X (n,r)):l=num n++r∧n<18446744073709551616:=by
 obtain ⟨u,h1,h2,_,h4⟩:=y3x 9 0 0 n l r rfl h
 have:n=u:=by simpa using h2
 subst this
 exact ⟨h1,by simpa using h4⟩
theorem j3d (n:Int) (h:I64 n):sgn (uns n)=n:=by unfold I64 at h;unfold sgn uns;split <;> split <;> omega
theorem k1d (u:Nat):uns (sgn u)=u:=by unfold sgn uns;split <;> split <;> omega
theorem x4h (u:Nat):1≤(num u).length:=j7p 9 u
theorem y6p:∀ x:V,fm x=S→(∃ n,x=.mk 1 n ⟨#[]⟩ [])∨(∃ s,x=.mk 2 0 s [])∨(∃ l,x=.mk 3 0 ⟨#[]⟩ l∧fms l=S)
 | .mk k n s l,h=>by
  have he:∀ s:ByteArray,s.toList.isEmpty=S→s=⟨#[]⟩:=fun s hs=>k1o (by rw [List.isEmpty_iff.1 hs,ByteArray.toList_eq])
  rw [fm] at h
  split at h
  ·rename_i hk;subst hk
   simp only [Bool.and_eq_true] at h
   obtain rfl:=he s h.1
   obtain rfl:=List.isEmpty_iff.1 h.2
   exact .inl ⟨n,rfl⟩
  ·split at h
   ·rename_i hk;subst hk
    simp only [Bool.and_eq_true,beq_iff_eq] at h
    obtain ⟨rfl,h2⟩:=h
    obtain rfl:=List.isEmpty_iff.1 h2
    exact .inr (.inl ⟨s,rfl⟩)
   ·split at h
    ·rename_i hk;subst hk
     simp only [Bool.and_eq_true,beq_iff_eq] at h
     obtain ⟨⟨rfl,h2⟩,h3⟩:=h
     obtain rfl:=he s h2
     exact .inr (.inr ⟨l,rfl,h3⟩)
    ·cases h
theorem y7p {x:V} {r:List V} (h:fms (x::r)=S):fm x=S∧fms r=S:=by simpa [fms] using h
theorem j0s (N:Nat):(∀ x:V,sz x≤N→fm x=S→sz x≤13 * (enc x).length∧2≤(enc x).length):=by
 induction N with
 | zero=>intro x h;obtain ⟨k,n,s,l⟩:=x;simp [sz] at h
 | succ N ih =>
  intro x hN hf
  have hs:∀ l:List V,szs l≤N→fms l=S→szs l≤13 * (z6o l).length∧l.length≤(z6o l).length:=by
   intro l
   induction l with
   | nil=>intro _ _;simp [szs]
   | cons y r ihr =>
    intro h1 h2
    obtain ⟨h3,h4⟩:=y7p h2
    simp only [szs] at h1 ⊢
    have:=ih y (by omega) h3
    have:=ihr (by omega) h4
    simp only [z6o,List.length_append,List.length_cons];omega
  rcases y6p x hf with ⟨n,rfl⟩|⟨s,rfl⟩|⟨l,rfl,hl⟩
  ·have:=x4h (uns n)
   rw [x3r]
   simp [sz,szs]
   have h0:(⟨#[]⟩:ByteArray).size=0:=rfl
   omega
  ·have:=x4h s.size
   have h5:s.data.toList.length=s.size:=by simp
   rw [x4r]
   simp [sz,szs]
   omega
  ·have:=x4h l.length
   have h0:(⟨#[]⟩:ByteArray).size=0:=rfl
   simp only [sz] at hN
   have:=hs l (by omega) hl
   rw [j4a]
   simp [sz]
   omega
theorem j4d {x:V} (h:fm x=S):sz x≤13 * (enc x).length∧2≤(enc x).length:=j0s (sz x) x (lR _) h
theorem x9n:∀ l:List V,fms l=S→l.length≤(z6o l).length
 | [],_=>by simp
 | x::r,h=>by
  obtain ⟨h1,h2⟩:=y7p h
  have:=(j4d h1).2;have:=x9n r h2
  simp only [z6o,List.length_append,List.length_cons];omega
theorem y8g {n:Nat} (h:n<18446744073709551616) (r:List UInt8) (hr:n≤r.length):z8h (num n++r)=X (n,r):=by
 unfold z8h;rw [j1d n h];simp [hr]
theorem x0o (f:List UInt8→Option (V × List UInt8)) (l:List V) (r:List UInt8) (hf:∀ x∈l,∀ t,f (enc x++t)=X (x,t)):∀ k,k≤l.length→z7t f k (z6o l++r)=X (l.take k,z6o (l.drop k)++r)
 | 0,_=>by simp [z7t]
 | k+1,hk=>by
  have h1:=x0o f l r hf k (by omega)
  have hd:l.drop k=l[k]::l.drop (k+1):=List.drop_eq_getElem_cons (by omega)
  rw [hd] at h1
  simp only [z6o,List.append_assoc] at h1
  rw [y5g f k _ _ _ _ _ h1 (hf l[k] (List.getElem_mem _) _)]
  congr 2
  rw [List.take_succ_eq_append_getElem (by omega)]
theorem j5d:∀ {l:List V} {x:V},x∈l→dp x≤dps l
 | y::r,x,h=>by
  simp only [dps]
  rcases List.mem_cons.1 h with rfl|h
  ·omega
  ·have:=j5d h;omega
theorem j6d:∀ {l:List V} {x:V},fms l=S→x∈l→fm x=S
 | y::r,x,hf,h=>by
  obtain ⟨h1,h2⟩:=y7p hf
  rcases List.mem_cons.1 h with rfl|h
  ·exact h1
  ·exact j6d h2 h
theorem x5h:∀ (d:Nat) (x:V),fm x=S→dp x≤d→okV x→∀ r,rdV d (enc x++r)=X (x,r):=by
 intro d
 induction d with
 | zero =>
  intro x hf hd aW r
  rcases y6p x hf with ⟨n,rfl⟩|⟨s,rfl⟩|⟨l,rfl,hl⟩
  ·obtain ⟨_,hn,_⟩:=aW
   rw [x3r,List.append_assoc,List.singleton_append,x6g,j1d _ (x9l n hn)]
   show X (V.mk 1 (sgn (uns n)) ⟨#[]⟩ [],r)=_
   rw [j3d n hn]
  ·obtain ⟨_,_,hs,_⟩:=aW
   unfold H at hs
   rw [x4r,List.append_assoc,List.append_assoc,List.singleton_append,y2p,y8g (by omega) _ (by simp)]
   simp
  ·rw [k0o] at hd;omega
 | succ d ih =>
  intro x hf hd aW r
  rcases y6p x hf with ⟨n,rfl⟩|⟨s,rfl⟩|⟨l,rfl,hl⟩
  ·obtain ⟨_,hn,_⟩:=aW
   rw [x3r,List.append_assoc,List.singleton_append,x6g,j1d _ (x9l n hn)]
   show X (V.mk 1 (sgn (uns n)) ⟨#[]⟩ [],r)=_
   rw [j3d n hn]
  ·obtain ⟨_,_,hs,_⟩:=aW
   unfold H at hs
   rw [x4r,List.append_assoc,List.append_assoc,List.singleton_append,y2p,y8g (by omega) _ (by simp)]
   simp
  ·obtain ⟨_,_,_,hll,hoks⟩:=aW
   unfold H at hll
   rw [k0o] at hd
   rw [j4a,List.append_assoc,List.append_assoc,List.singleton_append,x7g,y8g (by omega) _ (by have:=x9n l hl;simp;omega)]
   have h1:=x0o (rdV d) l r (fun x hx t=>ih x (j6d hl hx) (by have:=j5d hx;omega) (j8p hoks hx) t) l.length (lR _)
   simp only [h1]
   simp [z6o]
theorem y4x {n:Nat} {l r:List UInt8} (h:z8h l=X (n,r)):l=num n++r∧n<18446744073709551616∧n≤r.length:=by
 unfold z8h at h
 cases hN:z9d 0 0 l with
 | none=>rw [hN] at h;cases h
 | some p =>
  obtain ⟨m,t⟩:=p
  rw [hN] at h
  simp only at h
  split at h
  ·rename_i hm
   simp at h;obtain ⟨rfl,rfl⟩:=h
   obtain ⟨h1,h2⟩:=j2d hN
   exact ⟨h1,h2,hm⟩
  ·cases h
theorem x6h (a b:List V):z6o (a++b)=z6o a++z6o b:=by
 induction a with
 | nil=>simp [z6o]
 | cons x r ih=>simp [z6o,ih]
structure Rd1 (d:Nat) (l:List UInt8) (x:V) (r:List UInt8):Prop where
 eq:l=enc x++r
 fm:fm x=S
 dp:dp x≤d
 ok:l.length≤H→okV x
theorem y3m (a:List V) (x:V):dps (a++[x])=max (dps a) (dp x):=by
 induction a with
 | nil=>simp [dps]
 | cons y r ih=>simp only [List.cons_append,dps,ih];omega
theorem y4m (a:List V) (x:V):fms (a++[x])=(fms a&&Go.Proofs.YtdblnbnofjggnaaGreatDoor.fm x):=by
 induction a with
 | nil=>simp [fms]
 | cons y r ih=>simp only [List.cons_append,fms,ih,Bool.and_assoc]
theorem x7h (a:List V) (x:V) (h:z2g a) (hx:okV x):z2g (a++[x]):=by
 induction a with
 | nil=>exact ⟨hx,trivial⟩
 | cons y r ih=>exact ⟨h.1,ih h.2⟩
theorem y5m (d:Nat) (ih:∀ l x r,rdV d l=X (x,r)→Rd1 d l x r):∀ (n:Nat) (l:List UInt8) (xs:List V) (r:List UInt8),z7t (rdV d) n l=X (xs,r) →
 xs.length=n∧l=z6o xs++r∧fms xs=S∧dps xs≤d∧(l.length≤H→z2g xs)
 | 0,l,xs,r,h=>by simp [z7t] at h;obtain ⟨rfl,rfl⟩:=h;simp [z6o,fms,dps,z2g]
 | n+1,l,xs,r,h=>by
  simp only [z7t] at h
  cases hN:z7t (rdV d) n l with
  | none=>rw [hN] at h;cases h
  | some p =>
   obtain ⟨ys,t⟩:=p
   rw [hN] at h;simp only at h
   cases hM:rdV d t with
   | none=>rw [hM] at h;cases h
   | some q =>
    obtain ⟨y,t'⟩:=q
    rw [hM] at h;simp at h
    obtain ⟨rfl,rfl⟩:=h
    obtain ⟨h1,h2,h3,h4,h5⟩:=y5m d ih n l ys t hN
    obtain ⟨g1,g2,g3,g4⟩:=ih t y t' hM
    refine ⟨by simp [h1],?_,by rw [y4m,h3,g2];rfl,by rw [y3m];omega,fun hl=>x7h _ _ (h5 hl) (g4 ?_)⟩
    ·rw [h2,g1,x6h];simp [z6o]
    ·have:t.length≤l.length:=by rw [h2];simp
     omega
theorem x1o (d:Nat) (c:UInt8) (t:List UInt8) (x:V) (r:List UInt8) (h3:c≠3) (h:rdV d (c::t)=X (x,r)):Rd1 d (c::t) x r:=by
 by_cases h1:c=1
 ·subst h1
  rw [x6g] at h
  cases hN:z9d 0 0 t with
  | none=>rw [hN] at h;cases h
  | some p =>
   obtain ⟨u,t'⟩:=p
   rw [hN] at h;simp at h
   obtain ⟨rfl,rfl⟩:=h
   obtain ⟨e1,e2⟩:=j2d hN
   refine ⟨?_,by simp [Go.Proofs.YtdblnbnofjggnaaGreatDoor.fm,ByteArray.toList_eq],by rw [v6d];omega,fun _=>⟨by unfold I64;omega,x8g u e2,Nat.zero_le _,Nat.zero_le _,trivial⟩⟩
   rw [x3r,k1d,e1];simp
 by_cases h2:c=2
 ·subst h2
  rw [y2p] at h
  cases hN:z8h t with
  | none=>rw [hN] at h;cases h
  | some p =>
   obtain ⟨n,t'⟩:=p
   rw [hN] at h;simp at h
   obtain ⟨rfl,rfl⟩:=h
   obtain ⟨e1,e2,e3⟩:=y4x hN
   have hsz:(⟨(t'.take n).toArray⟩:ByteArray).size=n:=by simp [ByteArray.size];omega
   refine ⟨?_,by simp [Go.Proofs.YtdblnbnofjggnaaGreatDoor.fm],by rw [v7d];omega,fun hl=>⟨by unfold I64;omega,by unfold I64;omega,?_,Nat.zero_le _,trivial⟩⟩
   ·rw [x4r,hsz,e1];simp
   ·rw [hsz];simp only [List.length_cons] at hl;rw [e1] at hl;simp at hl;omega
 ·rw [y4g d c t h1 h2 h3] at h;cases h
theorem j7d:∀ (d:Nat) (l:List UInt8) (x:V) (r:List UInt8),rdV d l=X (x,r)→Rd1 d l x r:=by
 intro d
 induction d with
 | zero =>
  intro l x r h
  cases l with
  | nil=>rw [y0a] at h;cases h
  | cons c t =>
   by_cases h3:c=3
   ·subst h3;rw [y6w] at h;cases h
   ·exact x1o 0 c t x r h3 h
 | succ d ih =>
  intro l x r h
  cases l with
  | nil=>rw [y0a] at h;cases h
  | cons c t =>
   by_cases h3:c=3
   ·subst h3
    rw [x7g] at h
    cases hN:z8h t with
    | none=>rw [hN] at h;cases h
    | some p =>
     obtain ⟨n,t'⟩:=p
     rw [hN] at h;simp only at h
     cases hM:z7t (rdV d) n t' with
     | none=>rw [hM] at h;cases h
     | some q =>
      obtain ⟨xs,t''⟩:=q
      rw [hM] at h;simp at h
      obtain ⟨rfl,rfl⟩:=h
      obtain ⟨e1,e2,e3⟩:=y4x hN
      obtain ⟨g1,g2,g3,g4,g5⟩:=y5m d ih n t' xs t'' hM
      have hlen:t'.length≤(3::t).length:=by rw [e1];simp;omega
      refine ⟨?_,by simp [Go.Proofs.YtdblnbnofjggnaaGreatDoor.fm,g3,ByteArray.toList_eq],by rw [k0o];omega,fun hl=>⟨by unfold I64;omega,by unfold I64;omega,Nat.zero_le _,by omega,g5 (by omega)⟩⟩
      rw [j4a,g1,e1,g2];simp
   ·exact x1o (d+1) c t x r h3 h
theorem x7s {x:V} (h:ck x=0):fm x=S∧dp x≤16:=by
 unfold ck at h
 by_cases hf:fm x=S
 ·rw [if_pos hf] at h
  refine ⟨hf,?_⟩
  by_cases h16:16<dp x
  ·rw [if_pos h16] at h;cases h
  ·omega
 ·rw [if_neg hf] at h;cases h
theorem k2d {x:V} (h1:fm x=S) (h2:dp x≤16):ck x=0:=by unfold ck;rw [if_pos h1,if_neg (by omega)]
theorem y8p {x:V} (h:ck x=0) (aW:okV x):z4w (enc x)=X x:=by
 obtain ⟨h1,h2⟩:=x7s h
 have:=x5h 16 x h1 h2 aW []
 rw [List.append_nil] at this
 unfold z4w;rw [this]
theorem z5l {l:List UInt8} {x:V} (h:z4w l=X x) (hl:l.length≤H):enc x=l∧ck x=0∧okV x∧sz x≤13 * l.length:=by
 unfold z4w at h
 cases hN:rdV 16 l with
 | none=>rw [hN] at h;cases h
 | some p =>
  obtain ⟨y,r⟩:=p
  rw [hN] at h
  cases r with
  | cons c r=>cases h
  | nil =>
   simp at h;subst h
   obtain ⟨e,f,g,o⟩:=j7d 16 l y [] hN
   rw [List.append_nil] at e
   refine ⟨e.symm,k2d f g,o hl,?_⟩
   rw [e];exact (j4d f).1
theorem x8s {x y:V} (hx:ck x=0) (hy:ck y=0) (ox:okV x) (oy:okV y) (r s:List UInt8) (h:enc x++r=enc y++s):x=y∧r=s:=by
 have h1:=x5h 16 x (x7s hx).1 (x7s hx).2 ox r
 have h2:=x5h 16 y (x7s hy).1 (x7s hy).2 oy s
 rw [h] at h1
 rw [h1] at h2
 simpa using h2
theorem z1d {w w':M} (h:w.grownBy w' I):Below w.heap.size w w':=⟨h.os,h.tape,h.output,h.size,fun k hk=>h.block k hk (by simp)⟩
end Go.Proofs.YtdblnbnofjggnaaGreatDoor
