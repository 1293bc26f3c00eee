/- Parts of the proofs of chapter 49's laws: Rdy Rdz Dec Ded Dee Pla Drd. -/
import Derived.Test.YtdblnbnofjggnaaGreatDoorM22
import Derived.Deep.RegionLaw
import Derived.Defers
import Derived.Recover
import Derived.Laws.EntriesVeiled
import Derived.Test.YtdblnbnofjggnaaGreatDoorM20
import Derived.Test.YtdblnbnofjggnaaGreatDoorM09
set_option maxHeartbeats 4000000
set_option maxRecDepth 100000
open Go
open Lib renaming hid → hd_
open World renaming cell?_of_block → cB
open Nat renaming le_refl → lR
namespace Go.Proofs.YtdblnbnofjggnaaGreatDoor
open Go.RowKit
def x3z (B R T:Nat) (d n:Nat) (w:World) (r0:List UInt8) (i:Value) (wr:World):Prop :=
 ∃ (k:Nat) (xs:List V) (r:List UInt8) (lv:Value),k ≤ n∧i = .int .i64 k∧z3x (rdV d) k r0 = some (xs,r)∧xs.length = k∧r.length ≤ 1000000∧BoxAt wr T (.int .i64 3) (.int .i64 0) (.string ⟨#[]⟩) lv ∧
  (∃ oa cap,lv = .slice oa k cap)∧x3j 80 (fun g=>T < g∧some g ≠ lv.ownBlock∧g < wr.heap.size) wr (T + 1) lv xs∧RdrAt B wr R r∧w.grownBy wr (some R)
theorem x4z (f:List UInt8→Option (V × List UInt8)):∀ (n k:Nat) (l:List UInt8),k ≤ n→z3x f k l = none→z3x f n l = none
 | 0,k,l,hk,h=>by
   obtain rfl:k = 0:=by omega
   exact h
 | n + 1,k,l,hk,h=>by
  by_cases he:k = n + 1
  · subst he;exact h
  · simp only [z3x,x4z f n k l (by omega) h]
theorem x5z (f:List UInt8→Option (V × List UInt8)) (n k:Nat) (l r:List UInt8) (xs:List V) (hk:k < n) (h:z3x f k l = some (xs,r)) (hr:f r = none):z3x f n l = none :=
 x4z f n (k + 1) l (by omega) (by simp only [z3x,h,hr])
theorem y1u (f:List UInt8→Option (V × List UInt8)) (k:Nat) (l r r':List UInt8) (xs:List V) (x:V) (h:z3x f k l = some (xs,r)) (hr:f r = some (x,r')):z3x f (k + 1) l = some (xs ++ [x],r'):=by
 simp only [z3x,h,hr]
theorem x3j.own_lt {e:TypeId} {D:Nat→Prop} {w:World} {base:Nat} {v:Value} {l:List V} (h:x3j e D w base v l) (g:Nat) (hg:v.ownBlock = some g):base ≤ g∧g < w.heap.size:=by
 obtain ⟨lvs,h1,h2,h3,h4⟩:=h
 rcases h1.2 with ⟨rfl,h0⟩ | ⟨g',cap,cur,rfl,hb,hgb,hn,hm,hcs,ht⟩
 · simp [Value.ownBlock] at hg
 · simp [Value.ownBlock] at hg;subst hg
   exact ⟨hb,by
    rcases Nat.lt_or_ge g' w.heap.size with hx | hx
    · exact hx
    · rw [Array.getElem?_eq_none hx] at hgb;cases hgb⟩
theorem x1l (f:List UInt8→Option (V × List UInt8)) (hf:∀ l x r,f l = some (x,r)→r.length < l.length):∀ (n:Nat) (l:List UInt8) (xs:List V) (r:List UInt8),z3x f n l = some (xs,r)→r.length ≤ l.length
 | 0,l,xs,r,h=>by simp [z3x] at h;obtain ⟨rfl,rfl⟩:=h;exact lR _
 | n + 1,l,xs,r,h=>by
  simp only [z3x] at h
  cases hN:z3x f n l with
  | none=>rw [hN] at h;cases h
  | some p =>
   obtain ⟨ys,t⟩:=p
   rw [hN] at h;simp only at h
   cases hM:f t with
   | none=>rw [hM] at h;cases h
   | some q =>
    obtain ⟨y,t'⟩:=q
    rw [hM] at h;simp at h
    obtain ⟨_,rfl⟩:=h
    have:=x1l f hf n l ys t hN
    have:=hf t y t' hM
    omega
theorem x5d:∀ (d:Nat) (l:List UInt8) (x:V) (r:List UInt8),rdV d l = some (x,r)→r.length < l.length:=by
 intro d
 induction d with
 | zero =>
  intro l x r h
  cases l with
  | nil=>rw [y0d] at h;cases h
  | cons c t =>
   by_cases h1:c = 1
   · subst h1;rw [x5p] at h
     cases hN:z7f 0 0 t with
     | none=>rw [hN] at h;cases h
     | some p=>obtain ⟨u,t'⟩:=p;rw [hN] at h;simp at h;obtain ⟨_,rfl⟩:=h;have:=z2q t 0 0 _ _ hN;simp;omega
   · by_cases h2:c = 2
     · subst h2;rw [x6p] at h
       cases hN:z2k t with
       | none=>rw [hN] at h;cases h
       | some p=>obtain ⟨u,t'⟩:=p;rw [hN] at h;simp at h;obtain ⟨_,rfl⟩:=h;have:=z3q hN;simp;omega
     · by_cases h3:c = 3
       · subst h3;rw [x7y] at h;cases h
       · rw [y6m 0 c t h1 h2 h3] at h;cases h
 | succ d ih =>
  intro l x r h
  cases l with
  | nil=>rw [y0d] at h;cases h
  | cons c t =>
   by_cases h1:c = 1
   · subst h1;rw [x5p] at h
     cases hN:z7f 0 0 t with
     | none=>rw [hN] at h;cases h
     | some p=>obtain ⟨u,t'⟩:=p;rw [hN] at h;simp at h;obtain ⟨_,rfl⟩:=h;have:=z2q t 0 0 _ _ hN;simp;omega
   · by_cases h2:c = 2
     · subst h2;rw [x6p] at h
       cases hN:z2k t with
       | none=>rw [hN] at h;cases h
       | some p=>obtain ⟨u,t'⟩:=p;rw [hN] at h;simp at h;obtain ⟨_,rfl⟩:=h;have:=z3q hN;simp;omega
     · by_cases h3:c = 3
       · subst h3;rw [j6m] at h
         cases hN:z2k t with
         | none=>rw [hN] at h;cases h
         | some p =>
          obtain ⟨n,t'⟩:=p;rw [hN] at h;simp only at h
          cases hM:z3x (rdV d) n t' with
          | none=>rw [hM] at h;cases h
          | some q =>
           obtain ⟨xs,t2⟩:=q;rw [hM] at h;simp at h;obtain ⟨_,rfl⟩:=h
           have:=z3q hN
           have:=x1l (rdV d) ih n t' xs t2 hM
           simp;omega
       · rw [y6m (d + 1) c t h1 h2 h3] at h;cases h
theorem x3j.mono {e:TypeId} {D D':Nat→Prop} {w:World} {base:Nat} {v:Value} {l:List V} (h:x3j e D w base v l) (hB:∀ k,D k→D' k) (h4:∀ k,D' k→some k ≠ v.ownBlock):x3j e D' w base v l:=by
 obtain ⟨lvs,h1,h2,h3,_⟩:=h
 exact ⟨lvs,h1,z9e hB (fun _ _=>rfl) l lvs h2,h3,h4⟩
theorem x3j.shape {e:TypeId} {D:Nat→Prop} {w:World} {base:Nat} {v:Value} {l:List V} (h:x3j e D w base v l):∃ oa cap,v = .slice oa l.length cap:=by
 obtain ⟨lvs,h1,h2,h3,_⟩:=h
 rcases h1.2 with ⟨rfl,h0⟩ | ⟨g,cap,cur,rfl,_⟩
 · exact ⟨none,0,by rw [h0]⟩
 · exact ⟨_,cap,rfl⟩
theorem y0i.one {D:Nat→Prop} {w:World} {l:List V} {lv:Value} (h:y0i D w l lv):lv.oneCell' = true:=by
 rcases h with ⟨_,oa,cap,rfl⟩ | ⟨_,c,o,cap,rfl,_⟩ <;> rfl
theorem y2u {B R T d n k:Nat} {w wr w9 w':World} {r0 r3:List UInt8} {x:V} {xs:List V} {oa oa2:Option Addr} {cp cp2:Nat} (hT:T = w.heap.size) (hRT:R < T) (hkn:k < n) (hxl:xs.length = k)
 (hn:z3x (rdV d) (k + 1) r0 = some (xs ++ [x],r3)) (hr3:r3.length ≤ 1000000) (hbx:BoxAt wr T (.int .i64 3) (.int .i64 0) (.string ⟨#[]⟩) (.slice oa k cp))
 (hg3:w.grownBy wr (some R)) (hTw:T < wr.heap.size) (hg9:wr.grownBy w9 (some R)) (hrd9:RdrAt B w9 R r3) (ob:Obj)
 (hown0:∀ g,(Value.slice oa k cp).ownBlock = some g→T + 1 ≤ g∧g < wr.heap.size)
 (ho:x3j 80 (fun g=>T < g∧some g ≠ (Value.slice oa k cp).ownBlock∧g < (w9.alloc ob).heap.size) w' (T + 1) (.slice oa2 (xs ++ [x]).length cp2) (xs ++ [x])) (hg:(w9.alloc ob).grownBy w' (Value.slice oa k cp).ownBlock) :
 x3z B R T d n w r0 (.int .i64 ((k:Int) + 1)) (w'.setCell ⟨T,3,none⟩ (.slice oa2 (xs ++ [x]).length cp2)):=by
 have hl:(xs ++ [x]).length = k + 1:=by simp [hxl]
 have hTo:some T ≠ (Value.slice oa k cp).ownBlock:=fun e=>by have:=hown0 _ e.symm;omega
 have hRo:∀ j,j ≤ R→some j ≠ (Value.slice oa k cp).ownBlock:=fun j hj e=>by have:=hown0 _ e.symm;omega
 have hs9:=hg9.size
 have hs':=hg.size
 have hbx9:=hbx.grown hg9 (by omega)
 have hTa:T < (w9.alloc ob).heap.size:=by simp;omega
 have cl:∀ i,w'.cell? ⟨T,i,none⟩ = w9.cell? ⟨T,i,none⟩:=fun i=>cB (w:=w9) ((hg.block T hTa hTo).trans (Below.heap_alloc w9 ob T (by omega)))
 have fl:∀ i,w'.frozen? ⟨T,i,none⟩ = w9.frozen? ⟨T,i,none⟩:=fun i=>World.frozen?_of_block (w:=w9) ((hg.block T hTa hTo).trans (Below.heap_alloc w9 ob T (by omega)))
 have hwg:w.grownBy w' (some R):=z2a (z8a (z2a hg3 hg9 (.inl rfl)) ob) hg (.inr fun g hg=>by have:=hown0 g hg;omega)
 rw [hl] at ho ⊢
 have hob:=x3j.own_lt ho
 refine ⟨k + 1,xs ++ [x],r3,.slice oa2 (k + 1) cp2,by omega,by simp,hn,hl,hr3,?_,⟨oa2,cp2,rfl⟩,?_,?_,z1b hwg (by omega)⟩
 · refine ⟨?_,?_,?_,?_,?_⟩
   · rw [World.cell?_setCell_other _ _ _ _ (by simp),cl 0];exact hbx9.c0
   · rw [World.cell?_setCell_other _ _ _ _ (by simp),cl 1];exact hbx9.c1
   · rw [World.cell?_setCell_other _ _ _ _ (by simp),cl 2];exact hbx9.c2
   · exact World.cell?_setCell_same' _ _ _ (by rw [cl 3,hbx9.c3];rfl)
   · intro o;rw [World.frozen?_setCell,fl o];exact hbx9.fr o
 · obtain ⟨lvs,_,_,_,hd4⟩:=id ho
   refine ((x3j.kept ho (z8b w' T 3 _) (.inr fun e=>by have:=hob T e;omega) (fun j hj e=>by injection e with e;have:=hj.1;omega) (fun j hj=>by have:=hj.2.2;omega))).mono (fun j hj=>⟨hj.1,hd4 j hj,by have:=hj.2.2;simp [World.setCell];omega⟩) ?_
   exact fun j hj=>hj.2.1
 · refine RdrAt.set ?_ hRT
   exact hrd9.keep fun j hj=>(hg.block j (by simp;omega) (hRo j hj)).trans (Below.heap_alloc w9 ob j (by omega))
theorem x6z (d:Nat) (hd:d ≤ 16) (ih:∀ d',d = d' + 1→x6y d') (B R:Nat) (r:List UInt8) (hl:(3 :: r).length ≤ 1000000) (w:World) (hr:RdrAt B w R (3 :: r)) (hRw:R < w.heap.size) :
 Calls Tryz.prog 117 #[.pointer (some ⟨R,0,none⟩),.int .i64 (16 - (d:Int))] w (z4x B R (rdV d (3 :: r)) w):=by
 have HR:=hd_ hr;clear hr
 have IH:=hd_ ih;clear ih
 have hrl:r.length ≤ 1000000:=by simp at hl;omega
 cases d with
 | zero =>
  have hn:=hd_ (x7y r)
  go_enter Tryz.func117,Tryz.ntmps117
  go_wp2_with (first
   | (go_at_call 169;refine (z1h B R 3 r hl w HR.out hRw _).mono ?_;rintro e w1 ⟨b,off,cap,v',rfl,rfl,hbR,hbw,hc,hrd⟩)
   | (go_at_call 118;refine (z8k _ _).mono ?_;rintro e w' ⟨rfl,rfl⟩))
  exact ⟨rfl,by rw [hn.out];exact And.intro rfl (z8a (z5c w R v') _)⟩
 | succ d =>
  have hd':d ≤ 15:=by omega
  have hv:=hd_ (j6m d r)
  have hdt:decide ((16 - ((d:Int) + 1)) < 16) = true:=by simp;omega
  cases hN:z2k r with
  | none =>
   have hn:Hid (rdV (d + 1) (3 :: r) = none):=by show _ = _;rw [hv.out,hN]
   have HN:=hd_ hN;clear hN
   go_enter Tryz.func117,Tryz.ntmps117
   go_wp2_with (first
    | (go_at_call 169;refine (z1h B R 3 r hl w HR.out hRw _).mono ?_;rintro e w1 ⟨b,off,cap,v',rfl,rfl,hbR,hbw,hc,hrd⟩)
    | (go_at_call 118;refine (z5j _ _).mono ?_;rintro e w' ⟨rfl,rfl⟩))
   have hszw:(w.setCell ⟨R,0,none⟩ v').heap.size = w.heap.size:=by simp [World.setCell]
   refine (z9r B R r hrl _ (hrd.keep fun k hk=>Below.heap_alloc _ _ k (by omega))).mono ?_
   rw [HN.out]
   rintro e w2 ⟨rfl,hg⟩
   exact ⟨rfl,by rw [hn.out];exact And.intro rfl (z2a (z8a (z5c w R v') _) hg (.inl rfl))⟩
  | some p =>
   obtain ⟨n,r'⟩:=p
   have hlen:=z3q hN
   have HN:=hd_ hN;clear hN
   go_enter Tryz.func117,Tryz.ntmps117
   go_wp2_with (first
    | (go_at_call 169;refine (z1h B R 3 r hl w HR.out hRw _).mono ?_;rintro e w1 ⟨b,off,cap,v',rfl,rfl,hbR,hbw,hc,hrd⟩)
    | (go_at_call 118;refine (z5j _ _).mono ?_;rintro e w' ⟨rfl,rfl⟩))
   have hszw:(w.setCell ⟨R,0,none⟩ v').heap.size = w.heap.size:=by simp [World.setCell]
   refine (z9r B R r hrl _ (hrd.keep fun k hk=>Below.heap_alloc _ _ k (by omega))).mono ?_
   rw [HN.out]
   rintro e w2 ⟨rfl,hrd2,hg⟩
   have hbx:=(BoxAt.made (w.setCell ⟨R,0,none⟩ v') 80 (.int .i64 3) (.int .i64 0) (.string ⟨#[]⟩) (.slice none 0 0)).grown hg (by omega)
   rw [hszw] at hbx
   have hgw:w.grownBy w2 (some R):=z2a (z8a (z5c w R v') _) hg (.inl rfl)
   clear hg hc hrd
   have HB:=hd_ hbx;clear hbx
   go_wp2
   go_loopw [37] (fun i wr=>x3z B R w.heap.size d n w r' i wr) (fun i _=>n - (intOf i).toNat)
   case atStart=>exact ⟨0,[],r',.slice none 0 0,Nat.zero_le _,rfl,rfl,rfl,by omega,HB.out,⟨none,0,rfl⟩,⟨[],World.ownsRow_nil _ _ _ _,trivial,by simp,by simp [Value.ownBlock]⟩,hrd2,hgw⟩
   case round =>
    obtain ⟨k,xs,r2,lv,hkn,rfl,hrd,hxl,hr2,hbx,⟨oa,cp,rfl⟩,hown,hrd3,hg3⟩:=hrel
    have hsz3:=hg3.size
    have hRwr:R < wr.heap.size:=by omega
    have Hrd:=hd_ hrd;have Hxl:=hd_ hxl;have Hown:=hd_ hown;have Hrd3:=hd_ hrd3;have Hbx:=hd_ hbx
    clear hrd hxl hown hrd3
    by_cases hlt:k < n
    case neg =>
     obtain rfl:k = n:=by omega
     have hn:Hid (rdV (d + 1) (3 :: r) = some (.mk 3 0 ⟨#[]⟩ xs,r2)):=by show _ = _;rw [hv.out,HN.out];simp only;rw [Hrd.out]
     obtain ⟨x0,x1,x2,x3,xf⟩:=hbx
     go_wp2
     refine bodyPost_ret (v:=.agg #[.int .i64 3,.int .i64 0,.string ⟨#[]⟩,.slice oa k cp]) (by simp [results,Tryz.results117,go_sem,x0,x1,x2,x3]) rfl ?_
     rw [hn.out]
     have hsl:y0i (fun g=>w.heap.size < g∧g < wr.heap.size) wr xs (.slice oa k cp):=Hown.out.sl (fun g hg=>by have:=hg.1;have:=hg.2.2;omega) (fun g hg=>by have:=Hown.out.own_lt g hg;omega)
     exact ⟨_,rfl,⟨by show I64 3;unfold I64;omega,by show I64 0;unfold I64;omega,Nat.zero_le maxLen,_,rfl,hsl.keep (fun g hg=>⟨by omega,by simp [World.setCell];omega⟩) (fun g hg=>by repeat (first | rfl | refine (Below.heap_setCell _ _ _ _ (by show g ≠ w.heap.size;omega)).trans ?_))⟩,by repeat (first | exact Hrd3.out | refine RdrAt.set ?_ hRw),by repeat (first | exact hg3 | refine z1b ?_ (lR _))⟩
    case pos =>
     cases hE:rdV d r2 with
     | none =>
      have hn:Hid (rdV (d + 1) (3 :: r) = none):=by show _ = _;rw [hv.out,HN.out];simp only;rw [x5z _ n k _ _ xs hlt Hrd.out hE]
      have HE:=hd_ hE;clear hE
      have hw:IntKind.i64.wrap (16 - ((d:Int) + 1) + 1) = 16 - (d:Int):=by rw [IntKind.wrap_i64];omega
      obtain ⟨x0,x1,x2,x3,xf⟩:=hbx
      go_wp2
      have HW:=hd_ hw
      refine wp_region_any (by kernel_rfl) ?_
      try (change wpAny _ _ _ _ _ _ _ (World.drew _))
      refine wpAny_take (i:=0) (v:=?_) rfl (by kernel_rfl) (by kernel_rfl) (by kernel_rfl) (fun _ _ _ h=>h) (Or.inl ⟨by rfl,?hy0⟩) ?rest0
      case hy0=>(intro w;go_simp;try with_reducible rfl)
      refine wpAny_take (i:=2) (v:=?_) rfl (by kernel_rfl) (by kernel_rfl) (by kernel_rfl) (fun _ _ _ h=>h) (Or.inl ⟨by rfl,?hy2⟩) ?rest2
      case hy2=>(intro w;go_simp;try with_reducible rfl)
      refine wpAny_take (i:=3) (v:=?_) rfl (by kernel_rfl) (by kernel_rfl) (by kernel_rfl) (fun _ _ _ h=>h) (Or.inl ⟨by rfl,?hy3⟩) ?rest3
      case hy3=>(intro w;go_simp;try with_reducible rfl)
      refine wpAny_take (i:=4) (v:=?_) rfl (by kernel_rfl) (by kernel_rfl) (by kernel_rfl) (fun _ _ _ h=>h) (Or.inl ⟨by rfl,?hy4⟩) ?rest4
      case hy4=>(intro w;go_simp;try with_reducible rfl)
      refine wpAny_ready (rs:=[1,5]) (by kernel_rfl) (by simp) ?_
      refine AllReady.cons rfl (fun K hK=>?_) (AllReady.cons rfl (fun K hK=>?_) AllReady.nil)
      · go_simp
        refine hK _ _ ?_
        clear hK K
        refine wpAny_ready (rs:=[5]) (by kernel_rfl) (by simp) ?_
        refine AllReady.cons rfl (fun K hK=>?_) AllReady.nil
        go_simp
        go_at_call 117
        refine (IH.out d rfl B R r2 _ (by first | rfl | exact HW.out) hr2 wr.drew (RdrAt.keep Hrd3.out fun j hj=>rfl) (by simpa using hRwr)).mono ?_
        rw [HE.out]
        rintro e w9 ⟨rfl,hg9⟩
        go_wp2
        exact ⟨rfl,by rw [hn.out];exact And.intro rfl (z2a (z5f hg3) hg9 (.inl rfl))⟩
      · go_simp
        go_at_call 117
        refine (IH.out d rfl B R r2 _ (by first | rfl | exact HW.out) hr2 wr.drew (RdrAt.keep Hrd3.out fun j hj=>rfl) (by simpa using hRwr)).mono ?_
        rw [HE.out]
        rintro e w9 ⟨rfl,hg9⟩
        go_wp2
        exact ⟨rfl,by rw [hn.out];exact And.intro rfl (z2a (z5f hg3) hg9 (.inl rfl))⟩
     | some q =>
      obtain ⟨x,r3⟩:=q
      have HE:=hd_ hE;clear hE
      have hn:Hid (z3x (rdV d) (k + 1) r' = some (xs ++ [x],r3)):=y1u _ k _ _ _ _ _ Hrd.out HE.out
      have hw:IntKind.i64.wrap (16 - ((d:Int) + 1) + 1) = 16 - (d:Int):=by rw [IntKind.wrap_i64];omega
      have HW:=hd_ hw
      obtain ⟨x0,x1,x2,x3,xf⟩:=hbx
      go_wp2
      have hTwr:w.heap.size < wr.heap.size:=World.block_lt_of_cell? wr _ x0
      have ho0:=Hown.out.own_lt
      have hTo:some w.heap.size ≠ (Value.slice oa k cp).ownBlock:=fun e=>by have:=ho0 _ e.symm;omega
      have hO0:=hd_ ho0;clear ho0
      go_region_law (first
       | (go_simp;go_at_call 117;refine (IH.out d rfl B R r2 _ (by first | rfl | exact HW.out) hr2 wr.drew (RdrAt.keep Hrd3.out fun j hj=>rfl) (by simpa using hRwr)).mono ?_;rw [HE.out];rintro e w9 ⟨v9,rfl,hv9,hrd9,hg9'⟩
          have hg9:wr.grownBy w9 (some R):=z2a (z5f (z7b wr _)) hg9' (.inl rfl)
          have y0:w9.cell? ⟨w.heap.size,3,none⟩ = some (.slice oa k cp):=hg9.cell x3 (fun e=>by injection e with e;exact absurd e (by show w.heap.size ≠ R;omega))
          have hs9:=hg9.size
          have hTw9:w.heap.size < w9.heap.size:=by omega
          obtain ⟨z1,z2,z3,lx,rfl,z4⟩:=hv9
          have Z:=hd_ (And.intro z1 (And.intro z2 (And.intro z3 z4)))
          clear z1 z2 z3 z4 hg9')
       | (refine z3v (e:=80) (z:=.agg #[.int .i64 0,.int .i64 0,.string ⟨#[]⟩,.slice none 0 0]) (bytes:=56) Tryz.underlying78 (by kernel_rfl) rfl (by decide) rfl _ _ rfl (fun g=>w.heap.size < g∧some g ≠ (Value.slice oa k cp).ownBlock∧g < (w9.alloc (.cells #[.int .i64 x.kind,.int .i64 x.n,.string x.s,lx] 80)).heap.size) (w.heap.size + 1) (.slice oa k cp) xs rfl ?q1 _ x lx rfl ?q2 Z.out.2.2.2.one ?q3 ?q4 ?q5 ?q6 ?_
          case q1 =>
           refine ((Hown.out.kept hg9 (.inr fun e=>by have:=hO0.out R e;omega) (fun j hj e=>by injection e with e;have:=hj.1;omega) (fun j hj=>hj.2.2)).kept (row:=some R) (z8a (z7b w9 _) _) (.inr fun e=>by have:=hO0.out R e;omega) (fun j hj e=>by injection e with e;have:=hj.1;omega) (fun j hj=>by have:=hj.2.2;omega)).mono (fun j hj=>⟨hj.1,hj.2.1,by have:=hj.2.2;simp;omega⟩) (fun j hj=>hj.2.1)
          case q2=>exact ⟨Z.out.1,Z.out.2.1,Z.out.2.2.1,Z.out.2.2.2.keep (fun j hj=>⟨by have:wr.heap.size ≤ j:=hj.1;omega,fun e=>by have h1:=(hO0.out j e.symm).2;have h2:wr.heap.size ≤ j:=hj.1;omega,by have:=hj.2;simp;omega⟩) (fun j hj=>Below.heap_alloc w9 _ j hj.2)⟩
          case q3=>simp
          case q4=>(have:=Hxl.out;omega)
          case q5=>simp;omega
          case q6=>exact fun j hj=>hj.2.2
          intro v' w' ho hg hnx
          obtain ⟨oa2,cp2,rfl⟩:=ho.shape
          have hTb:=(hg.block w.heap.size (by simp;omega) hTo).trans (Below.heap_alloc w9 _ w.heap.size (by omega))
          have y3:w'.cell? ⟨w.heap.size,3,none⟩ = some (.slice oa k cp):=(cB (w:=w9) hTb).trans y0
          have yf:w'.frozen? ⟨w.heap.size,3,none⟩ = false:=(World.frozen?_of_block (w:=w9) hTb).trans ((World.frozen?_of_block (w:=wr) (hg9.block w.heap.size (by omega) (fun e=>by injection e with e;omega))).trans (xf 3))
          clear hTb
          have HO:=hd_ ho;clear ho))
      all_goals
       go_wp2
       go_roundw
       case rel =>
        have hll:(xs ++ [x]).length = xs.length + 1:=by simp
        have q:=y2u rfl hRw hlt Hxl.out hn.out (Nat.le_trans (Nat.le_of_lt (x5d d r2 x r3 HE.out)) hr2) Hbx.out hg3 hTwr hg9 hrd9 _ hO0.out HO.out hg
        rw [hll] at q
        exact q
       case measure=>simp [intOf];omega
theorem y3u (d:Nat) (B R:Nat) (di:Int) (w:World) (hr:RdrAt B w R []) (hRw:R < w.heap.size) :
 Calls Tryz.prog 117 #[.pointer (some ⟨R,0,none⟩),.int .i64 di] w (z4x B R (rdV d []) w):=by
 have HR:=hd_ hr;clear hr
 have hn:=hd_ (y0d d)
 go_enter Tryz.func117,Tryz.ntmps117
 go_wp2_with (go_at_call 169;refine (x8k B R [] 1 _ rfl _ (RdrAt.keep HR.out fun k hk=>Below.heap_alloc _ _ k (by omega)) (by simp) (by omega)).mono ?_;rintro e w' ⟨rfl,rfl⟩)
 exact ⟨rfl,by rw [hn.out];exact And.intro rfl (z8a (z7b w _) _)⟩
theorem y2d:∀ d,d ≤ 16→x6y d:=by
 intro d
 induction d with
 | zero =>
  intro hd B R l di hdi hl w hr hRw
  cases l with
  | nil=>exact y3u 0 B R di w hr hRw
  | cons c r =>
   by_cases h1:c = 1
   · subst h1;exact x9y 0 B R r di hl w hr hRw
   by_cases h2:c = 2
   · subst h2;exact x0z 0 B R r di hl w hr hRw
   by_cases h3:c = 3
   · subst h3;subst hdi;exact x6z 0 hd (fun d' h=>by omega) B R r hl w hr hRw
   · exact x1z 0 B R c r di hl w hr hRw h1 h2 h3
 | succ d ih =>
  intro hd B R l di hdi hl w hr hRw
  cases l with
  | nil=>exact y3u (d + 1) B R di w hr hRw
  | cons c r =>
   by_cases h1:c = 1
   · subst h1;exact x9y (d + 1) B R r di hl w hr hRw
   by_cases h2:c = 2
   · subst h2;exact x0z (d + 1) B R r di hl w hr hRw
   by_cases h3:c = 3
   · subst h3;subst hdi;exact x6z (d + 1) hd (fun d' h=>by
       obtain rfl:d = d':=by omega
       exact ih (by omega)) B R r hl w hr hRw
   · exact x1z (d + 1) B R c r di hl w hr hRw h1 h2 h3
theorem x8p (V E:Nat) (w:World) :
 CallsD Tryz.prog 116 #[.pointer (some ⟨V,0,none⟩),.pointer (some ⟨E,0,none⟩)] .returning w fun e u' w'=>e = .returned (.tuple #[])∧u' = .returning∧w' = w:=by
 refine callsD_of_wpS Tryz.func116 rfl fun c₀ cs hu=>?_
 apply wpS_seq
 apply wpS_region
 simp [wpOpsS,go_sem,recoverD,hu,Tryz.ntmps116,Exit.thenS]
 apply wpS_seq
 apply wpS_region
 simp [wpOpsS,go_sem,Exit.thenS]
 refine wpS_cond (t:=false) (by simp [Act.eval,Array.replicate]) ?_
 simp only [Bool.false_eq_true,if_false]
 refine wpS_of_wp (wp_skip ?_)
 cases c₀
 simp_all [bodyPostS,results,Tryz.results116]
theorem z5y (xT:TypeId) (v:Value) (w:World):(Instr.typeAssert (.iface 44 v) xT 44 false).run Tryz.prog w = .ok v w:=by kernel_rfl
def j3s (V E:Nat) (w w':World):Prop :=
 BoxAt w' V (.int .i64 0) (.int .i64 0) (.string ⟨#[]⟩) (.slice none 0 0)∧w'.cell? ⟨E,0,none⟩ = some (.int .i64 10)∧w'.frozen? ⟨E,0,none⟩ = false∧∀ (base:World) (G:Option Nat),base.grownBy w G→base.heap.size ≤ V→base.heap.size ≤ E→base.grownBy w' G
theorem k0i (V E:Nat) (a b c d x:Value) (w:World) (h:BoxAt w V a b c d) (he:w.cell? ⟨E,0,none⟩ = some x) (hz:w.frozen? ⟨E,0,none⟩ = false) (hne:V ≠ E) :
 j3s V E w (((((w.setCell ⟨V,0,none⟩ (.int .i64 0)).setCell ⟨V,1,none⟩ (.int .i64 0)).setCell ⟨V,2,none⟩ (.string ⟨#[]⟩)).setCell ⟨V,3,none⟩ (.slice none 0 0)).setCell ⟨E,0,none⟩ (.int .i64 10)).drew:=by
 obtain ⟨x0,x1,x2,x3,xf⟩:=h
 refine ⟨⟨?_,?_,?_,?_,?_⟩,?_,?_,?_⟩
 · simp [go_sem,x0]
 · simp [go_sem,x1]
 · simp [go_sem,x2]
 · simp [go_sem,x3]
 · intro o;simp [go_sem,xf]
 · simp [go_sem,he]
 · simp [go_sem,hz]
 · intro base G hg hV hE
   exact z5f (z1b (z1b (z1b (z1b (z1b hg hV) hV) hV) hV) hE)
theorem z4q (V E:Nat) (a b c d x:Value) (w:World) (h:BoxAt w V a b c d) (he:w.cell? ⟨E,0,none⟩ = some x) (hz:w.frozen? ⟨E,0,none⟩ = false) (hne:V ≠ E) :
 CallsD Tryz.prog 116 #[.pointer (some ⟨V,0,none⟩),.pointer (some ⟨E,0,none⟩)] (.panicking z8r) w fun e u' w' =>
  e = .returned (.tuple #[])∧u' = .panicking [{ v:=.iface 44 (.int .i64 10),recovered:=true }]∧j3s V E w w':=by
 have hfin:=hd_ (k0i V E a b c d x w h he hz hne)
 obtain ⟨x0,x1,x2,x3,xf⟩:=h
 unfold z8r
 have hta:=z5y
 have hVl:=World.block_lt_of_cell? w _ x0
 have hEl:=World.block_lt_of_cell? w _ he
 refine callsD_of_wpS Tryz.func116 rfl fun c₀ cs hu=>?_
 apply wpS_seq
 apply wpS_region
 simp [wpOpsS,go_sem,recoverD,hu,Tryz.ntmps116,Exit.thenS]
 apply wpS_seq
 apply wpS_region
 simp [wpOpsS,go_sem,Exit.thenS]
 refine wpS_cond (t:=true) (by simp [Act.eval,Array.replicate]) ?_
 simp only [if_true]
 refine wpS_of_wp ?_
 go_wp2
 go_region
 all_goals
  show bodyPostS _ _ _ _ _ _ _ _ _
  cases c₀
  simp only at hu
  subst hu
  simp [bodyPostS,results,Tryz.results116]
  try exact hfin.out
 all_goals trace_state
def x5a (l:List UInt8):Option V:=match rdV 16 l with | some (x,[])=>some x | _=>none
def y8m (o:Option V) (w:World) (e:Ending) (w':World):Prop :=
 match o with
 | some x=>∃ v,e = .returned (.tuple #[v,.int .i64 0])∧x0x (fun k=>w.heap.size ≤ k∧k < w'.heap.size) w' x v∧w.grownBy w' none
 | none=>e = .returned (.tuple #[.agg #[.int .i64 0,.int .i64 0,.string ⟨#[]⟩,.slice none 0 0],.int .i64 10])∧w.grownBy w' none
def y4u (w:World) (v:Value):World:=((w.alloc (.cells #[.int .i64 0,.int .i64 0,.string ⟨#[]⟩,.slice none 0 0] 80)).alloc (.cells #[.int .i64 0] 44)).alloc (.cells #[v] 141)
theorem y3d (w:World) (v:Value):(y4u w v).heap.size = w.heap.size + 1 + 1 + 1:=by simp [y4u]
theorem z0s (w:World) (v:Value) (G:Option Nat):w.grownBy (y4u w v) G:=z8a (z8a (z8a (z7b w G) _) _) _
theorem x7z (w:World) (v:Value) (t:TypeId):(w.alloc (.cells #[v] t)).cell? ⟨w.heap.size,0,none⟩ = some v:=by simp
theorem y9m {B:Nat} {l:List UInt8} {v:Value} {w:World} (hb:z9c B w l v) (hB:B ≤ w.heap.size):RdrAt w.heap.size (y4u w v) (w.heap.size + 1 + 1) l:=by
 refine ⟨by omega,?_,v,?_,?_⟩
 · exact World.frozen?_alloc_at _ _ _ _ (by simp)
 · have e:((w.alloc (.cells #[.int .i64 0,.int .i64 0,.string ⟨#[]⟩,.slice none 0 0] 80)).alloc (.cells #[.int .i64 0] 44)).heap.size = w.heap.size + 1 + 1:=by simp
   have h:=x7z ((w.alloc (.cells #[.int .i64 0,.int .i64 0,.string ⟨#[]⟩,.slice none 0 0] 80)).alloc (.cells #[.int .i64 0] 44)) v 141
   rw [e] at h;exact h
 · exact hb.keep hB fun k hk=>(z0s w v none).block k (by omega) (by simp)
theorem y0n (w:World) (v:Value):BoxAt (y4u w v) w.heap.size (.int .i64 0) (.int .i64 0) (.string ⟨#[]⟩) (.slice none 0 0):=by
 have h:=BoxAt.made w 80 (.int .i64 0) (.int .i64 0) (.string ⟨#[]⟩) (.slice none 0 0)
 exact h.grown (R:=w.heap.size + 1) (z8a (z8a (z7b _ _) _) _) (by omega)
theorem x8z (w:World) (v:Value):(y4u w v).cell? ⟨w.heap.size + 1,0,none⟩ = some (.int .i64 0)∧(y4u w v).frozen? ⟨w.heap.size + 1,0,none⟩ = false:=by
 have h:(y4u w v).heap[w.heap.size + 1]? = ((w.alloc (.cells #[.int .i64 0,.int .i64 0,.string ⟨#[]⟩,.slice none 0 0] 80)).alloc (.cells #[.int .i64 0] 44)).heap[w.heap.size + 1]?:=Below.heap_alloc _ _ _ (by simp)
 exact ⟨(cB (w:=_) h).trans (by simp),(World.frozen?_of_block (w:=_) h).trans (World.frozen?_alloc_at _ _ _ _ (by simp))⟩
theorem x6d {w:World} {V:Nat} {a b c d:Value} (h:BoxAt w V a b c d) (a' b' c' d':Value):BoxAt ((((w.setCell ⟨V,0,none⟩ a').setCell ⟨V,1,none⟩ b').setCell ⟨V,2,none⟩ c').setCell ⟨V,3,none⟩ d') V a' b' c' d':=by
 obtain ⟨x0,x1,x2,x3,xf⟩:=h
 refine ⟨?_,?_,?_,?_,?_⟩
 · simp [go_sem,x0]
 · simp [go_sem,x1]
 · simp [go_sem,x2]
 · simp [go_sem,x3]
 · intro o;simp [go_sem,xf]
theorem y0i.shape {D:Nat→Prop} {w:World} {l:List V} {lv:Value} (h:y0i D w l lv):∃ o n c,lv = .slice o n c:=by
 rcases h with ⟨_,oa,cap,rfl⟩ | ⟨_,c,o,cap,rfl,_⟩
 · exact ⟨_,_,_,rfl⟩
 · exact ⟨_,_,_,rfl⟩
theorem x7d (B:Nat) (l:List UInt8) (hl:l.length ≤ 1000000) (oa:Option Addr) (cap:Nat) (w:World) (hb:z9c B w l (.slice oa l.length cap)) (hB:B ≤ w.heap.size) (hN:rdV 16 l = none) :
 Calls Tryz.prog 55 #[.slice oa l.length cap] w (y8m none w):=by
 have hmf:∀ (fn:Fn) (first cap:Array Value) (w:World),(Instr.makeFunc fn first cap).run Tryz.prog w = .ok (.func fn first cap) w:=fun _ _ _ _=>rfl
 have HR:=hd_ (y9m hb hB)
 have hx:=hd_ (y0n w (.slice oa l.length cap))
 have hy:=hd_ (x8z w (.slice oa l.length cap))
 have hg0:=hd_ (z0s w (.slice oa l.length cap) none)
 have hsz:=hd_ (y3d w (.slice oa l.length cap))
 have HN:=hd_ hN;clear hN hb
 go_enter_defers Tryz.func55,Tryz.ntmps55
 go_wp2_with (go_at_call 117;refine (y2d 16 (by omega) w.heap.size (w.heap.size + 1 + 1) l 0 (by simp) hl (y4u w (.slice oa l.length cap)) HR.out (by rw [hsz.out];omega)).mono ?_;rw [HN.out];rintro e w9 ⟨rfl,hg9⟩)
 refine leaves_cons (f:=116) (args:=#[.pointer (some ⟨w.heap.size,0,none⟩),.pointer (some ⟨w.heap.size + 1,0,none⟩)]) (by simp) (by simp [go_sem]) ?_
 have hs0:=hsz.out
 have hy9:=hg9.block (w.heap.size + 1) (by omega) (fun e=>by injection e;omega)
 refine (z4q w.heap.size (w.heap.size + 1) _ _ _ _ (.int .i64 0) w9 (hx.out.grown hg9 (by omega)) ((cB (w:=y4u w _) hy9).trans hy.out.1) ((World.frozen?_of_block (w:=y4u w _) hy9).trans hy.out.2) (by omega)).mono ?_
 rintro e u' w'' ⟨rfl,rfl,hx2,hy2,_,hg2⟩
 have hgw:w.grownBy w'' none:=hg2 w none (z2a hg0.out hg9 (.inr fun g hg=>by injection hg;omega)) (by omega) (by omega)
 obtain ⟨x0,x1,x2,x3,_⟩:=hx2
 simp [Leaves,settle,results,Tryz.results55,go_sem,x0,x1,x2,x3,hy2]
 exact ⟨rfl,hgw⟩
theorem x8d (B:Nat) (l:List UInt8) (hl:l.length ≤ 1000000) (oa:Option Addr) (cap:Nat) (w:World) (hb:z9c B w l (.slice oa l.length cap)) (hB:B ≤ w.heap.size) (x:V) (r:List UInt8) (hN:rdV 16 l = some (x,r)) (hr:r ≠ []) :
 Calls Tryz.prog 55 #[.slice oa l.length cap] w (y8m none w):=by
 have hmf:∀ (fn:Fn) (first cap:Array Value) (w:World),(Instr.makeFunc fn first cap).run Tryz.prog w = .ok (.func fn first cap) w:=fun _ _ _ _=>rfl
 have HR:=hd_ (y9m hb hB)
 have hx:=hd_ (y0n w (.slice oa l.length cap))
 have hy:=hd_ (x8z w (.slice oa l.length cap))
 have hg0:=hd_ (z0s w (.slice oa l.length cap) none)
 have hsz:=hd_ (y3d w (.slice oa l.length cap))
 have HN:=hd_ hN;clear hN hb
 have hrl:((r.length:Int) == 0) = false:=by cases r <;> simp_all <;> omega
 have hbnd:(r.length:Int) ≤ 1000000:=by have:=x5d 16 l x r HN.out;omega
 clear hr
 go_enter_defers Tryz.func55,Tryz.ntmps55
 go_wp2_with (first
  | (go_at_call 117;refine (y2d 16 (by omega) w.heap.size (w.heap.size + 1 + 1) l 0 (by simp) hl (y4u w (.slice oa l.length cap)) HR.out (by rw [hsz.out];omega)).mono ?_;rw [HN.out];rintro e w9 ⟨v9,rfl,⟨z1,z2,z3,lx,rfl,z4⟩,hrd9,hg9⟩
     obtain ⟨xo,xn,xc,rfl⟩:=z4.shape
     have hs0:=hsz.out
     have hs9:=hg9.size
     have hx9:=hd_ (hx.out.grown hg9 (by omega))
     obtain ⟨x0,x1,x2,x3,xf⟩:=hx9.out
     have hy9:=hg9.block (w.heap.size + 1) (by omega) (fun e=>by injection e;omega)
     have e0:w9.cell? ⟨w.heap.size + 1,0,none⟩ = some (.int .i64 0):=(cB (w:=y4u w _) hy9).trans hy.out.1
     have ef:w9.frozen? ⟨w.heap.size + 1,0,none⟩ = false:=(World.frozen?_of_block (w:=y4u w _) hy9).trans hy.out.2
     obtain ⟨_,fR,vR,cR,bR⟩:=hrd9
     obtain ⟨oR,capR,rfl⟩:=bR.shape
     have Z:=hd_ (And.intro z1 (And.intro z2 (And.intro z3 z4)))
     clear hy9 bR z1 z2 z3 z4
     have hgw:=hd_ (z2a (G:=none) hg0.out hg9 (.inr fun g hg=>by injection hg;omega)))
  | (go_at_call 118;refine (z8k _ _).mono ?_;rintro e w' ⟨rfl,rfl⟩))
 refine leaves_cons (f:=116) (args:=#[.pointer (some ⟨w.heap.size,0,none⟩),.pointer (some ⟨w.heap.size + 1,0,none⟩)]) (by simp) (by simp [go_sem]) ?_
 refine (z4q w.heap.size (w.heap.size + 1) _ _ _ _ (.int .i64 0) _ (x6d hx9.out _ _ _ _) (by simp [go_sem,e0]) (by simp [go_sem,ef]) (by omega)).mono ?_
 rintro e u' w'' ⟨rfl,rfl,hx2,hy2,_,hg2⟩
 have hgw:w.grownBy w'' none:=hg2 w none (z1b (z1b (z1b (z1b hgw.out (lR _)) (lR _)) (lR _)) (lR _)) (by omega) (by omega)
 obtain ⟨y0,y1,y2,y3,_⟩:=hx2
 simp [Leaves,settle,results,Tryz.results55,go_sem,y0,y1,y2,y3,hy2]
 exact ⟨rfl,hgw⟩
def k1i (w9:World) (V E:Nat) (a b c d:Value):World :=
 ((((((((w9.setCell ⟨V,0,none⟩ a).setCell ⟨V,1,none⟩ b).setCell ⟨V,2,none⟩ c).setCell ⟨V,3,none⟩ d).setCell ⟨V,0,none⟩ a).setCell ⟨V,1,none⟩ b).setCell ⟨V,2,none⟩ c).setCell ⟨V,3,none⟩ d).setCell ⟨E,0,none⟩ (.int .i64 0)
structure FinS (w9:World) (V E:Nat) (a b c d:Value) (wf:World):Prop where
 c0:wf.cell? ⟨V,0,none⟩ = some a
 c1:wf.cell? ⟨V,1,none⟩ = some b
 c2:wf.cell? ⟨V,2,none⟩ = some c
 c3:wf.cell? ⟨V,3,none⟩ = some d
 e0:wf.cell? ⟨E,0,none⟩ = some (.int .i64 0)
 sz:wf.heap.size = w9.heap.size
 old:∀ k,k ≠ V→k ≠ E→wf.heap[k]? = w9.heap[k]?
 gr:∀ (base:World) (G:Option Nat),base.grownBy w9 G→base.heap.size ≤ V→base.heap.size ≤ E→base.grownBy wf G
theorem k9w (w9:World) (V E:Nat) (a b c d x y z u e:Value) (h:BoxAt w9 V x y z u) (he:w9.cell? ⟨E,0,none⟩ = some e) (hne:V ≠ E):FinS w9 V E a b c d (k1i w9 V E a b c d):=by
 have hb:=x6d (x6d h a b c d) a b c d
 have he2:((((((((w9.setCell ⟨V,0,none⟩ a).setCell ⟨V,1,none⟩ b).setCell ⟨V,2,none⟩ c).setCell ⟨V,3,none⟩ d).setCell ⟨V,0,none⟩ a).setCell ⟨V,1,none⟩ b).setCell ⟨V,2,none⟩ c).setCell ⟨V,3,none⟩ d).cell? ⟨E,0,none⟩ = some e:=by simp [go_sem,he]
 refine ⟨?_,?_,?_,?_,World.cell?_setCell_same' _ _ _ (by rw [he2];rfl),by simp [k1i,World.setCell],?_,?_⟩
 · exact (World.cell?_setCell_other _ _ _ _ (by simp)).trans hb.c0
 · exact (World.cell?_setCell_other _ _ _ _ (by simp)).trans hb.c1
 · exact (World.cell?_setCell_other _ _ _ _ (by simp)).trans hb.c2
 · exact (World.cell?_setCell_other _ _ _ _ (by simp)).trans hb.c3
 · intro k h1 h2
   unfold k1i
   rw [Below.heap_setCell _ _ _ _ (by exact h2),Below.heap_setCell _ _ _ _ (by exact h1),Below.heap_setCell _ _ _ _ (by exact h1),Below.heap_setCell _ _ _ _ (by exact h1),Below.heap_setCell _ _ _ _ (by exact h1),Below.heap_setCell _ _ _ _ (by exact h1),Below.heap_setCell _ _ _ _ (by exact h1),Below.heap_setCell _ _ _ _ (by exact h1),Below.heap_setCell _ _ _ _ (by exact h1)]
 · intro base G hg hV hE
   exact z1b (z1b (z1b (z1b (z1b (z1b (z1b (z1b (z1b hg hV) hV) hV) hV) hV) hV) hV) hV) hE
theorem x9d (B:Nat) (l:List UInt8) (hl:l.length ≤ 1000000) (oa:Option Addr) (cap:Nat) (w:World) (hb:z9c B w l (.slice oa l.length cap)) (hB:B ≤ w.heap.size) (x:V) (r:List UInt8) (hN:rdV 16 l = some (x,r)) (hr:r = []) :
 Calls Tryz.prog 55 #[.slice oa l.length cap] w (y8m (some x) w):=by
 have hmf:∀ (fn:Fn) (first cap:Array Value) (w:World),(Instr.makeFunc fn first cap).run Tryz.prog w = .ok (.func fn first cap) w:=fun _ _ _ _=>rfl
 have HR:=hd_ (y9m hb hB)
 have hx:=hd_ (y0n w (.slice oa l.length cap))
 have hy:=hd_ (x8z w (.slice oa l.length cap))
 have hg0:=hd_ (z0s w (.slice oa l.length cap) none)
 have hsz:=hd_ (y3d w (.slice oa l.length cap))
 have HN:=hd_ hN;clear hN hb
 have hrl:((r.length:Int) == 0) = true:=by cases r <;> simp_all <;> omega
 have hbnd:(r.length:Int) ≤ 1000000:=by have:=x5d 16 l x r HN.out;omega
 clear hr
 go_enter_defers Tryz.func55,Tryz.ntmps55
 go_wp2_with (first
  | (go_at_call 117;refine (y2d 16 (by omega) w.heap.size (w.heap.size + 1 + 1) l 0 (by simp) hl (y4u w (.slice oa l.length cap)) HR.out (by rw [hsz.out];omega)).mono ?_;rw [HN.out];rintro e w9 ⟨v9,rfl,⟨z1,z2,z3,lx,rfl,z4⟩,hrd9,hg9⟩
     obtain ⟨xo,xn,xc,rfl⟩:=z4.shape
     have hs0:=hsz.out
     have hs9:=hg9.size
     have hx9:=hd_ (hx.out.grown hg9 (by omega))
     obtain ⟨x0,x1,x2,x3,xf⟩:=hx9.out
     have hy9:=hg9.block (w.heap.size + 1) (by omega) (fun e=>by injection e;omega)
     have e0:w9.cell? ⟨w.heap.size + 1,0,none⟩ = some (.int .i64 0):=(cB (w:=y4u w _) hy9).trans hy.out.1
     have ef:w9.frozen? ⟨w.heap.size + 1,0,none⟩ = false:=(World.frozen?_of_block (w:=y4u w _) hy9).trans hy.out.2
     obtain ⟨_,fR,vR,cR,bR⟩:=hrd9
     obtain ⟨oR,capR,rfl⟩:=bR.shape
     have Z:=hd_ (And.intro z1 (And.intro z2 (And.intro z3 z4)))
     clear hy9 bR z1 z2 z3 z4
     have hgw:=hd_ (z2a (G:=none) hg0.out hg9 (.inr fun g hg=>by injection hg;omega)))
  | (go_at_call 118;refine (z5j _ _).mono ?_;rintro e w' ⟨rfl,rfl⟩))
 have hf:=k9w w9 w.heap.size (w.heap.size + 1) (.int .i64 x.kind) (.int .i64 x.n) (.string x.s) (.slice xo xn xc) _ _ _ _ _ hx9.out e0 (by omega)
 change bodyPostD _ _ _ _ _ (k1i w9 w.heap.size (w.heap.size + 1) (.int .i64 x.kind) (.int .i64 x.n) (.string x.s) (.slice xo xn xc))
 generalize k1i w9 w.heap.size (w.heap.size + 1) (.int .i64 x.kind) (.int .i64 x.n) (.string x.s) (.slice xo xn xc) = wf at hf ⊢
 obtain ⟨y0,y1,y2,y3,y4,ys,yo,yg⟩:=hf
 have YO:=hd_ yo;have YG:=hd_ yg;clear yo yg
 refine leaves_cons (f:=116) (args:=#[.pointer (some ⟨w.heap.size,0,none⟩),.pointer (some ⟨w.heap.size + 1,0,none⟩)]) (by simp) (by simp [go_sem]) ?_
 refine (x8p w.heap.size (w.heap.size + 1) wf).mono ?_
 rintro e u' w'' ⟨rfl,rfl,rfl⟩
 simp [Leaves,settle,results,Tryz.results55,go_sem,y0,y1,y2,y3,y4]
 refine ⟨_,rfl,⟨Z.out.1,Z.out.2.1,Z.out.2.2.1,_,rfl,Z.out.2.2.2.keep (fun k hk=>⟨by omega,by omega⟩) (fun k hk=>YO.out k (by omega) (by omega))⟩,YG.out w none hgw.out (lR _) (by omega)⟩
theorem y0j (B:Nat) (l:List UInt8) (hl:l.length ≤ 1000000) (v:Value) (w:World) (hb:z9c B w l v) (hB:B ≤ w.heap.size) :
 Calls Tryz.prog 55 #[v] w (y8m (x5a l) w):=by
 obtain ⟨oa,cap,rfl⟩:=hb.shape
 unfold x5a
 cases hN:rdV 16 l with
 | none=>exact x7d B l hl oa cap w hb hB hN
 | some p =>
  obtain ⟨x,r⟩:=p
  cases r with
  | nil=>exact x9d B l hl oa cap w hb hB x [] hN rfl
  | cons c r=>exact x8d B l hl oa cap w hb hB x (c :: r) hN (by simp)
theorem x9z (x:Nat) (h:x < 256):(y6r x).toNat = x:=by have:=y2l x;omega
theorem j4s (x:Nat):(y1l x).toNat = x % 128 + 128:=by have:=x4b x;omega
theorem y5u (k:Nat):(2:Nat) ^ (7 * (k + 1)) = 128 * 2 ^ (7 * k):=by rw [show 7 * (k + 1) = 7 + 7 * k from by omega,Nat.pow_add]
theorem y6u (u p:Nat):u % 128 * p + u / 128 * (128 * p) = u * p:=by
 have h:=Nat.mod_add_div u 128
 calc u % 128 * p + u / 128 * (128 * p) = u % 128 * p + 128 * (u / 128) * p:=by rw [← Nat.mul_assoc,Nat.mul_comm (u / 128) 128]
  _ = (u % 128 + 128 * (u / 128)) * p:=by rw [Nat.add_mul]
  _ = u * p:=by rw [h]
theorem x2l:∀ (f k u x:Nat) (r:List UInt8),f + k = 9→u < 128 ^ f * 2→(k = 0∨u ≠ 0)→z7f k x (y3b f u ++ r) = some (x + u * 2 ^ (7 * k),r)
 | 0,k,u,x,r,hk,hu,h0=>by
  have hu':u < 2:=by simpa using hu
  have hl:=x9z u (by omega)
  simp only [y3b,List.singleton_append]
  rw [z0w (by rw [hl];omega) (by omega),hl,Nat.mod_eq_of_lt (by omega)]
 | f + 1,k,u,x,r,hk,hu,h0=>by
  by_cases h:u < 128
  · have hl:=x9z u (by omega)
    rw [y3b,if_pos h]
    simp only [List.singleton_append]
    rw [z0w (by rw [hl];omega) (by omega),hl,Nat.mod_eq_of_lt (by omega)]
  · have hh:=j4s u
    rw [y3b,if_neg h,List.cons_append,y4m (by rw [hh];omega) (by omega),hh]
    rw [x2l f (k + 1) (u / 128) _ r (by omega) (by
     rw [Nat.pow_succ] at hu
     exact Nat.div_lt_of_lt_mul (by rw [← Nat.mul_assoc,Nat.mul_comm 128];exact hu)) (by omega)]
    congr 2
    rw [y5u,show (u % 128 + 128) % 128 = u % 128 from by omega,Nat.add_assoc,y6u]
theorem j0a (u:Nat) (hu:u < 18446744073709551616) (r:List UInt8):z7f 0 0 (num u ++ r) = some (u,r):=by
 have:=x2l 9 0 u 0 r rfl (by simpa using hu) (.inl rfl)
 simpa [num] using this
theorem y7u:∀ (f k x n:Nat) (l r:List UInt8),f + k = 9→z7f k x l = some (n,r)→∃ u,l = y3b f u ++ r∧n = x + u * 2 ^ (7 * k)∧(k = 0∨u ≠ 0)∧u < 128 ^ f * 2
 | f,k,x,n,[],r,hk,h=>by simp [z7f] at h
 | f,k,x,n,c :: t,r,hk,h=>by
  by_cases hg:(k = 0∨c.toNat ≠ 0)∧(k < 9∨c.toNat ≤ 1)
  case neg=>rw [y6t hg] at h;cases h
  have hlo:c.toNat < 256:=c.toNat_lt
  by_cases hc:c.toNat < 128
  · rw [z0w hg hc,Nat.mod_eq_of_lt hc] at h
    simp at h;obtain ⟨rfl,rfl⟩:=h
    have hcl:y6r c.toNat = c:=UInt8.toNat_inj.1 (x9z c.toNat hlo)
    refine ⟨c.toNat,?_,rfl,hg.1,?_⟩
    · cases f with
      | zero=>simp [y3b,hcl]
      | succ f=>rw [y3b,if_pos hc];simp [hcl]
    · have h1:1 ≤ 128 ^ f:=Nat.one_le_pow _ _ (by decide)
      cases f with
      | zero=>have:=hg.2;simp;omega
      | succ f =>
       have h2:1 ≤ 128 ^ f:=Nat.one_le_pow _ _ (by decide)
       rw [Nat.pow_succ];omega
  · cases f with
    | zero=>have:=hg.2;omega
    | succ f =>
     rw [y4m hg hc] at h
     obtain ⟨u,rfl,rfl,hu0,hul⟩:=y7u f (k + 1) _ n t r (by omega) h
     have hu1:u ≠ 0:=by omega
     have hd:(c.toNat % 128 + 128 * u) / 128 = u:=by omega
     have hm:(c.toNat % 128 + 128 * u) % 128 = c.toNat % 128:=by omega
     have hh:y1l (c.toNat % 128 + 128 * u) = c:=UInt8.toNat_inj.1 (by rw [j4s,hm];omega)
     refine ⟨c.toNat % 128 + 128 * u,?_,?_,.inr (by omega),?_⟩
     · rw [y3b,if_neg (by omega),hh,hd,List.cons_append]
     · have:=y6u (c.toNat % 128 + 128 * u) (2 ^ (7 * k))
       rw [hm,hd] at this
       rw [y5u,← this,Nat.add_assoc]
     · rw [Nat.pow_succ];omega
theorem j1a {n:Nat} {l r:List UInt8} (h:z7f 0 0 l = some (n,r)):l = num n ++ r∧n < 18446744073709551616:=by
 obtain ⟨u,h1,h2,_,h4⟩:=y7u 9 0 0 n l r rfl h
 have:n = u:=by simpa using h2
 subst this
 exact ⟨h1,by simpa using h4⟩
theorem j2a (n:Int) (h:I64 n):sgn (uns n) = n:=by unfold I64 at h;unfold sgn uns;split <;> split <;> omega
theorem j6x (u:Nat):uns (sgn u) = u:=by unfold sgn uns;split <;> split <;> omega
theorem x0e (u:Nat):1 ≤ (num u).length:=j2k 9 u
theorem y1n:∀ x:V,fm x = true→(∃ n,x = .mk 1 n ⟨#[]⟩ [])∨(∃ s,x = .mk 2 0 s [])∨(∃ l,x = .mk 3 0 ⟨#[]⟩ l∧fms l = true)
 | .mk k n s l,h=>by
  have he:∀ s:ByteArray,s.toList.isEmpty = true→s = ⟨#[]⟩:=fun s hs=>k7g (by rw [List.isEmpty_iff.1 hs,ByteArray.toList_eq])
  rw [fm] at h
  split at h
  · rename_i hk;subst hk
    simp only [Bool.and_eq_true] at h
    obtain rfl:=he s h.1
    obtain rfl:=List.isEmpty_iff.1 h.2
    exact .inl ⟨n,rfl⟩
  · split at h
    · rename_i hk;subst hk
      simp only [Bool.and_eq_true,beq_iff_eq] at h
      obtain ⟨rfl,h2⟩:=h
      obtain rfl:=List.isEmpty_iff.1 h2
      exact .inr (.inl ⟨s,rfl⟩)
    · split at h
      · rename_i hk;subst hk
        simp only [Bool.and_eq_true,beq_iff_eq] at h
        obtain ⟨⟨rfl,h2⟩,h3⟩:=h
        obtain rfl:=he s h2
        exact .inr (.inr ⟨l,rfl,h3⟩)
      · cases h
theorem y2n {x:V} {r:List V} (h:fms (x :: r) = true):fm x = true∧fms r = true:=by simpa [fms] using h
theorem j7m (N:Nat):(∀ x:V,sz x ≤ N→fm x = true→sz x ≤ 13 * (enc x).length∧2 ≤ (enc x).length):=by
 induction N with
 | zero=>intro x h;obtain ⟨k,n,s,l⟩:=x;simp [sz] at h
 | succ N ih =>
  intro x hN hf
  have hs:∀ l:List V,szs l ≤ N→fms l = true→szs l ≤ 13 * (z0n l).length∧l.length ≤ (z0n l).length:=by
   intro l
   induction l with
   | nil=>intro _ _;simp [szs]
   | cons y r ihr =>
    intro h1 h2
    obtain ⟨h3,h4⟩:=y2n h2
    simp only [szs] at h1 ⊢
    have:=ih y (by omega) h3
    have:=ihr (by omega) h4
    simp only [z0n,List.length_append,List.length_cons];omega
  rcases y1n x hf with ⟨n,rfl⟩ | ⟨s,rfl⟩ | ⟨l,rfl,hl⟩
  · have:=x0e (uns n)
    rw [x4o]
    simp [sz,szs]
    have h0:(⟨#[]⟩:ByteArray).size = 0:=rfl
    omega
  · have:=x0e s.size
    have h5:s.data.toList.length = s.size:=by simp
    rw [x5o]
    simp [sz,szs]
    omega
  · have:=x0e l.length
    have h0:(⟨#[]⟩:ByteArray).size = 0:=rfl
    simp only [sz] at hN
    have:=hs l (by omega) hl
    rw [x8w]
    simp [sz]
    omega
theorem j3a {x:V} (h:fm x = true):sz x ≤ 13 * (enc x).length∧2 ≤ (enc x).length:=j7m (sz x) x (lR _) h
theorem x3l:∀ l:List V,fms l = true→l.length ≤ (z0n l).length
 | [],_=>by simp
 | x :: r,h=>by
  obtain ⟨h1,h2⟩:=y2n h
  have:=(j3a h1).2;have:=x3l r h2
  simp only [z0n,List.length_append,List.length_cons];omega
theorem y4d {n:Nat} (h:n < 18446744073709551616) (r:List UInt8) (hr:n ≤ r.length):z2k (num n ++ r) = some (n,r):=by
 unfold z2k;rw [j0a n h];simp [hr]
theorem x4l (f:List UInt8→Option (V × List UInt8)) (l:List V) (r:List UInt8) (hf:∀ x ∈ l,∀ t,f (enc x ++ t) = some (x,t)):∀ k,k ≤ l.length→z3x f k (z0n l ++ r) = some (l.take k,z0n (l.drop k) ++ r)
 | 0,_=>by simp [z3x]
 | k + 1,hk=>by
  have h1:=x4l f l r hf k (by omega)
  have hd:l.drop k = l[k] :: l.drop (k + 1):=List.drop_eq_getElem_cons (by omega)
  rw [hd] at h1
  simp only [z0n,List.append_assoc] at h1
  rw [y1u f k _ _ _ _ _ h1 (hf l[k] (List.getElem_mem _) _)]
  congr 2
  rw [List.take_succ_eq_append_getElem (by omega)]
theorem j4a:∀ {l:List V} {x:V},x ∈ l→dp x ≤ dps l
 | y :: r,x,h=>by
  simp only [dps]
  rcases List.mem_cons.1 h with rfl | h
  · omega
  · have:=j4a h;omega
theorem j5a:∀ {l:List V} {x:V},fms l = true→x ∈ l→fm x = true
 | y :: r,x,hf,h=>by
  obtain ⟨h1,h2⟩:=y2n hf
  rcases List.mem_cons.1 h with rfl | h
  · exact h1
  · exact j5a h2 h
theorem j7x:∀ (d:Nat) (x:V),fm x = true→dp x ≤ d→okV x→∀ r,rdV d (enc x ++ r) = some (x,r):=by
 intro d
 induction d with
 | zero =>
  intro x hf hd hok r
  rcases y1n x hf with ⟨n,rfl⟩ | ⟨s,rfl⟩ | ⟨l,rfl,hl⟩
  · obtain ⟨_,hn,_⟩:=hok
    rw [x4o,List.append_assoc,List.singleton_append,x5p,j0a _ (x2j n hn)]
    show some (V.mk 1 (sgn (uns n)) ⟨#[]⟩ [],r) = _
    rw [j2a n hn]
  · obtain ⟨_,_,hs,_⟩:=hok
    unfold maxLen at hs
    rw [x5o,List.append_assoc,List.append_assoc,List.singleton_append,x6p,y4d (by omega) _ (by simp)]
    simp
  · rw [k6g] at hd;omega
 | succ d ih =>
  intro x hf hd hok r
  rcases y1n x hf with ⟨n,rfl⟩ | ⟨s,rfl⟩ | ⟨l,rfl,hl⟩
  · obtain ⟨_,hn,_⟩:=hok
    rw [x4o,List.append_assoc,List.singleton_append,x5p,j0a _ (x2j n hn)]
    show some (V.mk 1 (sgn (uns n)) ⟨#[]⟩ [],r) = _
    rw [j2a n hn]
  · obtain ⟨_,_,hs,_⟩:=hok
    unfold maxLen at hs
    rw [x5o,List.append_assoc,List.append_assoc,List.singleton_append,x6p,y4d (by omega) _ (by simp)]
    simp
  · obtain ⟨_,_,_,hll,hoks⟩:=hok
    unfold maxLen at hll
    rw [k6g] at hd
    rw [x8w,List.append_assoc,List.append_assoc,List.singleton_append,j6m,y4d (by omega) _ (by have:=x3l l hl;simp;omega)]
    have h1:=x4l (rdV d) l r (fun x hx t=>ih x (j5a hl hx) (by have:=j4a hx;omega) (j3k hoks hx) t) l.length (lR _)
    simp only [h1]
    simp [z0n]
theorem y8u {n:Nat} {l r:List UInt8} (h:z2k l = some (n,r)):l = num n ++ r∧n < 18446744073709551616∧n ≤ r.length:=by
 unfold z2k at h
 cases hN:z7f 0 0 l with
 | none=>rw [hN] at h;cases h
 | some p =>
  obtain ⟨m,t⟩:=p
  rw [hN] at h
  simp only at h
  split at h
  · rename_i hm
    simp at h;obtain ⟨rfl,rfl⟩:=h
    obtain ⟨h1,h2⟩:=j1a hN
    exact ⟨h1,h2,hm⟩
  · cases h
theorem x1e (a b:List V):z0n (a ++ b) = z0n a ++ z0n b:=by
 induction a with
 | nil=>simp [z0n]
 | cons x r ih=>simp [z0n,ih]
structure Rd1 (d:Nat) (l:List UInt8) (x:V) (r:List UInt8):Prop where
 eq:l = enc x ++ r
 fm:fm x = true
 dp:dp x ≤ d
 ok:l.length ≤ maxLen→okV x
theorem y1j (a:List V) (x:V):dps (a ++ [x]) = max (dps a) (dp x):=by
 induction a with
 | nil=>simp [dps]
 | cons y r ih=>simp only [List.cons_append,dps,ih];omega
theorem y2j (a:List V) (x:V):fms (a ++ [x]) = (fms a && Go.Proofs.YtdblnbnofjggnaaGreatDoor.fm x):=by
 induction a with
 | nil=>simp [fms]
 | cons y r ih=>simp only [List.cons_append,fms,ih,Bool.and_assoc]
theorem x2e (a:List V) (x:V) (h:z3h a) (hx:okV x):z3h (a ++ [x]):=by
 induction a with
 | nil=>exact ⟨hx,trivial⟩
 | cons y r ih=>exact ⟨h.1,ih h.2⟩
theorem y3j (d:Nat) (ih:∀ l x r,rdV d l = some (x,r)→Rd1 d l x r):∀ (n:Nat) (l:List UInt8) (xs:List V) (r:List UInt8),z3x (rdV d) n l = some (xs,r) →
 xs.length = n∧l = z0n xs ++ r∧fms xs = true∧dps xs ≤ d∧(l.length ≤ maxLen→z3h xs)
 | 0,l,xs,r,h=>by simp [z3x] at h;obtain ⟨rfl,rfl⟩:=h;simp [z0n,fms,dps,z3h]
 | n + 1,l,xs,r,h=>by
  simp only [z3x] at h
  cases hN:z3x (rdV d) n l with
  | none=>rw [hN] at h;cases h
  | some p =>
   obtain ⟨ys,t⟩:=p
   rw [hN] at h;simp only at h
   cases hM:rdV d t with
   | none=>rw [hM] at h;cases h
   | some q =>
    obtain ⟨y,t'⟩:=q
    rw [hM] at h;simp at h
    obtain ⟨rfl,rfl⟩:=h
    obtain ⟨h1,h2,h3,h4,h5⟩:=y3j d ih n l ys t hN
    obtain ⟨g1,g2,g3,g4⟩:=ih t y t' hM
    refine ⟨by simp [h1],?_,by rw [y2j,h3,g2];rfl,by rw [y1j];omega,fun hl=>x2e _ _ (h5 hl) (g4 ?_)⟩
    · rw [h2,g1,x1e];simp [z0n]
    · have:t.length ≤ l.length:=by rw [h2];simp
      omega
theorem x5l (d:Nat) (c:UInt8) (t:List UInt8) (x:V) (r:List UInt8) (h3:c ≠ 3) (h:rdV d (c :: t) = some (x,r)):Rd1 d (c :: t) x r:=by
 by_cases h1:c = 1
 · subst h1
   rw [x5p] at h
   cases hN:z7f 0 0 t with
   | none=>rw [hN] at h;cases h
   | some p =>
    obtain ⟨u,t'⟩:=p
    rw [hN] at h;simp at h
    obtain ⟨rfl,rfl⟩:=h
    obtain ⟨e1,e2⟩:=j1a hN
    refine ⟨?_,by simp [Go.Proofs.YtdblnbnofjggnaaGreatDoor.fm,ByteArray.toList_eq],by rw [k6v];omega,fun _=>⟨by unfold I64;omega,x8y u e2,Nat.zero_le _,Nat.zero_le _,trivial⟩⟩
    rw [x4o,j6x,e1];simp
 by_cases h2:c = 2
 · subst h2
   rw [x6p] at h
   cases hN:z2k t with
   | none=>rw [hN] at h;cases h
   | some p =>
    obtain ⟨n,t'⟩:=p
    rw [hN] at h;simp at h
    obtain ⟨rfl,rfl⟩:=h
    obtain ⟨e1,e2,e3⟩:=y8u hN
    have hsz:(⟨(t'.take n).toArray⟩:ByteArray).size = n:=by simp [ByteArray.size];omega
    refine ⟨?_,by simp [Go.Proofs.YtdblnbnofjggnaaGreatDoor.fm],by rw [k7v];omega,fun hl=>⟨by unfold I64;omega,by unfold I64;omega,?_,Nat.zero_le _,trivial⟩⟩
    · rw [x5o,hsz,e1];simp
    · rw [hsz];simp only [List.length_cons] at hl;rw [e1] at hl;simp at hl;omega
 · rw [y6m d c t h1 h2 h3] at h;cases h
theorem j6a:∀ (d:Nat) (l:List UInt8) (x:V) (r:List UInt8),rdV d l = some (x,r)→Rd1 d l x r:=by
 intro d
 induction d with
 | zero =>
  intro l x r h
  cases l with
  | nil=>rw [y0d] at h;cases h
  | cons c t =>
   by_cases h3:c = 3
   · subst h3;rw [x7y] at h;cases h
   · exact x5l 0 c t x r h3 h
 | succ d ih =>
  intro l x r h
  cases l with
  | nil=>rw [y0d] at h;cases h
  | cons c t =>
   by_cases h3:c = 3
   · subst h3
     rw [j6m] at h
     cases hN:z2k t with
     | none=>rw [hN] at h;cases h
     | some p =>
      obtain ⟨n,t'⟩:=p
      rw [hN] at h;simp only at h
      cases hM:z3x (rdV d) n t' with
      | none=>rw [hM] at h;cases h
      | some q =>
       obtain ⟨xs,t''⟩:=q
       rw [hM] at h;simp at h
       obtain ⟨rfl,rfl⟩:=h
       obtain ⟨e1,e2,e3⟩:=y8u hN
       obtain ⟨g1,g2,g3,g4,g5⟩:=y3j d ih n t' xs t'' hM
       have hlen:t'.length ≤ (3 :: t).length:=by rw [e1];simp;omega
       refine ⟨?_,by simp [Go.Proofs.YtdblnbnofjggnaaGreatDoor.fm,g3,ByteArray.toList_eq],by rw [k6g];omega,fun hl=>⟨by unfold I64;omega,by unfold I64;omega,Nat.zero_le _,by omega,g5 (by omega)⟩⟩
       rw [x8w,g1,e1,g2];simp
   · exact x5l (d + 1) c t x r h3 h
theorem k1r {x:V} (h:ck x = 0):fm x = true∧dp x ≤ 16:=by
 unfold ck at h
 by_cases hf:fm x = true
 · rw [if_pos hf] at h
   refine ⟨hf,?_⟩
   by_cases h16:16 < dp x
   · rw [if_pos h16] at h;cases h
   · omega
 · rw [if_neg hf] at h;cases h
theorem j8x {x:V} (h1:fm x = true) (h2:dp x ≤ 16):ck x = 0:=by unfold ck;rw [if_pos h1,if_neg (by omega)]
theorem y3n {x:V} (h:ck x = 0) (hok:okV x):x5a (enc x) = some x:=by
 obtain ⟨h1,h2⟩:=k1r h
 have:=j7x 16 x h1 h2 hok []
 rw [List.append_nil] at this
 unfold x5a;rw [this]
theorem y4j {l:List UInt8} {x:V} (h:x5a l = some x) (hl:l.length ≤ maxLen):enc x = l∧ck x = 0∧okV x∧sz x ≤ 13 * l.length:=by
 unfold x5a at h
 cases hN:rdV 16 l with
 | none=>rw [hN] at h;cases h
 | some p =>
  obtain ⟨y,r⟩:=p
  rw [hN] at h
  cases r with
  | cons c r=>cases h
  | nil =>
   simp at h;subst h
   obtain ⟨e,f,g,o⟩:=j6a 16 l y [] hN
   rw [List.append_nil] at e
   refine ⟨e.symm,j8x f g,o hl,?_⟩
   rw [e];exact (j3a f).1
theorem z0f {w w':World} (h:w.grownBy w' none):Below w.heap.size w w':=⟨h.os,h.tape,h.output,h.size,fun k hk=>h.block k hk (by simp)⟩
end Go.Proofs.YtdblnbnofjggnaaGreatDoor
