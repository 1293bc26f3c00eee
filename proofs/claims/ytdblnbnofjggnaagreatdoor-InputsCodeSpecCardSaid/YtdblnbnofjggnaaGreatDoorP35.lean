/- Parts of the proofs of chapter 49's laws. -/
import Derived.Test.YtdblnbnofjggnaaGreatDoorP24
import Derived.Deep.QuietTactic
import Derived.BigQuiet
import Derived.Shelf.Bits.Mul64
set_option maxHeartbeats 4000000
set_option maxRecDepth 100000
open Go.Lib renaming hid → hd_
open Nat renaming le_refl → lR
open Go.Value renaming int → I, slice → J, string → Y, pointer → F, agg → QQ
open Go.IntKind renaming i64 → X
open Go.Obj renaming cells → U
open Go.Ending renaming returned → QX
open Option renaming none → Q, some → G
open Bool renaming true → C, false → M
open Go renaming World → O, Calls → A, maxLen → QZ
set_option linter.all false
namespace Go.Proofs.YtdblnbnofjggnaaGreatDoor
open Go.Proofs.Tryz
open Go.RowKit
structure RefAt (B:Nat) (w:O) (R:Nat) (l:List UInt8) (p:Nat) (bad:Bool):Prop where
 le:B≤R
 fr:∀ o,w.frozen? ⟨R,o,Q⟩=M
 c0:∃ v,w.cell? ⟨R,0,Q⟩=G v∧z6c B w l v
 c1:w.cell? ⟨R,1,Q⟩=G (I X (p:Int))
 c2:w.cell? ⟨R,2,Q⟩=G (.bool bad)
 hp:p≤l.length
theorem RefAt.keep {B R p:Nat} {bad:Bool} {w w':O} {l:List UInt8} (h:RefAt B w R l p bad) (hs:∀ k,k≤R→w'.heap[k]? = w.heap[k]?):RefAt B w' R l p bad:=by
 obtain ⟨hle,hfr,⟨v,hv,hb⟩,h1,h2,h3⟩:=h
 have hc:∀ o,w'.cell? ⟨R,o,Q⟩=w.cell? ⟨R,o,Q⟩:=fun o=>World.cell?_of_block (w:=w) (hs R (lR _))
 exact ⟨hle,fun o=>by rw [World.frozen?_of_block (w:=w) (hs R (lR _))];exact hfr o,⟨v,(hc 0).trans hv,hb.keep (lR _) fun k hk=>hs k (by omega)⟩,(hc 1).trans h1,(hc 2).trans h2,h3⟩
theorem RefAt.set1 {B R p q:Nat} {bad:Bool} {w:O} {l:List UInt8} (h:RefAt B w R l p bad) (i:Int) (hi:i=(q:Int)) (hq:q≤l.length):RefAt B (w.setCell ⟨R,1,Q⟩ (I X i)) R l q bad:=by
 subst hi
 obtain ⟨hle,hfr,⟨v,hv,hb⟩,h1,h2,h3⟩:=h
 refine ⟨hle,fun o=>by rw [World.frozen?_setCell];exact hfr o,⟨v,?_,hb.keep (lR _) fun k hk=>Below.heap_setCell _ _ _ _ (by show k≠R;omega)⟩,World.cell?_setCell_same _ _ _ h1,?_,hq⟩
 ·rw [World.cell?_setCell_other _ _ _ _ (by simp)];exact hv
 ·rw [World.cell?_setCell_other _ _ _ _ (by simp)];exact h2
theorem RefAt.set2 {B R p:Nat} {bad:Bool} {w:O} {l:List UInt8} (h:RefAt B w R l p bad) (b:Bool):RefAt B (w.setCell ⟨R,2,Q⟩ (.bool b)) R l p b:=by
 obtain ⟨hle,hfr,⟨v,hv,hb⟩,h1,h2,h3⟩:=h
 refine ⟨hle,fun o=>by rw [World.frozen?_setCell];exact hfr o,⟨v,?_,hb.keep (lR _) fun k hk=>Below.heap_setCell _ _ _ _ (by show k≠R;omega)⟩,?_,World.cell?_setCell_same _ _ _ h2,h3⟩
 ·rw [World.cell?_setCell_other _ _ _ _ (by simp)];exact hv
 ·rw [World.cell?_setCell_other _ _ _ _ (by simp)];exact h1
theorem RefAt.drewN {B R p:Nat} {bad:Bool} {w:O} {l:List UInt8} (h:RefAt B w R l p bad) (n:Nat):RefAt B (w.drewN n) R l p bad:=h.keep fun _ _=>rfl
def x1p (B R:Nat) (l:List UInt8) (x:Int) (q:Nat) (bad:Bool) (w:O) (e:Ending) (w':O):Prop:=e=QX (I .u8 x)∧RefAt B w' R l q bad∧w.grownBy w' (G R)
theorem y8q (B R p:Nat) (bad:Bool) (l:List UInt8) (hl:l.length≤1000000) (w:O) (h:RefAt B w R l p bad) (hp:l.length≤p) :
 A prog 173 #[F (G ⟨R,0,Q⟩)] w (x1p B R l 0 p C w):=by
 have H:=hd_ h
 obtain ⟨_,hfr,⟨v,hv,hb⟩,h1,h2,h3⟩:=h
 obtain ⟨oa,cap,rfl,_,_⟩:=hb.form
 have f2:=hfr 2
 clear hb hfr
 have hge:(l.length:Int)≤(p:Int):=by omega
 have hpi:(p:Int)≤1000000:=by omega
 go_enter func173,ntmps173
 go_wp2
 go_quiet (fail)
 go_wp2
 go_ret
 exact ⟨rfl,(H.out.drewN _).set2 C,z8d (z4v _ _ _)⟩
theorem y6d (B R p:Nat) (bad:Bool) (c:UInt8) (l:List UInt8) (hl:l.length≤1000000) (w:O) (h:RefAt B w R l p bad) (hp:l[p]? = G c) :
 A prog 173 #[F (G ⟨R,0,Q⟩)] w (x1p B R l (c.toNat:Int) (p+1) bad w):=by
 have H:=hd_ h
 have hlt:p<l.length:=(List.getElem?_eq_some_iff.1 hp).1
 obtain ⟨hle,hfr,⟨v,hv,hb⟩,h1,h2,h3⟩:=h
 rcases hb with ⟨rfl,_⟩|⟨_,b,off,cap,rfl,cE,bY,mJ,hcell⟩
 ·simp at hlt
 have hc:=hcell p c hp
 have f1:=hfr 1
 have jL:R≠b:=by omega
 clear hcell hfr hp
 have hpl:(p:Int)<(l.length:Int):=by omega
 have hpi:(p:Int)≤1000000:=by omega
 go_enter func173,ntmps173
 go_wp2
 go_quiet (fail)
 go_wp2
 go_quiet (fail)
 go_wp2
 go_ret
 exact ⟨rfl,((H.out.drewN _).set1 _ (by omega) (by omega)).drewN _,z4d (z8d (z4v _ _ _)) _⟩
def j7s (B R:Nat) (l:List UInt8) (o:Option (Nat × List UInt8)) (w:O) (e:Ending) (w':O):Prop :=
 match o with
 | some (n,r)=>e=QX (I .u64 (n:Int))∧∃ q,l.drop q=r∧RefAt B w' R l q M∧w.grownBy w' (G R)
 | none=>e=QX (I .u64 0)∧∃ q,RefAt B w' R l q C∧w.grownBy w' (G R)
def k1e (B R:Nat) (l s:List UInt8) (w:O) (i u:Value) (wr:O):Prop :=
 ∃ (k x q:Nat),i=I X k∧u=I .u64 x∧k≤9∧x<2 ^ (7 * k)∧z9d 0 0 s=z9d k x (l.drop q)∧RefAt B wr R l q M∧w.grownBy wr (G R)
theorem j4g (x k:Nat) (c:UInt8) (hk:k≤9) (hx:x<2 ^ (7 * k)) (hc:k=9→c.toNat≤1) :
 IntKind.u64.wrap ((x:Int)+IntKind.u64.wrap ((c.toNat:Int) % 128 * 2 ^ (7 * k)))=((x+c.toNat % 128 * 2 ^ (7 * k):Nat):Int):=by
 have hm:c.toNat % 128<128:=Nat.mod_lt _ (by decide)
 have hb:x+c.toNat % 128 * 2 ^ (7 * k)<18446744073709551616:=by
  by_cases h9:k=9
  ·subst h9;have:=hc rfl;simp at hx ⊢;omega
  ·have h2:(2:Nat) ^ (7 * k)≤2 ^ 56:=Nat.pow_le_pow_right (by decide) (by omega)
   have h3:c.toNat % 128 * 2 ^ (7 * k)≤127 * 2 ^ 56:=Nat.mul_le_mul (by omega) h2
   omega
 have e2:(c.toNat:Int) % 128 * 2 ^ (7 * k)=((c.toNat % 128 * 2 ^ (7 * k):Nat):Int):=by push_cast;rfl
 rw [e2,Go.Proofs.Mul64.wrapN _ (by omega),Go.Proofs.Mul64.addN,Go.Proofs.Mul64.wrapN _ hb]
theorem x2p {l:List UInt8} {q:Nat} (h:l.length≤q):l.drop q=[]:=List.drop_of_length_le h
theorem y9z {l:List UInt8} {q:Nat} (h:q<l.length):l.drop q=l[q]::l.drop (q+1):=List.drop_eq_getElem_cons h
theorem z6g (B R p:Nat) (l:List UInt8) (hl:l.length≤1000000) (w:O) (h:RefAt B w R l p M) :
 A prog 174 #[F (G ⟨R,0,Q⟩)] w (j7s B R l (z9d 0 0 (l.drop p)) w):=by
 have H:=hd_ h;clear h
 go_enter func174,ntmps174
 go_wp2
 go_loopw [3,4] (fun u i wr=>k1e B R l (l.drop p) w i u wr) (fun _ i _=>10 - (intOf i).toNat)
 case atStart=>exact ⟨0,0,p,rfl,rfl,by omega,by simp,rfl,H.out,z1b _ _⟩
 case round =>
  obtain ⟨k,x,q,rfl,rfl,hk,hx,heq,bk,hg⟩:=hrel
  have jZ:=hd_ heq;have Hx:=hd_ hx;have eD:=hd_ bk
  have c2:=bk.c2
  clear heq hx bk
  by_cases hq:q<l.length
  case neg =>
   have hn:Hid (z9d 0 0 (l.drop p)=Q):=by show _=_;rw [jZ.out,x2p (by omega),z9d]
   by_cases hk0:k=0
   ·subst hk0
    have fX:x=0:=by have:=Hx.out;simpa using this
    subst fX
    go_wp2_with (go_at_call 173;refine (y8q B R q M l hl _ eD.out (by omega)).mono ?_;rintro e w' ⟨rfl,fD,kc⟩)
    go_ret
    rw [hn.out]
    exact ⟨rfl,q,fD,z2a hg kc (.inl rfl)⟩
   ·have hk1:(0:Int)<(k:Int):=by omega
    go_wp2_with (go_at_call 173;refine (y8q B R q M l hl _ eD.out (by omega)).mono ?_;rintro e w' ⟨rfl,fD,kc⟩;have og:=hd_ fD;have f2:=fD.fr 2;have d2:=fD.c2;clear fD)
    all_goals
     go_ret
     rw [hn.out]
     exact ⟨rfl,q,og.out.set2 C,z8d (z2a hg kc (.inl rfl))⟩
  case pos =>
   obtain ⟨c,hcq⟩:∃ c,l[q]? = G c:=⟨_,List.getElem?_eq_getElem hq⟩
   have aQ:l.drop q=c::l.drop (q+1):=by
    rw [y9z hq];congr 1
    have:=List.getElem?_eq_getElem hq;rw [hcq] at this;injection this with this;exact this.symm
   have Hcq:=hd_ hcq
   have Heq2:Hid (z9d 0 0 (l.drop p)=z9d k x (c::l.drop (q+1))):=by show _=_;rw [jZ.out,aQ]
   clear hcq aQ jZ
   obtain ⟨b0,e0⟩:∃ b,((k:Int) == 9)=b:=⟨_,rfl⟩
   obtain ⟨b1,e1⟩:∃ b,decide ((1:Int)<(c.toNat:Int))=b:=⟨_,rfl⟩
   obtain ⟨b2,e2⟩:∃ b,decide (0<k)=b:=⟨_,rfl⟩
   obtain ⟨b3,e3⟩:∃ b,((c.toNat:Int) == 0)=b:=⟨_,rfl⟩
   obtain ⟨b4,e4⟩:∃ b,decide ((c.toNat:Int)<128)=b:=⟨_,rfl⟩
   have E:=hd_ (And.intro e0 (And.intro e1 (And.intro e2 (And.intro e3 e4))))
   have hcond:Hid (((b0&&b1) || (b2&&b3))=M↔((k=0∨c.toNat≠0)∧(k<9∨c.toNat≤1))):=by
    show _↔_
    rw [← e0,← e1,← e2,← e3]
    simp;omega
   by_cases hgood:((b0&&b1) || (b2&&b3))=M
   case neg =>
    have hn:Hid (z9d 0 0 (l.drop p)=Q):=by show _=_;rw [Heq2.out];exact y3g fun h=>hgood (hcond.out.2 h)
    have hgf:((b0&&b1) || (b2&&b3))=C:=eq_true_of_ne_false hgood
    clear hgood hcond
    have HG:=hd_ hgf;clear hgf
    cases b0 <;> cases b1 <;> cases b2 <;> cases b3
    all_goals first|(exfalso;exact absurd HG.out (by decide))|skip
    all_goals
     go_wp2_with (go_at_call 173;refine (y6d B R q M c l hl _ eD.out Hcq.out).mono ?_;rintro e w' ⟨rfl,fD,kc⟩;have og:=hd_ fD;have f2:=fD.fr 2;have d2:=fD.c2;clear fD)
    all_goals
     go_ret
     rw [hn.out]
     exact ⟨rfl,q+1,og.out.set2 C,z8d (z2a hg kc (.inl rfl))⟩
   case pos =>
    have hgd:=hcond.out.1 hgood
    have lS:=hd_ hgd
    have HG:=hd_ hgood;clear hgood hgd hcond
    cases b4
    ·have dU:Hid (¬ c.toNat<128):=by have:=E.out.2.2.2.2;simp at this;show ¬ _;omega
     have hk9:k<9:=by
      have h1:=lS.out.2;have h2:=dU.out;omega
     have hor:=hd_ (j4g x k c hk Hx.out (by omega))
     have hon:=hd_ (y4d (x:=x) (r:=l.drop (q+1)) lS.out dU.out)
     cases b0 <;> cases b1 <;> cases b2 <;> cases b3
     all_goals first|(exfalso;exact absurd HG.out (by decide))|skip
     all_goals
      go_wp2_with (go_at_call 173;refine (y6d B R q M c l hl _ eD.out Hcq.out).mono ?_;rintro e w' ⟨rfl,fD,kc⟩;have og:=hd_ fD;have f2:=fD.fr 2;have d2:=fD.c2;clear fD)
      go_roundw
      case rel =>
       refine ⟨k+1,x+c.toNat % 128 * 2 ^ (7 * k),q+1,by go_num,by rw [hor.out],by omega,?_,by rw [Heq2.out,hon.out],og.out,z2a hg kc (.inl rfl)⟩
       have h1:c.toNat % 128 * 2 ^ (7 * k)≤127 * 2 ^ (7 * k):=Nat.mul_le_mul_right _ (by omega)
       have h2:(2:Nat) ^ (7 * (k+1))=128 * 2 ^ (7 * k):=by rw [show 7 * (k+1)=7+7 * k from by omega,Nat.pow_add]
       have h3:=Hx.out
       omega
      case measure=>simp [intOf];omega
    ·have dU:Hid (c.toNat<128):=by have:=E.out.2.2.2.2;simp at this;show _<_;omega
     have hor:=hd_ (j4g x k c hk Hx.out (fun h=>by have:=lS.out.2;omega))
     have hen:=hd_ (z8r (x:=x) (r:=l.drop (q+1)) lS.out dU.out)
     cases b0 <;> cases b1 <;> cases b2 <;> cases b3
     all_goals first|(exfalso;exact absurd HG.out (by decide))|skip
     all_goals
      go_wp2_with (go_at_call 173;refine (y6d B R q M c l hl _ eD.out Hcq.out).mono ?_;rintro e w' ⟨rfl,fD,kc⟩;have og:=hd_ fD;have f2:=fD.fr 2;have d2:=fD.c2;clear fD)
      go_ret
      rw [Heq2.out,hen.out]
      exact ⟨by rw [← hor.out];rfl,q+1,rfl,og.out,z2a hg kc (.inl rfl)⟩
theorem RefAt.setT {B R p T i:Nat} {bad:Bool} {w:O} {l:List UInt8} {v:Value} (h:RefAt B w R l p bad) (hT:R<T):RefAt B (w.setCell ⟨T,i,Q⟩ v) R l p bad :=
 h.keep fun k hk=>Below.heap_setCell _ _ _ _ (by show k≠T;omega)
theorem RefAt.alloc {B R p:Nat} {bad:Bool} {w:O} {l:List UInt8} (h:RefAt B w R l p bad) (hR:R<w.heap.size) (o:Obj):RefAt B (w.alloc o) R l p bad :=
 h.keep fun k hk=>Below.heap_alloc w o k (by omega)
def z9g (B R:Nat) (l:List UInt8) (o:Option (V × List UInt8)) (w:O) (e:Ending) (w':O):Prop :=
 ∃ x v q bad,e=QX v∧x2f (fun k=>w.heap.size≤k∧k<w'.heap.size) w' x v∧RefAt B w' R l q bad∧w.grownBy w' (G R) ∧
  (match o with|some (y,r)=>x=y∧bad=M∧l.drop q=r|none=>bad=C)
def x3p (d:Nat):Prop:=∀ (B R p:Nat) (l:List UInt8) (di:Int) (_:di=16 - (d:Int)) (_:l.length≤1000000) (w:O) (_:RefAt B w R l p M) (_:R<w.heap.size),
 A prog 120 #[F (G ⟨R,0,Q⟩),I X di] w (z9g B R l (rdV d (l.drop p)) w)
theorem y9q (D:Nat→Prop) (w:O) (k n:Int) (s:ByteArray) (h1:I64 k) (h2:I64 n) (h3:s.size≤QZ):x2f D w (.mk k n s []) (QQ #[I X k,I X n,Y s,J Q 0 0]) :=
 ⟨h1,h2,h3,_,rfl,.inl ⟨rfl,Q,0,rfl⟩⟩
theorem j5g:I64 0:=by unfold I64;omega
theorem z6m {B R q:Nat} {l:List UInt8} {o:Option (V × List UInt8)} {w w':O} (ho:o=Q) (hr:RefAt B w' R l q C) (hg:w.grownBy w' (G R)) :
 z9g B R l o w (.returned (QQ #[I X 0,I X 0,Y ⟨#[]⟩,J Q 0 0])) w':=by
 subst ho
 exact ⟨.mk 0 0 ⟨#[]⟩ [],_,q,C,rfl,y9q _ _ _ _ _ j5g j5g (Nat.zero_le _),hr,hg,rfl⟩
theorem y9m (d:Nat) (B R p:Nat) (l:List UInt8) (di:Int) (hl:l.length≤1000000) (w:O) (h:RefAt B w R l p M) (aE:R<w.heap.size) (hp:l.length≤p) :
 A prog 120 #[F (G ⟨R,0,Q⟩),I X di] w (z9g B R l (rdV d (l.drop p)) w):=by
 have H:=hd_ h;clear h
 have hn:Hid (rdV d (l.drop p)=Q):=by show _=_;rw [x2p hp,y0a]
 go_enter func120,ntmps120
 go_wp2_with fail
 refine (y8q B R p M l hl _ (H.out.alloc aE _) hp).mono ?_
 rintro e w1 ⟨rfl,hr1,aK⟩
 have hbx:=(BoxAt.made w 80 (I X 0) (I X 0) (Y ⟨#[]⟩) (J Q 0 0)).grown aK (by omega)
 obtain ⟨x0,x1,x2,x3,xf⟩:=hbx
 have bB:w.grownBy w1 (G R):=z2a (z4a (z1b w _) _) aK (.inl rfl)
 have f2:=hr1.fr 2;have r2:=hr1.c2
 have jv:R≠w.heap.size:=by omega
 have mL:=hd_ (hr1.set2 C)
 clear hr1 aK
 go_wp2
 refine bodyPost_ret (v:=QQ #[I X 0,I X 0,Y ⟨#[]⟩,J Q 0 0]) (by simp [results,results120,go_sem,x0,x1,x2,x3]) rfl ?_
 exact z6m (q:=p) hn.out (by repeat (first|exact mL.out|refine RefAt.setT ?_ aE)) (by repeat (first|exact z8d bB|refine z5a ?_ (lR _)))
structure RHead (B R p:Nat) (l:List UInt8) (w w1:O):Prop where
 bx:BoxAt w1 w.heap.size (I X 0) (I X 0) (Y ⟨#[]⟩) (J Q 0 0)
 gw:w.grownBy w1 (G R)
 rd:RefAt B w1 R l (p+1) M
theorem y9j (B R p:Nat) (c:UInt8) (l:List UInt8) (hl:l.length≤1000000) (w:O) (h:RefAt B w R l p M) (aE:R<w.heap.size) (hp:l[p]? = G c) :
 A prog 173 #[F (G ⟨R,0,Q⟩)] (w.alloc (U #[I X 0,I X 0,Y ⟨#[]⟩,J Q 0 0] 80)) fun e w1=>e=QX (I .u8 (c.toNat:Int))∧RHead B R p l w w1:=by
 refine (y6d B R p M c l hl _ (h.alloc aE _) hp).mono ?_
 rintro e w1 ⟨rfl,hr1,aK⟩
 exact ⟨rfl,(BoxAt.made w 80 (I X 0) (I X 0) (Y ⟨#[]⟩) (J Q 0 0)).grown aK (by omega),z2a (z4a (z1b w _) _) aK (.inl rfl),hr1⟩
theorem z7m {l:List UInt8} {p:Nat} {c:UInt8} (hp:l[p]? = G c):l.drop p=c::l.drop (p+1):=by
 have hlt:=(List.getElem?_eq_some_iff.1 hp)
 obtain ⟨h1,h2⟩:=hlt
 rw [y9z h1,h2]
theorem x4p (d:Nat) (B R p:Nat) (c:UInt8) (l:List UInt8) (di:Int) (hl:l.length≤1000000) (w:O) (h:RefAt B w R l p M) (aE:R<w.heap.size) (hp:l[p]? = G c) (h1:c≠1) (h2:c≠2) (h3:c≠3) :
 A prog 120 #[F (G ⟨R,0,Q⟩),I X di] w (z9g B R l (rdV d (l.drop p)) w):=by
 have H:=hd_ h;clear h
 have hn:Hid (rdV d (l.drop p)=Q):=by show _=_;rw [z7m hp,y4g d c _ h1 h2 h3]
 have n1:((c.toNat:Int) == 1)=M:=by rw [beq_eq_false_iff_ne];intro h;exact h1 (UInt8.toNat_inj.1 (by simpa using (by omega:c.toNat=1)))
 have n2:((c.toNat:Int) == 2)=M:=by rw [beq_eq_false_iff_ne];intro h;exact h2 (UInt8.toNat_inj.1 (by simpa using (by omega:c.toNat=2)))
 have n3:((c.toNat:Int) == 3)=M:=by rw [beq_eq_false_iff_ne];intro h;exact h3 (UInt8.toNat_inj.1 (by simpa using (by omega:c.toNat=3)))
 have Hp:=hd_ hp
 clear h1 h2 h3 hp
 go_enter func120,ntmps120
 go_wp2_with fail
 refine (y9j B R p c l hl w H.out aE Hp.out).mono ?_
 rintro e w1 ⟨rfl,hh⟩
 obtain ⟨⟨x0,x1,x2,x3,xf⟩,bB,hr1⟩:=hh
 have f2:=hr1.fr 2;have r2:=hr1.c2
 have jv:R≠w.heap.size:=by omega
 have mL:=hd_ (hr1.set2 C)
 clear hr1
 go_wp2
 refine bodyPost_ret (v:=QQ #[I X 0,I X 0,Y ⟨#[]⟩,J Q 0 0]) (by simp [results,results120,go_sem,x0,x1,x2,x3]) rfl ?_
 exact z6m (q:=p+1) hn.out (by repeat (first|exact mL.out|refine RefAt.setT ?_ aE)) (by repeat (first|exact z8d bB|refine z5a ?_ (lR _)))
theorem y0r {B R q:Nat} {bad:Bool} {l:List UInt8} {o:Option (V × List UInt8)} {w w':O} (n:Int) (hn:I64 n) (hr:RefAt B w' R l q bad) (hg:w.grownBy w' (G R))
 (ho:match o with|some (y,r)=>V.mk 1 n ⟨#[]⟩ []=y∧bad=M∧l.drop q=r|none=>bad=C) :
 z9g B R l o w (.returned (QQ #[I X 1,I X n,Y ⟨#[]⟩,J Q 0 0])) w' :=
 ⟨.mk 1 n ⟨#[]⟩ [],_,q,bad,rfl,y9q _ _ _ _ _ (by unfold I64;omega) hn (Nat.zero_le _),hr,hg,ho⟩
theorem RHead.num {B R p:Nat} {l:List UInt8} {w w1 w2:O} (h:RHead B R p l w w1) (aE:R<w.heap.size) (hg:w1.grownBy w2 (G R)) :
 BoxAt w2 w.heap.size (I X 0) (I X 0) (Y ⟨#[]⟩) (J Q 0 0)∧w.grownBy w2 (G R) :=
 ⟨h.bx.grown hg (by omega),z2a h.gw hg (.inl rfl)⟩
theorem x5p (d:Nat) (B R p:Nat) (l:List UInt8) (di:Int) (hl:l.length≤1000000) (w:O) (h:RefAt B w R l p M) (aE:R<w.heap.size) (hp:l[p]? = G 1) :
 A prog 120 #[F (G ⟨R,0,Q⟩),I X di] w (z9g B R l (rdV d (l.drop p)) w):=by
 have H:=hd_ h;clear h
 have Hp:=hd_ hp;clear hp
 have hv:=hd_ (x6g d (l.drop (p+1)))
 cases hN:z9d 0 0 (l.drop (p+1)) with
 | none =>
  have hn:Hid (rdV d (l.drop p)=Q):=by show _=_;rw [z7m Hp.out,hv.out,hN]
  have HN:=hd_ hN;clear hN
  go_enter func120,ntmps120
  go_wp2_with fail
  refine (y9j B R p 1 l hl w H.out aE Hp.out).mono ?_
  rintro e w1 ⟨rfl,hh⟩
  go_wp2_with fail
  refine (z6g B R (p+1) l hl _ hh.rd).mono ?_
  rw [HN.out]
  rintro e w2 ⟨rfl,q,hr2,al⟩
  obtain ⟨⟨x0,x1,x2,x3,xf⟩,bB⟩:=hh.num aE al
  have HH:=hd_ hh;have dm:=hd_ hr2
  clear hh hr2 al
  go_wp2
  refine bodyPost_ret (v:=QQ #[I X 1,I X 0,Y ⟨#[]⟩,J Q 0 0]) (by simp [results,results120,go_sem,x0,x1,x2,x3]) rfl ?_
  exact y0r (q:=q) (bad:=C) 0 j5g (by repeat (first|exact dm.out|refine RefAt.setT ?_ aE)) (by repeat (first|exact bB|refine z5a ?_ (lR _))) (by rw [hn.out])
 | some pr =>
  obtain ⟨u,r'⟩:=pr
  have hn:Hid (rdV d (l.drop p)=G (.mk 1 (sgn u) ⟨#[]⟩ [],r')):=by show _=_;rw [z7m Hp.out,hv.out,hN]
  have hu64:=hd_ (z9k _ 0 0 u r' (by decide) (by simp) hN)
  have hI:=hd_ (x8g u hu64.out)
  have HN:=hd_ hN;clear hN
  go_enter func120,ntmps120
  go_wp2_with fail
  refine (y9j B R p 1 l hl w H.out aE Hp.out).mono ?_
  rintro e w1 ⟨rfl,hh⟩
  go_wp2_with fail
  refine (z6g B R (p+1) l hl _ hh.rd).mono ?_
  rw [HN.out]
  rintro e w2 ⟨rfl,q,hq,hr2,al⟩
  obtain ⟨⟨x0,x1,x2,x3,xf⟩,bB⟩:=hh.num aE al
  have HH:=hd_ hh;have dm:=hd_ hr2;have Hq:=hd_ hq
  clear hh hr2 al hq
  obtain ⟨m,hm⟩:∃ m,u / 2=m:=⟨_,rfl⟩
  have hml:m<9223372036854775808:=by have:=hu64.out;omega
  have e2:IntKind.u64.wrap ((u:Int) / 2)=(m:Int):=by rw [IntKind.wrap_u64];omega
  have e3:wrap64 (m:Int)=(m:Int):=by unfold wrap64;omega
  by_cases hpar:u % 2=1
  ·have e1:((u:Int) % 2 == 1)=C:=by rw [beq_iff_eq];omega
   have e4:wrap64 (-(m:Int)) = -(m:Int):=by unfold wrap64;omega
   obtain ⟨z,hz⟩:∃ z,sgn u=z:=⟨_,rfl⟩
   have e5:wrap64 (-(m:Int) - 1)=z:=by rw [← hz];unfold wrap64 sgn;rw [if_neg (by omega)];omega
   rw [hz] at hI hn
   clear hpar hm hml hz
   go_wp2
   refine bodyPost_ret (v:=QQ #[I X 1,I X z,Y ⟨#[]⟩,J Q 0 0]) (by simp [results,results120,go_sem,x0,x1,x2,x3]) rfl ?_
   exact y0r (q:=q) (bad:=false) z hI.out (by repeat (first|exact dm.out|refine RefAt.setT ?_ aE)) (by repeat (first|exact bB|refine z5a ?_ (lR _))) (by rw [hn.out];exact ⟨rfl,rfl,Hq.out⟩)
  ·have e1:((u:Int) % 2 == 1)=M:=by rw [beq_eq_false_iff_ne];omega
   have hz:sgn u=(m:Int):=by unfold sgn;rw [if_pos (by omega),hm]
   rw [hz] at hI hn
   clear hpar hm hml hz
   go_wp2
   refine bodyPost_ret (v:=QQ #[I X 1,I X m,Y ⟨#[]⟩,J Q 0 0]) (by simp [results,results120,go_sem,x0,x1,x2,x3]) rfl ?_
   exact y0r (q:=q) (bad:=false) m hI.out (by repeat (first|exact dm.out|refine RefAt.setT ?_ aE)) (by repeat (first|exact bB|refine z5a ?_ (lR _))) (by rw [hn.out];exact ⟨rfl,rfl,Hq.out⟩)
theorem j6g (d:Nat) (B R p:Nat) (l:List UInt8) (di:Int) (hl:l.length≤1000000) (w:O) (h:RefAt B w R l p M) (aE:R<w.heap.size) (hp:l[p]? = G 2) (hN:z9d 0 0 (l.drop (p+1))=Q) :
 A prog 120 #[F (G ⟨R,0,Q⟩),I X di] w (z9g B R l (rdV d (l.drop p)) w):=by
 have H:=hd_ h;clear h
 have Hp:=hd_ hp;clear hp
 have hv:=hd_ (y2p d (l.drop (p+1)))
 have hn:Hid (rdV d (l.drop p)=Q):=by show _=_;rw [z7m Hp.out,hv.out];unfold z8h;rw [hN]
 have HN:=hd_ hN;clear hN
 go_enter func120,ntmps120
 go_wp2_with fail
 refine (y9j B R p 2 l hl w H.out aE Hp.out).mono ?_
 rintro e w1 ⟨rfl,hh⟩
 go_wp2_with fail
 refine (z6g B R (p+1) l hl _ hh.rd).mono ?_
 rw [HN.out]
 rintro e w2 ⟨rfl,q,hr2,al⟩
 obtain ⟨⟨x0,x1,x2,x3,xf⟩,bB⟩:=hh.num aE al
 have f2:=hr2.fr 2;have r2:=hr2.c2
 have jv:R≠w.heap.size:=by omega
 have HH:=hd_ hh;have dm:=hd_ hr2
 clear hh hr2 al
 go_wp2
 go_quiet (fail)
 go_wp2
 refine bodyPost_ret (v:=QQ #[I X 0,I X 0,Y ⟨#[]⟩,J Q 0 0]) (by simp [results,results120,go_sem,x0,x1,x2,x3]) rfl ?_
 exact z6m (q:=q) hn.out (by repeat (first|exact (dm.out.drewN _).set2 C|refine RefAt.setT ?_ aE)) (by repeat (first|exact z8d (z4d bB _)|refine z5a ?_ (lR _)))
theorem j7g (d:Nat) (B R p:Nat) (l:List UInt8) (di:Int) (hl:l.length≤1000000) (w:O) (h:RefAt B w R l p M) (aE:R<w.heap.size) (hp:l[p]? = G 2) (n:Nat) (r':List UInt8) (hN:z9d 0 0 (l.drop (p+1))=G (n,r')) (hnr:¬ n≤r'.length) :
 A prog 120 #[F (G ⟨R,0,Q⟩),I X di] w (z9g B R l (rdV d (l.drop p)) w):=by
 have H:=hd_ h;clear h
 have Hp:=hd_ hp;clear hp
 have hv:=hd_ (y2p d (l.drop (p+1)))
 have gG:=hd_ (z9k _ 0 0 n r' (by decide) (by simp) hN)
 have hlr:=z9h _ 0 0 _ _ hN
 have hlp:(l.drop (p+1)).length≤1000000:=by simp;omega
 have HN:=hd_ hN;clear hN
 have hn:Hid (rdV d (l.drop p)=Q):=by show _=_;rw [z7m Hp.out,hv.out];unfold z8h;rw [HN.out];simp only;rw [if_neg hnr]
 have kT:=hd_ hnr
 have Hlr:=hd_ hlr;have Hlp:=hd_ hlp
 clear hnr hlr hlp
 go_enter func120,ntmps120
 go_wp2_with fail
 refine (y9j B R p 2 l hl w H.out aE Hp.out).mono ?_
 rintro e w1 ⟨rfl,hh⟩
 go_wp2_with fail
 refine (z6g B R (p+1) l hl _ hh.rd).mono ?_
 rw [HN.out]
 rintro e w2 ⟨rfl,q,hq,hr2,al⟩
 obtain ⟨⟨x0,x1,x2,x3,xf⟩,bB⟩:=hh.num aE al
 have f2:=hr2.fr 2;have r2:=hr2.c2;have r1:=hr2.c1
 obtain ⟨v,r0,hb⟩:=hr2.c0
 obtain ⟨oa,cap,rfl,_,_⟩:=hb.form
 have jv:R≠w.heap.size:=by omega
 have hql:=hr2.hp
 have hm:l.length - q=r'.length:=by rw [← hq];simp
 obtain ⟨m,hmm⟩:∃ m,r'.length=m:=⟨_,rfl⟩
 have e1:wrap64 ((l.length:Int) - (q:Int))=(m:Int):=by unfold wrap64;omega
 have e2:IntKind.u64.wrap (m:Int)=(m:Int):=by rw [IntKind.wrap_u64];omega
 have t1:decide (m<n)=C:=decide_eq_true (by have:=kT.out;omega)
 have HH:=hd_ hh;have dm:=hd_ hr2
 clear hh hr2 al hb hq hm hmm hql
 go_wp2
 go_quiet (fail)
 go_wp2
 refine bodyPost_ret (v:=QQ #[I X 0,I X 0,Y ⟨#[]⟩,J Q 0 0]) (by simp [results,results120,go_sem,x0,x1,x2,x3]) rfl ?_
 exact z6m (q:=q) hn.out (by repeat (first|exact (dm.out.drewN _).set2 C|refine RefAt.setT ?_ aE)) (by repeat (first|exact z8d (z4d bB _)|refine z5a ?_ (lR _)))
structure TxtNums (L q n m z:Nat):Prop where
 e1:wrap64 ((L:Int) - (q:Int))=(m:Int)
 e2:IntKind.u64.wrap (m:Int)=(m:Int)
 e3:wrap64 (n:Int)=(n:Int)
 e4:wrap64 ((q:Int)+(n:Int))=(z:Int)
 e5:wrap64 ((z:Int) - (n:Int))=(q:Int)
 t1:decide (m<n)=M
 zl:z≤L
 qz:q≤z
theorem k2e {L q n m z:Nat} (h1:L - q=m) (h2:q≤L) (h3:L≤1000000) (h4:n≤m) (h5:q+n=z):TxtNums L q n m z :=
 ⟨by unfold wrap64;omega,by rw [IntKind.wrap_u64];omega,by unfold wrap64;omega,by unfold wrap64;omega,by unfold wrap64;omega,decide_eq_false (by omega),by omega,by omega⟩
theorem j8g {B b off cap q n z:Nat} {w:O} {l:List UInt8} (cE:l.length≤cap) (bY:cap≤QZ) (mJ:b<B) (hcell:∀ j c,l[j]? = G c→w.cell? ⟨b,off+j,Q⟩=G (I .u8 (c.toNat:Int)))
 (hqz:q+n=z) (hzl:z≤l.length):z6c B w ((l.drop q).take n) (sliced (G ⟨b,off,Q⟩) q z cap 1):=by
 have hlen:((l.drop q).take n).length=n:=by simp;omega
 unfold sliced
 by_cases h:cap=q
 ·have h0:n=0:=by omega
  rw [if_pos h]
  subst h0
  exact .inl ⟨by simp,_,cap - q,by rw [show z - q=0 from by omega],by omega⟩
 ·rw [if_neg h]
  have ha:(⟨b,off,Q⟩:Addr).add (q * 1)=⟨b,off+q,Q⟩:=by unfold Addr.add;split <;> simp_all
  rw [Option.map_some,ha]
  refine z6c.mk' (by rw [hlen];omega) (by rw [hlen];omega) (by omega) mJ fun j c hj=>?_
  rw [List.getElem?_take] at hj
  split at hj
  ·rw [List.getElem?_drop] at hj;rw [Nat.add_assoc];exact hcell (q+j) c hj
  ·cases hj
theorem y1r (a:Option Addr) (L cap q z:Nat) (h1:q≤z) (h2:z≤cap) (w:O) :
 (Instr.slice 50 (J a L cap) (G (I X (q:Int))) (G (I X (z:Int))) Q).run prog w=.ok (sliced a q z cap 1) w:=by
 rw [run_slice_lh (P:=prog) (w:=w) 50 a L cap (by kernel_rfl) X X q z (by omega) (by omega) (by omega)]
 have hs:(sizeOf (prog.elem 50)).run prog w=.ok 1 w:=by kernel_rfl
 rw [hs];rfl
theorem j9g (d:Nat) (B R p:Nat) (l:List UInt8) (di:Int) (hl:l.length≤1000000) (w:O) (h:RefAt B w R l p M) (aE:R<w.heap.size) (hp:l[p]? = G 2) (n:Nat) (r':List UInt8) (hN:z9d 0 0 (l.drop (p+1))=G (n,r')) (hnr:n≤r'.length) :
 A prog 120 #[F (G ⟨R,0,Q⟩),I X di] w (z9g B R l (rdV d (l.drop p)) w):=by
 have H:=hd_ h;clear h
 have Hp:=hd_ hp;clear hp
 have hv:=hd_ (y2p d (l.drop (p+1)))
 have gG:=hd_ (z9k _ 0 0 n r' (by decide) (by simp) hN)
 have hlr:=z9h _ 0 0 _ _ hN
 have hlp:(l.drop (p+1)).length≤1000000:=by simp;omega
 have HN:=hd_ hN;clear hN
 have hn:Hid (rdV d (l.drop p)=G (.mk 2 0 ⟨(r'.take n).toArray⟩ [],r'.drop n)):=by show _=_;rw [z7m Hp.out,hv.out];unfold z8h;rw [HN.out];simp only;rw [if_pos hnr]
 have kT:=hd_ hnr
 have Hlr:=hd_ hlr;have Hlp:=hd_ hlp
 clear hnr hlr hlp
 go_enter func120,ntmps120
 go_wp2_with fail
 refine (y9j B R p 2 l hl w H.out aE Hp.out).mono ?_
 rintro e w1 ⟨rfl,hh⟩
 go_wp2_with fail
 refine (z6g B R (p+1) l hl _ hh.rd).mono ?_
 rw [HN.out]
 rintro e w2 ⟨rfl,q,hq,hr2,al⟩
 obtain ⟨⟨x0,x1,x2,x3,xf⟩,bB⟩:=hh.num aE al
 have f2:=hr2.fr 2;have r2:=hr2.c2;have r1:=hr2.c1;have f1:=hr2.fr 1
 obtain ⟨v,r0,hb⟩:=hr2.c0
 rcases hb with ⟨rfl,_⟩|⟨_,b,off,cap,rfl,cE,bY,mJ,hcell⟩
 ·have:=H.out.hp;simp at Hp;exact absurd Hp.out (by simp)
 have aP:=hd_ (And.intro cE bY)
 clear cE bY
 have jv:R≠w.heap.size:=by omega
 have jL:R≠b:=by have:=hr2.le;omega
 have hql:=hr2.hp
 have hm:l.length - q=r'.length:=by rw [← hq];simp
 obtain ⟨m,hmm⟩:∃ m,r'.length=m:=⟨_,rfl⟩
 have hnm:n≤m:=by rw [← hmm];exact kT.out
 obtain ⟨z,hz⟩:∃ z,q+n=z:=⟨_,rfl⟩
 obtain ⟨e1,e2,e3,e4,e5,t1,hzl,hqz⟩:=k2e (hm.trans hmm) hql hl hnm hz
 have HH:=hd_ hh;have dm:=hd_ hr2;have HC:=hd_ hcell
 have Hq:=hd_ hq
 have Hz:=hd_ hz;have Hm:=hd_ hm;have Hmm:=hd_ hmm
 have HZ:=hd_ (And.intro hzl hqz)
 have e6':=hd_ ((IntWalk.i64_left (n:Int)).trans e3)
 have e7':=hd_ ((IntWalk.i64_left ((z:Int) - (n:Int))).trans e5)
 clear hh hr2 al hcell hq hm hmm hz hnm hql hzl hqz
 go_wp2
 go_quiet (fail)
 go_wp2
 obtain ⟨w3,jB⟩:∃ w3,(w2.drewN nq).setCell ⟨R,1,Q⟩ (I X (z:Int))=w3:=⟨_,rfl⟩
 have bj:w2.grownBy w3 (G R):=by rw [← jB];exact z8d (z4v _ _ _)
 have gx:Hid (RefAt B w3 R l z M):=by rw [← jB];exact (dm.out.drewN _).set1 _ rfl HZ.out.1
 have y0:w3.cell? ⟨R,0,Q⟩=G (J (G ⟨b,off,Q⟩) l.length cap):=by rw [← jB,World.cell?_setCell_other _ _ _ _ (by simp)];exact r0
 have y1:=gx.out.c1
 have aB:=(BoxAt.mk x0 x1 x2 x3 xf).grown bj jv
 have hgw3:=z2a bB bj (.inl rfl)
 have hgc:∀ k,k≠R→∀ o,w3.cell? ⟨k,o,Q⟩=w2.cell? ⟨k,o,Q⟩:=fun k hk o=>by rw [← jB,World.cell?_setCell_other _ _ _ _ (by simp <;> omega)];rfl
 rw [jB]
 clear x0 x1 x2 x3 xf r0 r1 r2 f1 f2 bB jB bj
 obtain ⟨x0,x1,x2,x3,xf⟩:=aB
 obtain ⟨hzl,hqz⟩:=HZ.out
 have hbt:=j8g (q:=q) (n:=n) (z:=z) aP.out.1 aP.out.2 mJ (fun j c hj=>((hgc b (by omega) _).trans (HC.out j c hj))) Hz.out hzl
 rw [Hq.out] at hbt
 obtain ⟨sv,hsv⟩:∃ sv,sliced (G ⟨b,off,Q⟩) q z cap 1=sv:=⟨_,rfl⟩
 have s1:=y1r (G ⟨b,off,Q⟩) l.length cap q z hqz (by have:=aP.out.1;omega)
 rw [hsv] at hbt s1
 have s2:(convert 50 9 sv).run prog w3.drew=.ok (Y ⟨(r'.take n).toArray⟩) w3.drew:=z5r (P:=prog) underlying50 underlying5 underlying9 (hbt.keep (w':=w3.drew) (lR B) fun _ _=>rfl)
 have e6:IntKind.i64.wrap (n:Int)=(n:Int):=e6'.out
 have e7:IntKind.i64.wrap ((z:Int) - (n:Int))=(q:Int):=e7'.out
 clear hbt hsv
 go_still_tail 18,(by kernel_rfl)
 have z0:w3.drew.cell? ⟨w.heap.size,0,Q⟩=G (I X 0):=x0
 have z1:w3.drew.cell? ⟨w.heap.size,1,Q⟩=G (I X 0):=x1
 have z2:w3.drew.cell? ⟨w.heap.size,2,Q⟩=G (Y ⟨#[]⟩):=x2
 have z3:w3.drew.cell? ⟨w.heap.size,3,Q⟩=G (J Q 0 0):=x3
 have zf:∀ o,w3.drew.frozen? ⟨w.heap.size,o,Q⟩=M:=xf
 have cZ:Hid (RefAt B w3.drew R l z M):=gx.out.keep fun _ _=>rfl
 have hgw4:w.grownBy w3.drew (G R):=z3g hgw3
 clear x0 x1 x2 x3 xf s1 s2 e6 e7 y0 y1 hgw3 gx hgc
 change wpList _ _ _ _ _ w3.drew
 generalize w3.drew=w4 at *
 have hdz:l.drop z=r'.drop n:=by rw [← Hq.out,List.drop_drop,Hz.out]
 have Hdz:=hd_ hdz;clear hdz
 generalize hS:(⟨(r'.take n).toArray⟩:ByteArray)=S at *
 have hSl:S.size≤QZ:=by
  rw [← hS];show (r'.take n).toArray.size≤QZ
  have h1:=Hlr.out;have h2:=Hlp.out
  simp only [List.size_toArray,List.length_take];unfold QZ;omega
 have HSl:=hd_ hSl
 clear hSl hS
 go_wp2
 refine bodyPost_ret (v:=QQ #[I X 2,I X 0,Y S,J Q 0 0]) (by simp [results,results120,go_sem,z0,z1,z2,z3]) rfl ?_
 exact ⟨.mk 2 0 S [],_,z,M,rfl,y9q _ _ _ _ _ (by unfold I64;omega) j5g HSl.out,(by repeat (first|exact cZ.out|refine RefAt.setT ?_ aE)),(by repeat (first|exact hgw4|refine z5a ?_ (lR _))),(by rw [hn.out];exact ⟨rfl,rfl,Hdz.out⟩)⟩
theorem x6p (d:Nat) (B R p:Nat) (l:List UInt8) (di:Int) (hl:l.length≤1000000) (w:O) (h:RefAt B w R l p M) (aE:R<w.heap.size) (hp:l[p]? = G 2) :
 A prog 120 #[F (G ⟨R,0,Q⟩),I X di] w (z9g B R l (rdV d (l.drop p)) w):=by
 cases hN:z9d 0 0 (l.drop (p+1)) with
 | none=>exact j6g d B R p l di hl w h aE hp hN
 | some pr =>
  obtain ⟨n,r'⟩:=pr
  by_cases hnr:n≤r'.length
  ·exact j9g d B R p l di hl w h aE hp n r' hN hnr
  ·exact j7g d B R p l di hl w h aE hp n r' hN hnr
theorem x0a (d:Nat) (r:List UInt8) (h:z8h r=Q):rdV d (3::r)=Q:=by
 cases d with
 | zero=>exact y6w r
 | succ d=>rw [x7g,h]
theorem x1a (d:Nat) (B R p:Nat) (l:List UInt8) (di:Int) (hl:l.length≤1000000) (w:O) (h:RefAt B w R l p M) (aE:R<w.heap.size) (hp:l[p]? = G 3) (hN:z9d 0 0 (l.drop (p+1))=Q) :
 A prog 120 #[F (G ⟨R,0,Q⟩),I X di] w (z9g B R l (rdV d (l.drop p)) w):=by
 have H:=hd_ h;clear h
 have Hp:=hd_ hp;clear hp
 have hn:Hid (rdV d (l.drop p)=Q):=by show _=_;rw [z7m Hp.out];exact x0a d _ (by unfold z8h;rw [hN])
 have HN:=hd_ hN;clear hN
 go_enter func120,ntmps120
 go_wp2_with fail
 refine (y9j B R p 3 l hl w H.out aE Hp.out).mono ?_
 rintro e w1 ⟨rfl,hh⟩
 go_wp2_with fail
 refine (z6g B R (p+1) l hl _ hh.rd).mono ?_
 rw [HN.out]
 rintro e w2 ⟨rfl,q,hr2,al⟩
 obtain ⟨⟨x0,x1,x2,x3,xf⟩,bB⟩:=hh.num aE al
 have f2:=hr2.fr 2;have r2:=hr2.c2
 have jv:R≠w.heap.size:=by omega
 have HH:=hd_ hh;have dm:=hd_ hr2
 clear hh hr2 al
 go_wp2
 go_quiet (fail)
 go_wp2
 refine bodyPost_ret (v:=QQ #[I X 0,I X 0,Y ⟨#[]⟩,J Q 0 0]) (by simp [results,results120,go_sem,x0,x1,x2,x3]) rfl ?_
 exact z6m (q:=q) hn.out (by repeat (first|exact (dm.out.drewN _).set2 C|refine RefAt.setT ?_ aE)) (by repeat (first|exact z8d (z4d bB _)|refine z5a ?_ (lR _)))
theorem x2a (d:Nat) (B R p:Nat) (l:List UInt8) (di:Int) (hl:l.length≤1000000) (w:O) (h:RefAt B w R l p M) (aE:R<w.heap.size) (hp:l[p]? = G 3) (n:Nat) (r':List UInt8) (hN:z9d 0 0 (l.drop (p+1))=G (n,r')) (hnr:¬ n≤r'.length) :
 A prog 120 #[F (G ⟨R,0,Q⟩),I X di] w (z9g B R l (rdV d (l.drop p)) w):=by
 have H:=hd_ h;clear h
 have Hp:=hd_ hp;clear hp
 have gG:=hd_ (z9k _ 0 0 n r' (by decide) (by simp) hN)
 have hlr:=z9h _ 0 0 _ _ hN
 have hlp:(l.drop (p+1)).length≤1000000:=by simp;omega
 have HN:=hd_ hN;clear hN
 have hn:Hid (rdV d (l.drop p)=Q):=by show _=_;rw [z7m Hp.out];exact x0a d _ (by unfold z8h;rw [HN.out];simp only;rw [if_neg hnr])
 have kT:=hd_ hnr
 have Hlr:=hd_ hlr;have Hlp:=hd_ hlp
 clear hnr hlr hlp
 go_enter func120,ntmps120
 go_wp2_with fail
 refine (y9j B R p 3 l hl w H.out aE Hp.out).mono ?_
 rintro e w1 ⟨rfl,hh⟩
 go_wp2_with fail
 refine (z6g B R (p+1) l hl _ hh.rd).mono ?_
 rw [HN.out]
 rintro e w2 ⟨rfl,q,hq,hr2,al⟩
 obtain ⟨⟨x0,x1,x2,x3,xf⟩,bB⟩:=hh.num aE al
 have f2:=hr2.fr 2;have r2:=hr2.c2;have r1:=hr2.c1
 obtain ⟨v,r0,hb⟩:=hr2.c0
 obtain ⟨oa,cap,rfl,_,_⟩:=hb.form
 have jv:R≠w.heap.size:=by omega
 have hql:=hr2.hp
 have hm:l.length - q=r'.length:=by rw [← hq];simp
 obtain ⟨m,hmm⟩:∃ m,r'.length=m:=⟨_,rfl⟩
 have e1:wrap64 ((l.length:Int) - (q:Int))=(m:Int):=by unfold wrap64;omega
 have e2:IntKind.u64.wrap (m:Int)=(m:Int):=by rw [IntKind.wrap_u64];omega
 have t1:decide (m<n)=C:=decide_eq_true (by have:=kT.out;omega)
 have HH:=hd_ hh;have dm:=hd_ hr2
 clear hh hr2 al hb hq hm hmm hql
 go_wp2
 go_quiet (fail)
 go_wp2
 refine bodyPost_ret (v:=QQ #[I X 0,I X 0,Y ⟨#[]⟩,J Q 0 0]) (by simp [results,results120,go_sem,x0,x1,x2,x3]) rfl ?_
 exact z6m (q:=q) hn.out (by repeat (first|exact (dm.out.drewN _).set2 C|refine RefAt.setT ?_ aE)) (by repeat (first|exact z8d (z4d bB _)|refine z5a ?_ (lR _)))
theorem j0h (B R p:Nat) (l:List UInt8) (hl:l.length≤1000000) (w:O) (h:RefAt B w R l p M) (aE:R<w.heap.size) (hp:l[p]? = G 3) (n:Nat) (r':List UInt8) (hN:z9d 0 0 (l.drop (p+1))=G (n,r')) (hnr:n≤r'.length) :
 A prog 120 #[F (G ⟨R,0,Q⟩),I X 16] w (z9g B R l (rdV 0 (l.drop p)) w):=by
 have H:=hd_ h;clear h
 have Hp:=hd_ hp;clear hp
 have gG:=hd_ (z9k _ 0 0 n r' (by decide) (by simp) hN)
 have hlr:=z9h _ 0 0 _ _ hN
 have hlp:(l.drop (p+1)).length≤1000000:=by simp;omega
 have HN:=hd_ hN;clear hN
 have hn:Hid (rdV 0 (l.drop p)=Q):=by show _=_;rw [z7m Hp.out];exact y6w _
 have kT:=hd_ hnr
 have Hlr:=hd_ hlr;have Hlp:=hd_ hlp
 clear hnr hlr hlp
 go_enter func120,ntmps120
 go_wp2_with fail
 refine (y9j B R p 3 l hl w H.out aE Hp.out).mono ?_
 rintro e w1 ⟨rfl,hh⟩
 go_wp2_with fail
 refine (z6g B R (p+1) l hl _ hh.rd).mono ?_
 rw [HN.out]
 rintro e w2 ⟨rfl,q,hq,hr2,al⟩
 obtain ⟨⟨x0,x1,x2,x3,xf⟩,bB⟩:=hh.num aE al
 have f2:=hr2.fr 2;have r2:=hr2.c2;have r1:=hr2.c1
 obtain ⟨v,r0,hb⟩:=hr2.c0
 obtain ⟨oa,cap,rfl,_,_⟩:=hb.form
 have jv:R≠w.heap.size:=by omega
 have hql:=hr2.hp
 have hm:l.length - q=r'.length:=by rw [← hq];simp
 obtain ⟨m,hmm⟩:∃ m,r'.length=m:=⟨_,rfl⟩
 have e1:wrap64 ((l.length:Int) - (q:Int))=(m:Int):=by unfold wrap64;omega
 have e2:IntKind.u64.wrap (m:Int)=(m:Int):=by rw [IntKind.wrap_u64];omega
 have t1:decide (m<n)=M:=decide_eq_false (by have:=kT.out;omega)
 have HH:=hd_ hh;have dm:=hd_ hr2
 clear hh hr2 al hb hq hm hmm hql
 go_wp2
 go_quiet (fail)
 go_wp2
 refine bodyPost_ret (v:=QQ #[I X 0,I X 0,Y ⟨#[]⟩,J Q 0 0]) (by simp [results,results120,go_sem,x0,x1,x2,x3]) rfl ?_
 exact z6m (q:=q) hn.out (by repeat (first|exact (dm.out.drewN _).set2 C|refine RefAt.setT ?_ aE)) (by repeat (first|exact z8d (z4d bB _)|refine z5a ?_ (lR _)))
def k3e (l:List UInt8) (o:Option (V × List UInt8)) (x:V) (bad:Bool) (q:Nat):Prop:=match o with|some (y,r)=>x=y∧bad=M∧l.drop q=r|none=>bad=C
def k4e (d n:Nat) (l r0:List UInt8) (xs:List V) (k q:Nat):Bool→Prop
 | true=>z7t (rdV d) n r0=Q
 | false=>z7t (rdV d) k r0=G (xs,l.drop q)
def x7p (B R T:Nat) (d n:Nat) (w:O) (l r0:List UInt8) (i:Value) (wr:O):Prop :=
 ∃ (k:Nat) (xs:List V) (q:Nat) (bad:Bool) (lv:Value),k≤n∧i=I .u64 (k:Int)∧xs.length=k∧BoxAt wr T (I X 3) (I X 0) (Y ⟨#[]⟩) lv ∧
  (∃ oa cap,lv=J oa k cap)∧x0e 80 (fun g=>T<g∧G g≠lv.ownBlock∧g<wr.heap.size) wr (T+1) lv xs∧RefAt B wr R l q bad∧w.grownBy wr (G R) ∧
  k4e d n l r0 xs k q bad
theorem k5e {d n k q q2:Nat} {bad:Bool} {l r0:List UInt8} {xs:List V} {x:V} (hk:k<n) (h:z7t (rdV d) k r0=G (xs,l.drop q)) (hm:k3e l (rdV d (l.drop q)) x bad q2):k4e d n l r0 (xs++[x]) (k+1) q2 bad:=by
 cases hE:rdV d (l.drop q) with
 | none => rw [hE] at hm;have hb:bad=C:=hm
           rw [hb];exact y7w _ n k r0 _ xs hk h hE
 | some pr =>
  obtain ⟨y,r⟩:=pr
  rw [hE] at hm
  obtain ⟨h1,h2,hr⟩:=hm
  rw [h2,h1]
  show z7t (rdV d) (k+1) r0=G (xs++[y],l.drop q2)
  rw [hr];exact y5g _ k _ _ _ _ _ h hE
theorem y2r {B R T d n k q:Nat} {bad:Bool} {w wr w9 w':O} {l r0:List UInt8} {x:V} {xs:List V} {oa dg:Option Addr} {cp dq:Nat} (hT:T=w.heap.size) (jv:R<T) (hkn:k<n) (hxl:xs.length=k)
 (hn:k4e d n l r0 (xs++[x]) (k+1) q bad) (hbx:BoxAt wr T (I X 3) (I X 0) (Y ⟨#[]⟩) (J oa k cp))
 (bj:w.grownBy wr (G R)) (hTw:T<wr.heap.size) (ay:wr.grownBy w9 (G R)) (bD:RefAt B w9 R l q bad) (ob:Obj)
 (eS:∀ g,(J oa k cp).ownBlock=G g→T+1≤g∧g<wr.heap.size)
 (ho:x0e 80 (fun g=>T<g∧G g≠(J oa k cp).ownBlock∧g<(w9.alloc ob).heap.size) w' (T+1) (.slice dg (xs++[x]).length dq) (xs++[x])) (hg:(w9.alloc ob).grownBy w' (J oa k cp).ownBlock) :
 x7p B R T d n w l r0 (I .u64 ((k:Int)+1)) (w'.setCell ⟨T,3,Q⟩ (.slice dg (xs++[x]).length dq)):=by
 have hl:(xs++[x]).length=k+1:=by simp [hxl]
 have lU:G T≠(J oa k cp).ownBlock:=fun e=>by have:=eS _ e.symm;omega
 have hRo:∀ j,j≤R→G j≠(J oa k cp).ownBlock:=fun j hj e=>by have:=eS _ e.symm;omega
 have jx:=ay.size
 have lM:=hg.size
 have eU:=hbx.grown ay (by omega)
 have hTa:T<(w9.alloc ob).heap.size:=by simp;omega
 have cl:∀ i,w'.cell? ⟨T,i,Q⟩=w9.cell? ⟨T,i,Q⟩:=fun i=>World.cell?_of_block (w:=w9) ((hg.block T hTa lU).trans (Below.heap_alloc w9 ob T (by omega)))
 have fl:∀ i,w'.frozen? ⟨T,i,Q⟩=w9.frozen? ⟨T,i,Q⟩:=fun i=>World.frozen?_of_block (w:=w9) ((hg.block T hTa lU).trans (Below.heap_alloc w9 ob T (by omega)))
 have hwg:w.grownBy w' (G R):=z2a (z4a (z2a bj ay (.inl rfl)) ob) hg (.inr fun g hg=>by have:=eS g hg;omega)
 rw [hl] at ho ⊢
 have hob:=x0e.own_lt ho
 refine ⟨k+1,xs++[x],q,bad,J dg (k+1) dq,by omega,by simp,hl,?_,⟨dg,dq,rfl⟩,?_,?_,z5a hwg (by omega),hn⟩
 ·refine ⟨?_,?_,?_,?_,?_⟩
  ·rw [World.cell?_setCell_other _ _ _ _ (by simp),cl 0];exact eU.c0
  ·rw [World.cell?_setCell_other _ _ _ _ (by simp),cl 1];exact eU.c1
  ·rw [World.cell?_setCell_other _ _ _ _ (by simp),cl 2];exact eU.c2
  ·exact World.cell?_setCell_same' _ _ _ (by rw [cl 3,eU.c3];rfl)
  ·intro o;rw [World.frozen?_setCell,fl o];exact eU.fr o
 ·obtain ⟨lvs,_,_,_,hd4⟩:=id ho
  refine ((x0e.kept ho (z6b w' T 3 _) (.inr fun e=>by have:=hob T e;omega) (fun j hj e=>by injection e with e;have:=hj.1;omega) (fun j hj=>by have:=hj.2.2;omega))).mono (fun j hj=>⟨hj.1,hd4 j hj,by have:=hj.2.2;simp [World.setCell];omega⟩) ?_
  exact fun j hj=>hj.2.1
 ·refine RefAt.setT ?_ jv
  exact bD.keep fun j hj=>(hg.block j (by simp;omega) (hRo j hj)).trans (Below.heap_alloc w9 ob j (by omega))
theorem j1h (d:Nat) (hd:d+1≤16) (ih:x3p d) (B R p:Nat) (l:List UInt8) (hl:l.length≤1000000) (di:Int) (hdi:di=16 - ((d+1:Nat):Int)) (w:O) (h:RefAt B w R l p M) (aE:R<w.heap.size) (hp:l[p]? = G 3) (n:Nat) (r':List UInt8) (hN:z9d 0 0 (l.drop (p+1))=G (n,r')) (hnr:n≤r'.length) :
 A prog 120 #[F (G ⟨R,0,Q⟩),I X di] w (z9g B R l (rdV (d+1) (l.drop p)) w):=by
 have H:=hd_ h;clear h
 have Hp:=hd_ hp;clear hp
 have gG:=hd_ (z9k _ 0 0 n r' (by decide) (by simp) hN)
 have hlr:=z9h _ 0 0 _ _ hN
 have hlp:(l.drop (p+1)).length≤1000000:=by simp;omega
 have HN:=hd_ hN;clear hN
 have hlen:z8h (l.drop (p+1))=G (n,r'):=by unfold z8h;rw [HN.out];simp only;rw [if_pos hnr]
 have hv:Hid (∀ xs r2,z7t (rdV d) n r'=G (xs,r2)→rdV (d+1) (l.drop p)=G (.mk 3 0 ⟨#[]⟩ xs,r2)):=by
  intro xs r2 hx;rw [z7m Hp.out,x7g,hlen];simp only;rw [hx]
 have hv0:Hid (z7t (rdV d) n r'=Q→rdV (d+1) (l.drop p)=Q):=by
  intro hx;rw [z7m Hp.out,x7g,hlen];simp only;rw [hx]
 clear hlen
 have IH:=hd_ ih;clear ih
 have td:(di == 16)=M:=by rw [beq_eq_false_iff_ne];omega
 obtain ⟨di2,hdi2⟩:∃ di2,16 - (d:Int)=di2:=⟨_,rfl⟩
 have td2:wrap64 (di+1)=di2:=by unfold wrap64;omega
 have Hdi2:=hd_ hdi2
 clear hdi hdi2 hd
 have kT:=hd_ hnr
 have Hlr:=hd_ hlr;have Hlp:=hd_ hlp
 clear hnr hlr hlp
 go_enter func120,ntmps120
 go_wp2_with fail
 refine (y9j B R p 3 l hl w H.out aE Hp.out).mono ?_
 rintro e w1 ⟨rfl,hh⟩
 go_wp2_with fail
 refine (z6g B R (p+1) l hl _ hh.rd).mono ?_
 rw [HN.out]
 rintro e w2 ⟨rfl,q,hq,hr2,al⟩
 obtain ⟨⟨x0,x1,x2,x3,xf⟩,bB⟩:=hh.num aE al
 have f2:=hr2.fr 2;have r2:=hr2.c2;have r1:=hr2.c1
 obtain ⟨v,r0,hb⟩:=hr2.c0
 obtain ⟨oa,cap,rfl,_,_⟩:=hb.form
 have jv:R≠w.heap.size:=by omega
 have hql:=hr2.hp
 have hm:l.length - q=r'.length:=by rw [← hq];simp
 obtain ⟨m,hmm⟩:∃ m,r'.length=m:=⟨_,rfl⟩
 have e1:wrap64 ((l.length:Int) - (q:Int))=(m:Int):=by unfold wrap64;omega
 have e2:IntKind.u64.wrap (m:Int)=(m:Int):=by rw [IntKind.wrap_u64];omega
 have t1:decide (m<n)=M:=decide_eq_false (by have:=kT.out;omega)
 have HH:=hd_ hh;have dm:=hd_ hr2
 have Hn:Hid (n≤1000000):=by show _≤_;have h1:=kT.out;have h2:=Hlr.out;have h3:=Hlp.out;omega
 have Hq:=hd_ hq
 clear hh hr2 al hb hq hm hmm hql
 go_wp2
 go_quiet (fail)
 have z0:(w2.drewN nq).cell? ⟨w.heap.size,0,Q⟩=G (I X 0):=x0
 have z1:(w2.drewN nq).cell? ⟨w.heap.size,1,Q⟩=G (I X 0):=x1
 have z2:(w2.drewN nq).cell? ⟨w.heap.size,2,Q⟩=G (Y ⟨#[]⟩):=x2
 have z3:(w2.drewN nq).cell? ⟨w.heap.size,3,Q⟩=G (J Q 0 0):=x3
 have zf:∀ o,(w2.drewN nq).frozen? ⟨w.heap.size,o,Q⟩=M:=xf
 have gx:Hid (RefAt B (w2.drewN nq) R l q M):=dm.out.drewN _
 have bj:w.grownBy (w2.drewN nq) (G R):=z4d bB _
 clear x0 x1 x2 x3 xf f2 r2 r1 r0 bB dm
 generalize w2.drewN nq=w3 at *
 have aA:=hd_ (BoxAt.mk z0 z1 z2 z3 zf)
 clear z0 z1 z2 z3 zf
 go_wp2
 have hTT:w.heap.size<w3.heap.size:=World.block_lt_of_cell? w3 _ aA.out.c0
 have hRT3:R<w3.heap.size:=by omega
 have cH:=hd_ (BoxAt.made w3 80 (I X 3) (I X 0) (Y ⟨#[]⟩) (J Q 0 0))
 have cZ:=hd_ (gx.out.alloc hRT3 (U #[I X 3,I X 0,Y ⟨#[]⟩,J Q 0 0] 80))
 clear e1 e2 t1
 go_loopw [9] (fun i wr=>x7p B R w3.heap.size d n w3 l r' i wr) (fun i _=>n - (intOf i).toNat)
 case atStart=>exact ⟨0,[],q,M,J Q 0 0,Nat.zero_le _,rfl,rfl,cH.out,⟨Q,0,rfl⟩,⟨[],World.ownsRow_nil _ _ _ _,trivial,by simp,by simp [Value.ownBlock]⟩,cZ.out,z4a (z1b _ _) _,by show z7t (rdV d) 0 r'=G ([],l.drop q);rw [Hq.out];rfl⟩
 case round =>
  obtain ⟨k,xs,q2,bad,lv,hkn,rfl,hxl,hbx,⟨oa,cp,rfl⟩,hown,hrd3,hg3r,hmt⟩:=hrel
  have hsz3:=hg3r.size
  have hRwr:R<wr.heap.size:=by omega
  have nw:=hd_ (aA.out.grown hg3r (by omega))
  have hgr:=hd_ (z2a bj hg3r (.inl rfl))
  have nI:=hd_ hxl;have fY:=hd_ hown;have iu:=hd_ hrd3;have eN:=hd_ hbx;have Hmt:=hd_ hmt
  have c2:=hrd3.c2
  clear hxl hown hrd3 hmt
  by_cases hgo:k<n∧bad=M
  case neg =>
   obtain ⟨x0,x1,x2,x3,xf⟩:=hbx
   obtain ⟨u0,u1,u2,u3,uf⟩:=nw.out
   have hne:w.heap.size≠w3.heap.size:=by omega
   have hdd:(decide (k<n)=M)∨(decide (k<n)=C∧bad=C):=by
    by_cases h:k<n
    ·exact .inr ⟨decide_eq_true h,by cases bad <;> simp_all⟩
    ·exact .inl (decide_eq_false h)
   have hfin:Hid (k3e l (rdV (d+1) (l.drop p)) (V.mk 3 0 ⟨#[]⟩ xs) bad q2):=by
    show k3e l (rdV (d+1) (l.drop p)) (V.mk 3 0 ⟨#[]⟩ xs) bad q2
    cases bad with
    | true=>rw [hv0.out Hmt.out];rfl
    | false =>
     obtain rfl:k=n:=by
      by_cases h:k<n
      ·exact absurd ⟨h,rfl⟩ hgo
      ·omega
     rw [hv.out _ _ Hmt.out];exact ⟨rfl,rfl,rfl⟩
   have hsl:Hid (y5j (fun g=>w3.heap.size<g∧g<wr.heap.size) wr xs (J oa k cp)):=fY.out.sl (fun g hg=>by have:=hg.1;have:=hg.2.2;omega) (fun g hg=>by have:=fY.out.own_lt g hg;omega)
   clear hgo
   rcases hdd with tk|⟨tk,hbt⟩
   rotate_left
   rw [hbt] at c2
   clear hbt
   all_goals
    go_wp2
    refine bodyPost_ret (v:=QQ #[I X 3,I X 0,Y ⟨#[]⟩,J oa k cp]) (by simp [results,results120,go_sem,u0,u1,u2,u3]) rfl ?_
    refine ⟨.mk 3 0 ⟨#[]⟩ xs,_,q2,bad,rfl,⟨by show I64 3;unfold I64;omega,j5g,Nat.zero_le QZ,_,rfl,hsl.out.keep (fun g hg=>⟨by omega,by simp [World.setCell];omega⟩) (fun g hg=>by repeat (first|rfl|refine (Below.heap_setCell _ _ _ _ (by show g≠w.heap.size;omega)).trans ?_))⟩,by repeat (first|exact iu.out|refine RefAt.setT ?_ aE),by repeat (first|exact hgr.out|refine z5a ?_ (lR _)),hfin.out⟩
  case pos =>
   obtain ⟨hlt,rfl⟩:=hgo
   have tk:decide (k<n)=C:=decide_eq_true hlt
   have e9:IntKind.u64.wrap ((k:Int)+1)=((k+1:Nat):Int):=by have:=Hn.out;rw [IntKind.wrap_u64];omega
   have td3:IntKind.i64.wrap (di+1)=di2:=(IntWalk.i64_left _).trans td2
   have aN:=hd_ hlt
   obtain ⟨x0,x1,x2,x3,xf⟩:=hbx
   go_wp2
   have hTwr:w3.heap.size<wr.heap.size:=World.block_lt_of_cell? wr _ x0
   have gX:=fY.out.own_lt
   have lU:G w3.heap.size≠(J oa k cp).ownBlock:=fun e=>by have:=gX _ e.symm;omega
   have eO:=hd_ gX;clear gX
   go_region_law (first
    | (go_simp;go_at_call 120;refine (IH.out B R q2 l di2 Hdi2.out.symm hl wr.drew (RefAt.keep iu.out fun j hj=>rfl) (by simpa using hRwr)).mono ?_;rintro e w9 ⟨x,v9,q4,bad4,rfl,eV,bD,hg9',hm9⟩
       have Hm9:=hd_ (k5e aN.out Hmt.out hm9)
       have Hrd9:=hd_ bD
       have ay:wr.grownBy w9 (G R):=z2a (z3g (z1b wr _)) hg9' (.inl rfl)
       have y0:w9.cell? ⟨w3.heap.size,3,Q⟩=G (J oa k cp):=ay.cell x3 (fun e=>by injection e with e;exact absurd e (by show w3.heap.size≠R;omega))
       have jx:=ay.size
       have hTw9:w3.heap.size<w9.heap.size:=by omega
       obtain ⟨z1,z2,z3,lx,rfl,z4⟩:=eV
       have Z:=hd_ (And.intro z1 (And.intro z2 (And.intro z3 z4)))
       clear z1 z2 z3 z4 hg9' hm9 bD)
    | (refine z8p (e:=80) (z:=QQ #[I X 0,I X 0,Y ⟨#[]⟩,J Q 0 0]) (bytes:=56) underlying78 (by kernel_rfl) rfl (by decide) rfl _ _ rfl (fun g=>w3.heap.size<g∧G g≠(J oa k cp).ownBlock∧g<(w9.alloc (U #[I X x.kind,I X x.n,Y x.s,lx] 80)).heap.size) (w3.heap.size+1) (J oa k cp) xs rfl ?q1 _ x lx rfl ?q2 Z.out.2.2.2.one ?q3 ?q4 ?q5 ?q6 ?_
       case q1 =>
        refine ((fY.out.kept ay (.inr fun e=>by have:=eO.out R e;omega) (fun j hj e=>by injection e with e;have:=hj.1;omega) (fun j hj=>hj.2.2)).kept (row:=G R) (z4a (z1b w9 _) _) (.inr fun e=>by have:=eO.out R e;omega) (fun j hj e=>by injection e with e;have:=hj.1;omega) (fun j hj=>by have:=hj.2.2;omega)).mono (fun j hj=>⟨hj.1,hj.2.1,by have:=hj.2.2;simp;omega⟩) (fun j hj=>hj.2.1)
       case q2=>exact ⟨Z.out.1,Z.out.2.1,Z.out.2.2.1,Z.out.2.2.2.keep (fun j hj=>⟨by have:wr.heap.size≤j:=hj.1;omega,fun e=>by have h1:=(eO.out j e.symm).2;have h2:wr.heap.size≤j:=hj.1;omega,by have:=hj.2;simp;omega⟩) (fun j hj=>Below.heap_alloc w9 _ j hj.2)⟩
       case q3=>simp
       case q4=>(have:=nI.out;have:=Hn.out;have:=aN.out;omega)
       case q5=>simp;omega
       case q6=>exact fun j hj=>hj.2.2
       intro v' w' ho hg hnx
       obtain ⟨dg,dq,rfl⟩:=ho.shape
       have nJ:=(hg.block w3.heap.size (by simp;omega) lU).trans (Below.heap_alloc w9 _ w3.heap.size (by omega))
       have y3:w'.cell? ⟨w3.heap.size,3,Q⟩=G (J oa k cp):=(World.cell?_of_block (w:=w9) nJ).trans y0
       have yf:w'.frozen? ⟨w3.heap.size,3,Q⟩=M:=(World.frozen?_of_block (w:=w9) nJ).trans ((World.frozen?_of_block (w:=wr) (ay.block w3.heap.size (by omega) (fun e=>by injection e with e;omega))).trans (xf 3))
       clear nJ
       have HO:=hd_ ho;clear ho))
   all_goals
    go_wp2
    go_roundw
    case rel =>
     have hll:(xs++[x]).length=xs.length+1:=by simp
     have qq:=y2r rfl hRT3 aN.out nI.out Hm9.out eN.out hg3r hTwr ay Hrd9.out _ eO.out HO.out hg
     rw [hll] at qq
     first|exact qq|((repeat apply Exists.intro);exact ⟨qq,rfl⟩)
    case measure=>simp [intOf];omega
theorem y3a:∀ d,d≤16→x3p d:=by
 intro d
 induction d with
 | zero =>
  intro hd B R p l di hdi hl w h aE
  cases hp:l[p]? with
  | none=>exact y9m 0 B R p l di hl w h aE (List.getElem?_eq_none_iff.1 hp)
  | some c =>
   by_cases h1:c=1
   ·subst h1;exact x5p 0 B R p l di hl w h aE hp
   by_cases h2:c=2
   ·subst h2;exact x6p 0 B R p l di hl w h aE hp
   by_cases h3:c=3
   ·subst h3
    cases hN:z9d 0 0 (l.drop (p+1)) with
    | none=>exact x1a 0 B R p l di hl w h aE hp hN
    | some pr =>
     obtain ⟨n,r'⟩:=pr
     by_cases hnr:n≤r'.length
     ·have hdi':di=16:=by simpa using hdi
      subst hdi';exact j0h B R p l hl w h aE hp n r' hN hnr
     ·exact x2a 0 B R p l di hl w h aE hp n r' hN hnr
   ·exact x4p 0 B R p c l di hl w h aE hp h1 h2 h3
 | succ d ih =>
  intro hd B R p l di hdi hl w h aE
  cases hp:l[p]? with
  | none=>exact y9m (d+1) B R p l di hl w h aE (List.getElem?_eq_none_iff.1 hp)
  | some c =>
   by_cases h1:c=1
   ·subst h1;exact x5p (d+1) B R p l di hl w h aE hp
   by_cases h2:c=2
   ·subst h2;exact x6p (d+1) B R p l di hl w h aE hp
   by_cases h3:c=3
   ·subst h3
    cases hN:z9d 0 0 (l.drop (p+1)) with
    | none=>exact x1a (d+1) B R p l di hl w h aE hp hN
    | some pr =>
     obtain ⟨n,r'⟩:=pr
     by_cases hnr:n≤r'.length
     ·exact j1h d hd (ih (by omega)) B R p l hl di hdi w h aE hp n r' hN hnr
     ·exact x2a (d+1) B R p l di hl w h aE hp n r' hN hnr
   ·exact x4p (d+1) B R p c l di hl w h aE hp h1 h2 h3
theorem y4a {w:O} {l:List UInt8} {v:Value} {t t2:TypeId} {o:Array Value} (hb:z6c w.heap.size w l v) :
 RefAt w.heap.size ((w.alloc (U o t)).alloc (U #[v,I X 0,.bool M] t2)) (w.heap.size+1) l 0 M:=by
 have hs:(w.alloc (U o t)).heap.size=w.heap.size+1:=World.size_alloc _ _
 refine ⟨Nat.le_succ _,fun i=>?_,⟨v,?_,?_⟩,?_,?_,Nat.zero_le _⟩
 ·rw [← hs];exact World.frozen?_alloc_at _ _ _ _ rfl
 ·rw [← hs];simp
 ·exact hb.keep (lR _) fun k hk=>(Below.heap_alloc _ _ k (by rw [hs];omega)).trans (Below.heap_alloc w _ k hk)
 ·rw [← hs];simp
 ·rw [← hs];simp
theorem z0o {w w':O} {R:Nat} (h:w.grownBy w' (G R)) (hR:w.heap.size≤R):Below w.heap.size w w' :=
 ⟨h.os,h.tape,h.output,h.size,fun k hk=>h.block k hk (fun e=>by injection e with e;omega)⟩
theorem x3a (l:List UInt8) (hl:l.length≤1000000) (oa:Option Addr) (cap:Nat) (w:O) (hb:z6c w.heap.size w l (J oa l.length cap)) (hN:rdV 16 l=Q) :
 A prog 65 #[J oa l.length cap] w fun e w'=>e=QX (.tuple #[QQ #[I X 0,I X 0,Y ⟨#[]⟩,J Q 0 0],I X 10])∧Below w.heap.size w w':=by
 have HB:=hd_ hb;clear hb
 have HN:=hd_ hN;clear hN
 go_enter func65,ntmps65
 go_wp2_with fail
 refine (y3a 16 (by omega) w.heap.size (w.heap.size+1) 0 l 0 (by simp) hl _ (y4a HB.out) (by simp)).mono ?_
 rw [List.drop_zero,HN.out]
 rintro e w9 ⟨x,v9,q,bad,rfl,eV,bD,ay,ac⟩
 have hbt:bad=C:=ac
 subst hbt
 obtain ⟨z1,z2,z3,lx,rfl,z4⟩:=eV
 have hbx:=hd_ (((BoxAt.made w 80 (I X 0) (I X 0) (Y ⟨#[]⟩) (J Q 0 0)).grown (R:=w.heap.size+1) (z4a (z1b _ _) (U #[J oa l.length cap,I X 0,.bool M] 147)) (by omega)).grown ay (by omega))
 obtain ⟨x0,x1,x2,x3,xf⟩:=hbx.out
 have r2:=bD.c2
 have hlt:w.heap.size+1<w9.heap.size:=World.block_lt_of_cell? w9 _ r2
 have hlt0:w.heap.size<w9.heap.size:=by omega
 have h1:=z4.one
 obtain ⟨xo,xn,xc,rfl⟩:=z4.shape
 have Z:=hd_ z4;have HR:=hd_ bD;have HG:=hd_ ay
 clear z1 z2 z3 z4 bD ay ac h1
 go_wp2
 go_quiet (fail)
 have bB:w.grownBy w9 (G (w.heap.size+1)):=z2a (z4a (z4a (z1b w _) _) _) HG.out (.inl rfl)
 have bL:=hbx.out.grown (R:=w.heap.size+1) (z4d (z4a (z1b w9 _) (U #[I X x.kind,I X x.n,Y x.s,J xo xn xc] 80)) nq) (by omega)
 have hg10:=z4d (z4a bB (U #[I X x.kind,I X x.n,Y x.s,J xo xn xc] 80)) nq
 clear x0 x1 x2 x3 xf r2 hbx bB
 generalize World.drewN (w9.alloc (U #[I X x.kind,I X x.n,Y x.s,J xo xn xc] 80)) nq=w10 at *
 obtain ⟨x0,x1,x2,x3,xf⟩:=bL
 go_wp2
 refine bodyPost_ret (v:=.tuple #[QQ #[I X 0,I X 0,Y ⟨#[]⟩,J Q 0 0],I X 10]) (by simp [results,results65,go_sem,x0,x1,x2,x3]) rfl ?_
 refine ⟨rfl,z0o (R:=w.heap.size+1) ?_ (by omega)⟩
 repeat (first|exact hg10|refine z5a ?_ (lR _))
theorem x4a (l:List UInt8) (hl:l.length≤1000000) (oa:Option Addr) (cap:Nat) (w:O) (hb:z6c w.heap.size w l (J oa l.length cap)) (x0':V) (r:List UInt8) (hN:rdV 16 l=G (x0',r)) (hr:r≠[]) :
 A prog 65 #[J oa l.length cap] w fun e w'=>e=QX (.tuple #[QQ #[I X 0,I X 0,Y ⟨#[]⟩,J Q 0 0],I X 10])∧Below w.heap.size w w':=by
 have HB:=hd_ hb;clear hb
 have HN:=hd_ hN;clear hN
 go_enter func65,ntmps65
 go_wp2_with fail
 refine (y3a 16 (by omega) w.heap.size (w.heap.size+1) 0 l 0 (by simp) hl _ (y4a HB.out) (by simp)).mono ?_
 rw [List.drop_zero,HN.out]
 rintro e w9 ⟨x,v9,q,bad,rfl,eV,bD,ay,ac⟩
 obtain ⟨rfl,rfl,hq⟩:=ac
 have r1:=bD.c1
 have hne:((q:Int) != (l.length:Int))=C:=by
  rw [bne_iff_ne];intro h
  have:q=l.length:=by omega
  rw [this,List.drop_length] at hq;exact hr hq.symm
 obtain ⟨z1,z2,z3,lx,rfl,z4⟩:=eV
 have hbx:=hd_ (((BoxAt.made w 80 (I X 0) (I X 0) (Y ⟨#[]⟩) (J Q 0 0)).grown (R:=w.heap.size+1) (z4a (z1b _ _) (U #[J oa l.length cap,I X 0,.bool M] 147)) (by omega)).grown ay (by omega))
 obtain ⟨x0,x1,x2,x3,xf⟩:=hbx.out
 have r2:=bD.c2
 have hlt:w.heap.size+1<w9.heap.size:=World.block_lt_of_cell? w9 _ r2
 have hlt0:w.heap.size<w9.heap.size:=by omega
 have h1:=z4.one
 obtain ⟨xo,xn,xc,rfl⟩:=z4.shape
 have Z:=hd_ z4;have HR:=hd_ bD;have HG:=hd_ ay
 clear z1 z2 z3 z4 bD ay h1 hq hr
 go_wp2
 go_quiet (fail)
 have bB:w.grownBy w9 (G (w.heap.size+1)):=z2a (z4a (z4a (z1b w _) _) _) HG.out (.inl rfl)
 have bL:=hbx.out.grown (R:=w.heap.size+1) (z4d (z4a (z1b w9 _) (U #[I X x.kind,I X x.n,Y x.s,J xo xn xc] 80)) nq) (by omega)
 have hg10:=z4d (z4a bB (U #[I X x.kind,I X x.n,Y x.s,J xo xn xc] 80)) nq
 clear x0 x1 x2 x3 xf r2 r1 hbx bB
 generalize World.drewN (w9.alloc (U #[I X x.kind,I X x.n,Y x.s,J xo xn xc] 80)) nq=w10 at *
 obtain ⟨x0,x1,x2,x3,xf⟩:=bL
 go_wp2
 refine bodyPost_ret (v:=.tuple #[QQ #[I X 0,I X 0,Y ⟨#[]⟩,J Q 0 0],I X 10]) (by simp [results,results65,go_sem,x0,x1,x2,x3]) rfl ?_
 refine ⟨rfl,z0o (R:=w.heap.size+1) ?_ (by omega)⟩
 repeat (first|exact hg10|refine z5a ?_ (lR _))
theorem y3r {w w':O} (hb:Below w.heap.size w w') {R T:Nat} {a b c d x y:Value} {v:Value} {l:List UInt8} {B:Nat} (hR1:w.cell? ⟨R,1,Q⟩=G x) (hR2:w.cell? ⟨R,2,Q⟩=G y) (hc:C4 w T a b c d) (hv:z6c B w l v) (hB:B≤w.heap.size) :
 w'.cell? ⟨R,1,Q⟩=G x∧w'.cell? ⟨R,2,Q⟩=G y∧w'.cell? ⟨T,0,Q⟩=G a∧w'.cell? ⟨T,1,Q⟩=G b∧w'.cell? ⟨T,2,Q⟩=G c∧w'.cell? ⟨T,3,Q⟩=G d∧(convert 50 9 v).run prog w'=.ok (Y ⟨l.toArray⟩) w' :=
 ⟨z1a hb hR1,z1a hb hR2,z1a hb hc.c0,z1a hb hc.c1,z1a hb hc.c2,z1a hb hc.c3,z4p ((hv.keep hB fun _ _=>rfl).ext hb)⟩
def k4r (x:V) (w:O) (e:Ending) (w':O):Prop:=∃ oa cap,e=QX (.tuple #[QQ #[I X x.kind,I X x.n,Y x.s,J oa x.l.length cap],I X 0])∧x2f (fun k=>k<w'.heap.size) w' x (QQ #[I X x.kind,I X x.n,Y x.s,J oa x.l.length cap])∧Below w.heap.size w w'
theorem z8x (l:List UInt8) (hl:l.length≤4000) (oa:Option Addr) (cap:Nat) (w:O) (hb:z6c w.heap.size w l (J oa l.length cap)) (x:V) (hN:rdV 16 l=G (x,[])) :
 A prog 65 #[J oa l.length cap] w (k4r x w):=by
 have hdF:z4w l=G x:=by unfold z4w;rw [hN]
 obtain ⟨henc,hck,aW,hsz⟩:=z5l hdF (by unfold QZ;omega)
 have hfm:=hd_ (x7s hck).1
 have hsx:sz x≤60000:=by omega
 have Henc:=hd_ henc;have it:=hd_ hck
 clear aW hsz henc hck hdF
 have HB:=hd_ hb;clear hb
 have HN:=hd_ hN;clear hN
 go_enter func65,ntmps65
 go_wp2_with fail
 refine (y3a 16 (by omega) w.heap.size (w.heap.size+1) 0 l 0 (by simp) (by omega) _ (y4a HB.out) (by simp)).mono ?_
 rw [List.drop_zero,HN.out]
 rintro e w9 ⟨x',v9,q,bad,rfl,eV,bD,ay,ac⟩
 obtain ⟨rfl,rfl,hq⟩:=ac
 obtain rfl:q=l.length:=by
  have h1:=bD.hp
  have h2:(l.drop q).length=0:=by rw [hq];rfl
  rw [List.length_drop] at h2;omega
 have jx:=ay.size
 simp only [World.size_alloc] at jx
 have hrv:RdV w9.heap.size w9 x' v9:=eV.rd fun k hk=>hk.2
 obtain ⟨xo,xc,rfl,_⟩:=hrv.form
 have hbx:=((BoxAt.made w 80 (I X 0) (I X 0) (Y ⟨#[]⟩) (J Q 0 0)).grown (R:=w.heap.size+1) (z4a (z1b _ _) (U #[J oa l.length cap,I X 0,.bool M] 147)) (by omega)).grown ay (by omega)
 have bB:w.grownBy w9 (G (w.heap.size+1)):=z2a (z4a (z4a (z1b w _) _) _) ay (.inl rfl)
 have hV9:=hd_ eV
 have hbw9:Below w.heap.size w w9:=z0o bB (by omega)
 have hHX:=hd_ (hrv.alloc (U #[I X x'.kind,I X x'.n,Y x'.s,J xo x'.l.length xc] 80))
 have hBX:=hd_ (hbx.grown (R:=w.heap.size+1) (z4a (z1b w9 _) (U #[I X x'.kind,I X x'.n,Y x'.s,J xo x'.l.length xc] 80)) (by omega))
 have hC4:Hid (C4 (w9.alloc (U #[I X x'.kind,I X x'.n,Y x'.s,J xo x'.l.length xc] 80)) w9.heap.size (I X x'.kind) (I X x'.n) (Y x'.s) (J xo x'.l.length xc)):=C4.of_box (w:=w9) (Below.refl _ _)
 have hR1:=hd_ (((bD.alloc (by omega) (U #[I X x'.kind,I X x'.n,Y x'.s,J xo x'.l.length xc] 80))).c1)
 have hR2:=hd_ (((bD.alloc (by omega) (U #[I X x'.kind,I X x'.n,Y x'.s,J xo x'.l.length xc] 80))).c2)
 have hBT:=hd_ ((HB.out.ext hbw9).keep (lR _) (w':=w9.alloc (U #[I X x'.kind,I X x'.n,Y x'.s,J xo x'.l.length xc] 80)) fun k hk=>Below.heap_alloc w9 _ k hk)
 have bL:Hid (Below w9.heap.size w9 (w9.alloc (U #[I X x'.kind,I X x'.n,Y x'.s,J xo x'.l.length xc] 80))):=(Below.refl _ _).alloc (lR _) _
 have hsz10:w9.heap.size<(w9.alloc (U #[I X x'.kind,I X x'.n,Y x'.s,J xo x'.l.length xc] 80)).heap.size:=by simp
 have Hbw9:=hd_ hbw9
 clear hrv hbx bB eV bD ay hq hbw9
 go_wp2
 generalize w9.alloc (U #[I X x'.kind,I X x'.n,Y x'.s,J xo x'.l.length xc] 80)=w10 at *
 have hS:=y3r ((Below.refl _ w10).drew) hR1.out hR2.out hC4.out hBT.out (by omega)
 have HS0:=hd_ hsz10
 clear hsz10
 refine wp_region_noPanic ?_
 refine wp_region_held_drew (S:=(fun w'=>w'.cell? ⟨w.heap.size+1,1,Q⟩=G (I X l.length)∧w'.cell? ⟨w.heap.size+1,2,Q⟩=G (.bool M)∧w'.cell? ⟨w9.heap.size,0,Q⟩=G (I X x'.kind)∧w'.cell? ⟨w9.heap.size,1,Q⟩=G (I X x'.n)∧w'.cell? ⟨w9.heap.size,2,Q⟩=G (Y x'.s)∧w'.cell? ⟨w9.heap.size,3,Q⟩=G (J xo x'.l.length xc)∧(convert 50 9 (J oa l.length cap)).run prog w'=.ok (Y ⟨l.toArray⟩) w')) (by kernel_rfl) hS (fun hHeld=>?_)
 refine tkH 11 0 ?_
 refine tkH 12 1 ?_
 refine tkH 13 2 ?_
 refine tkH 14 3 ?_
 refine tkH 15 4 ?_
 refine tkH 16 5 ?_
 refine tkH 17 6 ?_
 refine tkH 18 7 ?_
 refine tkH 19 8 ?_
 refine tkH 20 9 ?_
 refine tkH 21 10 ?_
 refine tkH 22 11 ?_
 refine tkH 23 12 ?_
 refine tkH 24 13 ?_
 refine tkH 25 14 ?_
 refine rdH 15 fun K hK=>?_
 go_simp
 refine (z8z x' hsx _ _ hHX.out.drew).mono ?_
 rw [it.out]
 rintro e w7 ⟨rfl,ag⟩
 have dK:Below w10.heap.size w10 w7:=y2b ag
 refine hK.out _ _ (y3r dK hR1.out hR2.out hC4.out hBT.out (by have:=HS0.out;omega)) (fun hHeld=>?_)
 clear hK K
 try simp only [Act.put,List.setIfInBounds_toArray,List.set_cons_zero,List.set_cons_succ]
 refine tkH 27 16 ?_
 refine tkH 28 17 ?_
 refine tkH 29 18 ?_
 refine tkH 30 19 ?_
 refine tkH 33 22 ?_
 refine tkH 34 23 ?_
 refine rdH 20 fun K hK=>?_
 go_simp
 refine (y1g 60000 (by decide) x' hfm.out hsx _ _ (hHX.out.ext dK)).mono ?_
 rw [Henc.out]
 rintro e w8 ⟨v2,rfl,da,kh⟩
 have hcv:=k2n da.rd
 replace dK:=z0a dK kh
 refine hK.out _ _ (y3r dK hR1.out hR2.out hC4.out hBT.out (by have:=HS0.out;omega)) (fun hHeld=>?_)
 clear hK K
 try simp only [Act.put,List.setIfInBounds_toArray,List.set_cons_zero,List.set_cons_succ]
 refine rdH 21 fun K hK=>?_
 go_simp
 refine goK hK hHeld fun hHeld=>?_
 clear hK K
 refine tkH 35 24 ?_
 refine tkH 36 25 ?_
 refine wpAnyH_done (by kernel_rfl) ?_ _
 refine NoPanic.normal ?_
 have hbl:w.heap.size<w10.heap.size:=World.block_lt_of_cell? w10 _ hBX.out.c0
 have y0:=z1a dK hBX.out.c0
 have y1:=z1a dK hBX.out.c1
 have y2:=z1a dK hBX.out.c2
 have y3:=z1a dK hBX.out.c3
 have yf:∀ o,w8.frozen? ⟨w.heap.size,o,Q⟩=M:=fun o=>(dK.frozen (p:=⟨w.heap.size,o,Q⟩) hbl).trans (hBX.out.fr o)
 obtain ⟨c0,c1,c2,c3⟩:=hC4.out.ext dK
 have HbS:=hd_ dK
 have ek:w.heap.size<w9.heap.size:=by omega
 clear kh da hcv dK hHeld hS ag
 go_wp2
 refine bodyPost_ret (v:=.tuple #[QQ #[I X x'.kind,I X x'.n,Y x'.s,J xo x'.l.length xc],I X 0]) (by simp [results,results65,go_sem,y0,y1,y2,y3]) rfl ?_
 refine ⟨xo,xc,rfl,?_,?_⟩
 ·refine x2f.keep (D:=fun k=>w.heap.size<k∧k<w9.heap.size) (hV9.out.keep (fun k hk=>⟨by have:=hk.1;simp at this;omega,hk.2⟩) fun k hk=>?_) (fun k hk=>?_) (fun _ _=>rfl)
  ·have h1:w.heap.size+2≤k:=by have:=hk.1;simp at this;omega
   have h2:w8.heap[k]? = w9.heap[k]?:=(HbS.out.block k (by have:=HS0.out;have:=hk.2;omega)).trans (bL.out.block k hk.2)
   refine Eq.trans ?_ h2
   repeat (first|rfl|refine (Below.heap_setCell _ _ _ _ (by show k≠w.heap.size;omega)).trans ?_)
  ·have:=hk.2;have:=HS0.out;have:=HbS.out.size;simp [World.setCell];omega
 ·have hw8:Below w.heap.size w w8:=z0a (z0a Hbw9.out bL.out) HbS.out
  exact (((hw8.setCell (p:=⟨w.heap.size,0,Q⟩) (lR _) _).setCell (p:=⟨w.heap.size,1,Q⟩) (lR _) _).setCell (p:=⟨w.heap.size,2,Q⟩) (lR _) _).setCell (p:=⟨w.heap.size,3,Q⟩) (lR _) _
theorem x5a (l:List UInt8) (hl:l.length≤4000) (oa:Option Addr) (cap:Nat) (w:O) (hb:z6c w.heap.size w l (J oa l.length cap)) (x:V) (hN:rdV 16 l=G (x,[])) :
 A prog 65 #[J oa l.length cap] w (k4p (G x) w) :=
 (z8x l hl oa cap w hb x hN).mono fun e w' ⟨o,c,h1,h2,h3⟩=>⟨o,c,h1,h2.rd (fun _ h=>h),h3⟩
theorem x4k (l:List UInt8) (hl:l.length≤4000) (v:Value) (w:O) (hb:z6c w.heap.size w l v):A prog 65 #[v] w (k4p (z4w l) w):=by
 obtain ⟨oa,cap,rfl⟩:=hb.shape
 unfold z4w
 cases hN:rdV 16 l with
 | none=>exact x3a l (by omega) oa cap w hb hN
 | some p =>
  obtain ⟨x,r⟩:=p
  cases r with
  | nil=>exact x5a l hl oa cap w hb x hN
  | cons c r=>exact x4a l (by omega) oa cap w hb x (c::r) hN (by simp)
end Go.Proofs.YtdblnbnofjggnaaGreatDoor
