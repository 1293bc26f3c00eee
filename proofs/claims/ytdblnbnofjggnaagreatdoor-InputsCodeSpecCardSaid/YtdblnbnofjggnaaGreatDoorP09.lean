/- Parts of the proofs of chapter 49's laws. -/
import Derived.Test.YtdblnbnofjggnaaGreatDoorP05
import Derived.Deep.DeepCutAuto
set_option maxHeartbeats 1000000
set_option maxRecDepth 100000
open Go.Lib renaming hid → hd_
open Go.Value renaming int → Q, slice → O, string → M, bool → R
open Go.IntKind renaming i64 → Y
open Option renaming none → X, some → J
open Go renaming World → I, Value → G
open Go.RowKit renaming Below → Z
set_option linter.all false
namespace Go.Proofs.YtdblnbnofjggnaaGreatDoor
open Go.Proofs.Tryz
open Go.RowKit
def j6q (x:V) (w:I) (e:Ending) (w':I):Prop:=e=.returned (.tuple #[Q Y (if fm x then dp x else 0),R (fm x)])∧Z w.heap.size w w'
theorem z2z:∀ {l:List V} {i:Nat} {x:V},l[i]? = J x→sz x≤szs l
 | [],_,_,h=>by simp at h
 | y::r,0,x,h=>by simp at h;subst h;simp [szs]
 | y::r,i+1,x,h=>by simp only [szs];have:=z2z (l:=r) (i:=i) (x:=x) (by simpa using h);omega
theorem x8l {l:List V} {i:Nat} {x:V} (h:l[i]? = J x):fms (l.take (i+1))=(fms (l.take i)&&fm x):=by
 induction l generalizing i with
 | nil=>simp at h
 | cons y r ih=>cases i with
  | zero=>simp at h;subst h;simp [fms]
  | succ i=>simp only [List.take_succ_cons,fms];rw [ih (by simpa using h),Bool.and_assoc]
theorem y1d {l:List V} {i:Nat} {x:V} (h:l[i]? = J x):dps (l.take (i+1))=max (dps (l.take i)) (dp x):=by
 induction l generalizing i with
 | nil=>simp at h
 | cons y r ih=>cases i with
  | zero=>simp at h;subst h;simp [dps]
  | succ i=>simp only [List.take_succ_cons,dps];rw [ih (by simpa using h),Nat.max_assoc]
theorem y7e {l:List V} {i:Nat} {x:V} (h:l[i]? = J x) (hf:fm x=false):fms l=false:=by
 induction l generalizing i with
 | nil=>simp at h
 | cons y r ih=>cases i with
  | zero=>simp at h;subst h;simp [fms,hf]
  | succ i=>simp only [fms,ih (by simpa using h),Bool.and_false]
theorem z3z:∀ l:List V,l.length≤szs l
 | []=>by simp
 | x::r=>by obtain ⟨k,n,s,l⟩:=x;have:=z3z r;simp only [szs,sz,List.length_cons];omega
mutual
theorem j0a:∀ x:V,dp x≤sz x
 | .mk k _ s l=>by have:=j1a l;simp only [dp,sz];split <;> omega
theorem j1a:∀ l:List V,dps l≤szs l
 | []=>by simp [dps]
 | x::r=>by have:=j0a x;have:=j1a r;simp only [dps,szs];omega
end
def k3b (k n:Int) (s:ByteArray) (lv:G) (bn bs le:Bool) (w:I) (v:G) (wx:I):Prop :=
 v=.pointer (J ⟨w.heap.size+1,0,X⟩)∧wx=(w.alloc (.cells #[Q Y k,Q Y n,M s,lv] 80)).alloc (.cells #[R false,R (bs&&le),R (bn&&le),R (bn&&bs)] 208)
theorem j0x (k n:Int) (s:ByteArray) (l:List V) (h:k<1∨3<k):fm (.mk k n s l)=false:=by
 rw [fm,if_neg (by omega),if_neg (by omega),if_neg (by omega)]
theorem v4d (n:Int) (s:ByteArray) (l:List V) (bs:Bool) (h:s.toList.isEmpty=bs):fm (.mk 1 n s l)=(bs&&l.isEmpty):=by simp [fm,h]
theorem v5d (n:Int) (s:ByteArray) (l:List V) (bn:Bool) (h:(n == 0)=bn):fm (.mk 2 n s l)=(bn&&l.isEmpty):=by simp [fm,h]
theorem k9l (n:Int) (s:ByteArray) (l:List V) (bn bs:Bool) (h:(n == 0)=bn) (h':s.toList.isEmpty=bs):fm (.mk 3 n s l)=(bn&&bs&&fms l):=by simp [fm,h,h']
theorem k0o (n:Int) (s:ByteArray) (l:List V):dp (.mk 3 n s l)=dps l+1:=by simp [dp]
theorem v6d (n:Int) (s:ByteArray) (l:List V):dp (.mk 1 n s l)=0:=by simp [dp]
theorem v7d (n:Int) (s:ByteArray) (l:List V):dp (.mk 2 n s l)=0:=by simp [dp]
def k4b (B:Nat) (w:I) (l:List V) (i d:G) (wr:I):Prop :=
 ∃ k:Nat,k≤l.length∧i=Q Y k∧d=Q Y (dps (l.take k))∧fms (l.take k)=true∧dps (l.take k)≤1000000000∧Z B w wr
theorem y2l (N:Nat) (hN:N≤1000000000):∀ (x:V) (_:sz x≤N) (v:G) (w:I) (_:RdV w.heap.size w x v),Calls prog 156 #[v] w (j6q x w):=by
 induction N with
 | zero=>intro x hx;obtain ⟨k,n,s,l⟩:=x;simp [sz] at hx
 | succ N ih =>
 have IH:=hd_ (ih (by omega));clear ih
 intro x hx v w hr
 obtain ⟨k,n,s,l⟩:=x
 obtain ⟨oa,cap,rfl,hl⟩:=hr.form
 clear hr
 simp only [V.kind,V.n,V.s,V.l] at *
 have HL:=hd_ hl;clear hl
 obtain ⟨le,hle⟩:∃ b,(((l.length:Nat):Int) == 0)=b:=⟨_,rfl⟩
 have Hle:Hid (l.isEmpty=le):=by
  show l.isEmpty=le
  rw [← hle];cases l <;> simp <;> omega
 obtain ⟨bn,hbn⟩:∃ b,(n == 0)=b:=⟨_,rfl⟩
 obtain ⟨bs,hbs⟩:∃ b,s.toList.isEmpty=b:=⟨_,rfl⟩
 go_enter func156,ntmps156
 go_upto_region 1 with fail
 go_cut [4] (fun v wx=>k3b k n s (O oa l.length cap) bn bs le w v wx)
 case first =>
  cases bn <;> cases bs <;> cases le
  all_goals go_wp2
  all_goals go_meet
  all_goals exact ⟨rfl,rfl⟩
 case rest =>
  obtain ⟨rfl,rfl⟩:=hcut
  have Hn:=hd_ hbn;have Hs:=hd_ hbs;clear hbn hbs
  by_cases aW:k=3∧bn=true∧bs=true
  case neg =>
   have hc:k=1∨k=2∨k=3∨k<1∨3<k:=by omega
   rcases hc with rfl|rfl|rfl|hc|hc
   ·have HF:=hd_ (v4d n s l bs Hs.out)
    cases bs <;> cases le
    all_goals go_wp2
    all_goals go_ret2
    all_goals exact ⟨by rw [HF.out,Hle.out,v6d];rfl,by repeat (first|exact Below.refl _ _|refine Below.alloc ?_ (by simp) _)⟩
   ·have HF:=hd_ (v5d n s l bn Hn.out)
    cases bn <;> cases le
    all_goals go_wp2
    all_goals go_ret2
    all_goals exact ⟨by rw [HF.out,Hle.out,v7d];rfl,by repeat (first|exact Below.refl _ _|refine Below.alloc ?_ (by simp) _)⟩
   ·have HF:=hd_ (k9l n s l bn bs Hn.out Hs.out)
    obtain ⟨bb,hbb,rfl⟩:∃ bb,(bn&&bs)=bb∧bb=false:=⟨_,rfl,by simpa using aW⟩
    clear aW
    go_wp2
    go_ret2
    exact ⟨by rw [HF.out,hbb];rfl,by repeat (first|exact Below.refl _ _|refine Below.alloc ?_ (by simp) _)⟩
   all_goals
    have HF:=hd_ (j0x k n s l (by omega))
    clear aW
    go_wp2
    go_ret2
    exact ⟨by rw [HF.out];rfl,by repeat (first|exact Below.refl _ _|refine Below.alloc ?_ (by simp) _)⟩
  case pos =>
   obtain ⟨rfl,rfl,rfl⟩:=aW
   have hszl:szs l≤N:=by have:=hx;simp only [sz] at this;omega
   have hll:l.length≤1000000000:=by have:=z3z l;omega
   go_wp2
   go_loopw [2,57] (fun d i wr=>k4b w.heap.size w l i d wr) (fun _ i _=>l.length - (intOf i).toNat)
   case atStart=>exact ⟨0,Nat.zero_le _,rfl,rfl,rfl,by simp [dps],by repeat (first|exact Below.refl _ _|refine Below.alloc ?_ (by simp) _)⟩
   case round =>
    obtain ⟨k,hkl,rfl,rfl,hfm,hdp,hb⟩:=hrel
    have Hfm:=hd_ hfm;clear hfm
    by_cases hlt:k<l.length
    case neg =>
     have HF:=hd_ (k9l n s l true true Hn.out Hs.out)
     have hkk:Hid (l.take k=l):=List.take_of_length_le (by omega)
     go_wp2
     go_ret2
     have hfl:fms l=true:=hkk.out ▸ Hfm.out
     exact ⟨by rw [HF.out,hfl,k0o,hkk.out];simp,hb⟩
    case pos =>
     obtain ⟨x,iQ⟩:∃ x,l[k]? = J x:=⟨l[k],by simp [hlt]⟩
     have Hx:=hd_ iQ;clear iQ
     rcases HL.out with ⟨rfl,_⟩|⟨_,c,o,cap',he,hlm,hat⟩
     ·simp at hlt
     injection he with he1 he2 he3
     subst he1
     have hv:=V.at_keep (Nat.le_refl _) hb.block x c (o+k * 4) (V.ats_get hat k x Hx.out)
     obtain ⟨aO,c0,c1,c2,xo,xc,c3,bk⟩:=V.at_def hv
     have hrd':∀ ob,RdV (wr.alloc ob).heap.size (wr.alloc ob) x (.agg #[Q Y x.kind,Q Y x.n,M x.s,O xo x.l.length xc]):=fun ob =>
      bk.keep (by have:=hb.size;simp;omega) ((Below.refl _ wr).alloc hb.size ob).block
     have hsx:=z2z Hx.out
     have hdx:=j0a x
     clear hat hv bk he2 he3
     have aj:∀ ob w',Z (wr.alloc ob).heap.size (wr.alloc ob) w'→Z w.heap.size w w':=fun ob w' de=>(hb.alloc hb.size ob).trans (de.mono (by have:=hb.size;simp;omega))
     rcases Bool.eq_false_or_eq_true (fm x) with hfx|hfx
     ·go_wp2_with (go_at_call 156;refine (IH.out x (by omega) _ _ (hrd' _)).mono ?_;rintro e w' ⟨rfl,de⟩)
      go_roundw
      case rel =>
       refine ⟨k+1,by omega,by go_num,?_,?_,?_,aj _ _ de⟩
       ·rw [y1d Hx.out];congr 1;split <;> omega
       ·rw [x8l Hx.out,Hfm.out,hfx];rfl
       ·rw [y1d Hx.out];omega
      case measure=>simp [intOf];omega
     ·go_wp2_with (go_at_call 156;refine (IH.out x (by omega) _ _ (hrd' _)).mono ?_;rintro e w' ⟨rfl,de⟩)
      have HF:=hd_ (k9l n s l true true Hn.out Hs.out)
      have hfl:=y7e Hx.out hfx
      go_ret2
      exact ⟨by rw [HF.out,hfl];rfl,aj _ _ de⟩
open Go.RowKit
theorem RdV.alloc {w:I} {x:V} {v:Value} (h:RdV w.heap.size w x v) (ob:Obj):RdV (w.alloc ob).heap.size (w.alloc ob) x v :=
 h.keep (by simp) ((Below.refl _ w).alloc (Nat.le_refl _) ob).block
theorem SlV.alloc {w:I} {x:List V} {v:Value} (h:SlV w.heap.size w x v) (ob:Obj):SlV (w.alloc ob).heap.size (w.alloc ob) x v :=
 h.keep (by simp) ((Below.refl _ w).alloc (Nat.le_refl _) ob).block
theorem RdV.ext {w w':I} {x:V} {v:Value} (h:RdV w.heap.size w x v) (hb:Z w.heap.size w w'):RdV w'.heap.size w' x v:=h.keep hb.size hb.block
theorem SlV.ext {w w':I} {x:List V} {v:Value} (h:SlV w.heap.size w x v) (hb:Z w.heap.size w w'):SlV w'.heap.size w' x v:=h.keep hb.size hb.block
theorem SlV.elem {B:Nat} {w wr:I} {l:List V} {oa:Option Addr} {cap:Nat} (h:SlV B w l (O oa l.length cap)) (hs:∀ k,k<B→wr.heap[k]? = w.heap[k]?) (hB:B≤wr.heap.size) {k:Nat} {x:V} (hx:l[k]? = J x) :
 ∃ c o xo xc,oa=J ⟨c,o,X⟩∧c<B∧wr.cell? ⟨c,o+k * 4,X⟩=J (Q Y x.kind)∧wr.cell? ⟨c,o+k * 4+1,X⟩=J (Q Y x.n)∧wr.cell? ⟨c,o+k * 4+2,X⟩=J (M x.s) ∧
  wr.cell? ⟨c,o+k * 4+3,X⟩=J (O xo x.l.length xc)∧RdV wr.heap.size wr x (.agg #[Q Y x.kind,Q Y x.n,M x.s,O xo x.l.length xc]):=by
 rcases h with ⟨rfl,_⟩|⟨_,c,o,cap',he,hlm,hat⟩
 ·simp at hx
 injection he with he1 he2 he3
 have hv:=V.at_keep (Nat.le_refl _) hs x c (o+k * 4) (V.ats_get hat k x hx)
 obtain ⟨aO,c0,c1,c2,xo,xc,c3,bk⟩:=V.at_def hv
 exact ⟨c,o,xo,xc,he1,aO,c0,c1,c2,c3,bk.keep hB (fun _ _=>rfl)⟩
def ck (x:V):Int:=if fm x then (if 16<dp x then 2 else 0) else 1
def x1f (n:Int) (w:I) (e:Ending) (w':I):Prop:=e=.returned (Q Y n)∧Z w.heap.size w w'
def j7q (b:Bool) (w:I) (e:Ending) (w':I):Prop:=e=.returned (R b)∧Z w.heap.size w w'
theorem z8w (x:V) (hx:sz x≤100000000) (v:G) (w:I) (hr:RdV w.heap.size w x v):Calls prog 102 #[v] w (x1f (ck x) w):=by
 have HR:=hd_ (fun ob=>hr.alloc ob)
 obtain ⟨oa,cap,rfl,hl⟩:=hr.form
 have hd:=j0a x
 clear hr hl
 rcases Bool.eq_false_or_eq_true (fm x) with hfx|hfx
 ·by_cases h16:16<dp x
  all_goals
   have hck:=hd_ (show ck x=(if 16<dp x then 2 else 0) from by simp [ck,hfx])
   go_enter func102,ntmps102
   go_wp2_with (go_at_call 156;refine (y2l 100000000 (by decide) x hx _ _ (HR.out _)).mono ?_;rintro e w' ⟨rfl,de⟩)
   go_ret
   exact ⟨by rw [hck.out];first|rw [if_pos h16];rfl|rw [if_neg h16];rfl,z7d de⟩
 ·have hck:=hd_ (show ck x=1 from by simp [ck,hfx])
  go_enter func102,ntmps102
  go_wp2_with (go_at_call 156;refine (y2l 100000000 (by decide) x hx _ _ (HR.out _)).mono ?_;rintro e w' ⟨rfl,de⟩)
  go_ret
  exact ⟨by rw [hck.out];rfl,z7d de⟩
open Go.RowKit
theorem k1o {s t:ByteArray} (h:s.toList=t.toList):s=t:=by
 rw [ByteArray.toList_eq,ByteArray.toList_eq] at h
 exact ByteArray.ext (Array.toList_inj.1 h)
theorem j2a {w w':I} {ob:Obj} (h:Z (w.alloc ob).heap.size (w.alloc ob) w'):Z (w.heap.size+1) (w.alloc ob) w':=h.mono (by simp)
theorem y8e {w w':I} {a b c d:Value} {t:TypeId} (h:Z (w.heap.size+1) (w.alloc (.cells #[a,b,c,d] t)) w') :
 w'.cell? ⟨w.heap.size,0,X⟩=J a∧w'.cell? ⟨w.heap.size,1,X⟩=J b∧w'.cell? ⟨w.heap.size,2,X⟩=J c∧w'.cell? ⟨w.heap.size,3,X⟩=J d :=
 ⟨(h.cell (p:=⟨w.heap.size,0,X⟩) (by simp)).trans (by simp),(h.cell (p:=⟨w.heap.size,1,X⟩) (by simp)).trans (by simp),(h.cell (p:=⟨w.heap.size,2,X⟩) (by simp)).trans (by simp),(h.cell (p:=⟨w.heap.size,3,X⟩) (by simp)).trans (by simp)⟩
theorem k5b {w w':I} {a b c d:Value} {t:TypeId} (h:Z (w.alloc (.cells #[a,b,c,d] t)).heap.size (w.alloc (.cells #[a,b,c,d] t)) w') :
 w'.cell? ⟨w.heap.size,0,X⟩=J a∧w'.cell? ⟨w.heap.size,1,X⟩=J b∧w'.cell? ⟨w.heap.size,2,X⟩=J c∧w'.cell? ⟨w.heap.size,3,X⟩=J d:=y8e (j2a h)
theorem RdV.drew {w:I} {x:V} {v:Value} (h:RdV w.heap.size w x v):RdV w.drew.heap.size w.drew x v:=h.keep (Nat.le_refl _) (fun _ _=>rfl)
structure C4 (w:I) (T:Nat) (a b c d:G):Prop where
 c0:w.cell? ⟨T,0,X⟩=J a
 c1:w.cell? ⟨T,1,X⟩=J b
 c2:w.cell? ⟨T,2,X⟩=J c
 c3:w.cell? ⟨T,3,X⟩=J d
theorem C4.ext {w w':I} {T:Nat} {a b c d:Value} (h:C4 w T a b c d) (hb:Z w.heap.size w w'):C4 w' T a b c d:=⟨z1a hb h.c0,z1a hb h.c1,z1a hb h.c2,z1a hb h.c3⟩
theorem C4.of_box {w w':I} {a b c d:Value} {t:TypeId} (h:Z (w.alloc (.cells #[a,b,c,d] t)).heap.size (w.alloc (.cells #[a,b,c,d] t)) w'):C4 w' w.heap.size a b c d:=by
 obtain ⟨c0,c1,c2,c3⟩:=k5b h
 exact ⟨c0,c1,c2,c3⟩
open Go.RowKit
def j8q (B:Nat) (w:I) (l:List V) (i:G) (wr:I):Prop:=∃ k:Nat,k≤l.length∧i=Q Y k∧fms (l.take k)=true∧Z B w wr
theorem y9e (N:Nat) (hN:N≤1000000000):∀ (x:V) (_:sz x≤N) (v:G) (w:I) (_:RdV w.heap.size w x v),Calls prog 165 #[v] w (j7q (fm x) w):=by
 induction N with
 | zero=>intro x hx;obtain ⟨k,n,s,l⟩:=x;simp [sz] at hx
 | succ N ih =>
 have IH:=hd_ (ih (by omega));clear ih
 intro x hx v w hr
 obtain ⟨k,n,s,l⟩:=x
 obtain ⟨oa,cap,rfl,hl⟩:=hr.form
 clear hr
 simp only [V.kind,V.n,V.s,V.l] at *
 have HL:=hd_ hl;clear hl
 obtain ⟨le,hle⟩:∃ b,(((l.length:Nat):Int) == 0)=b:=⟨_,rfl⟩
 have Hle:Hid (l.isEmpty=le):=by
  show l.isEmpty=le
  rw [← hle];cases l <;> simp <;> omega
 obtain ⟨bn,hbn⟩:∃ b,(n == 0)=b:=⟨_,rfl⟩
 obtain ⟨bs,hbs⟩:∃ b,s.toList.isEmpty=b:=⟨_,rfl⟩
 have Hn:Hid ((n == 0)=bn):=hbn
 have Hs:Hid (s.toList.isEmpty=bs):=hbs
 have hszl:szs l≤N:=by have:=hx;simp only [sz] at this;omega
 have hll:l.length≤1000000000:=by have:=z3z l;omega
 have hc:k=1∨k=2∨k=3∨(k<1∨3<k):=by omega
 rcases hc with rfl|rfl|rfl|hc
 ·have HF:=hd_ (v4d n s l bs Hs.out)
  cases bs <;> cases le
  all_goals
   go_enter func165,ntmps165
   go_wp2
   go_ret
   exact ⟨by rw [HF.out,Hle.out];rfl,by repeat (first|exact Below.refl _ _|refine Below.alloc ?_ (by simp) _)⟩
 ·have HF:=hd_ (v5d n s l bn Hn.out)
  cases bn <;> cases le
  all_goals
   go_enter func165,ntmps165
   go_wp2
   go_ret
   exact ⟨by rw [HF.out,Hle.out];rfl,by repeat (first|exact Below.refl _ _|refine Below.alloc ?_ (by simp) _)⟩
 ·go_enter func165,ntmps165
  go_wp2
  go_loopw [2,3] (fun r i wr=>r=R false∧j8q (w.heap.size+1) (w.alloc (.cells #[Q Y 3,Q Y n,M s,O oa l.length cap] 80)) l i wr) (fun _ i _=>l.length - (intOf i).toNat)
  case atStart=>exact ⟨rfl,0,Nat.zero_le _,rfl,rfl,Below.refl _ _⟩
  case round =>
   obtain ⟨rfl,k,hkl,rfl,hfm,hb⟩:=hrel
   have Hfm:=hd_ hfm;clear hfm
   have hbox:=fun o=>hb.cell (p:=⟨w.heap.size,o,X⟩) (by simp)
   have hbw:Z w.heap.size w wr:=z6w hb
   by_cases hlt:k<l.length
   case neg =>
    have HF:=hd_ (k9l n s l bn bs Hn.out Hs.out)
    have hkk:Hid (l.take k=l):=List.take_of_length_le (by omega)
    cases bn <;> cases bs
    all_goals
     go_wp2
     go_ret
     exact ⟨by rw [HF.out,← hkk.out,Hfm.out];rfl,hbw⟩
   case pos =>
    obtain ⟨x,iQ⟩:∃ x,l[k]? = J x:=⟨l[k],by simp [hlt]⟩
    have Hx:=hd_ iQ;clear iQ
    obtain ⟨c,o,xo,xc,rfl,aO,c0,c1,c2,c3,bk⟩:=HL.out.elem hbw.block hbw.size Hx.out
    have hsx:=z2z Hx.out
    rcases Bool.eq_false_or_eq_true (fm x) with hfx|hfx
    ·go_wp2_with (go_at_call 165;refine (IH.out x (by omega) _ _ bk).mono ?_;rintro e w' ⟨rfl,de⟩)
     go_roundw
     case rel=>exact ⟨rfl,k+1,by omega,by go_num,by rw [x8l Hx.out,Hfm.out,hfx];rfl,hb.trans (de.mono (by have:=hb.size;simpa using this))⟩
     case measure=>simp [intOf];omega
    ·go_wp2_with (go_at_call 165;refine (IH.out x (by omega) _ _ bk).mono ?_;rintro e w' ⟨rfl,de⟩)
     have HF:=hd_ (k9l n s l bn bs Hn.out Hs.out)
     have hfl:=y7e Hx.out hfx
     go_ret
     exact ⟨by rw [HF.out,hfl];simp,z0a hbw de⟩
 ·have HF:=hd_ (j0x k n s l (by omega))
  have n1:(k == 1)=false:=by rw [beq_eq_false_iff_ne];omega
  have n2:(k == 2)=false:=by rw [beq_eq_false_iff_ne];omega
  have n3:(k == 3)=false:=by rw [beq_eq_false_iff_ne];omega
  clear hc
  go_enter func165,ntmps165
  go_wp2
  go_ret
  exact ⟨by rw [HF.out];rfl,by repeat (first|exact Below.refl _ _|refine Below.alloc ?_ (by simp) _)⟩
open Go.RowKit
def k6b (B:Nat) (w:I) (l:List V) (d i:G) (wr:I):Prop:=∃ k:Nat,k≤l.length∧i=Q Y k∧d=Q Y (dps (l.take k))∧dps (l.take k)≤1000000000∧Z B w wr
theorem x2r (N:Nat) (hN:N≤1000000000):∀ (x:V) (_:sz x≤N) (v:G) (w:I) (_:RdV w.heap.size w x v),Calls prog 166 #[v] w (x1f (dp x) w):=by
 induction N with
 | zero=>intro x hx;obtain ⟨k,n,s,l⟩:=x;simp [sz] at hx
 | succ N ih =>
 have IH:=hd_ (ih (by omega));clear ih
 intro x hx v w hr
 obtain ⟨k,n,s,l⟩:=x
 obtain ⟨oa,cap,rfl,hl⟩:=hr.form
 clear hr
 simp only [V.kind,V.n,V.s,V.l] at *
 have HL:=hd_ hl;clear hl
 have hszl:szs l≤N:=by have:=hx;simp only [sz] at this;omega
 have hll:l.length≤1000000000:=by have:=z3z l;omega
 by_cases hk3:k=3
 ·subst hk3
  have HD:=hd_ (k0o n s l)
  go_enter func166,ntmps166
  go_wp2
  go_loopw [3,4] (fun d i wr=>k6b (w.heap.size+1) (w.alloc (.cells #[Q Y 3,Q Y n,M s,O oa l.length cap] 80)) l d i wr) (fun _ i _=>l.length - (intOf i).toNat)
  case atStart=>exact ⟨0,Nat.zero_le _,rfl,rfl,by simp [dps],Below.refl _ _⟩
  case round =>
   obtain ⟨k,hkl,rfl,rfl,hdp,hb⟩:=hrel
   have hbox:=fun o=>hb.cell (p:=⟨w.heap.size,o,X⟩) (by simp)
   have hbw:Z w.heap.size w wr:=z6w hb
   by_cases hlt:k<l.length
   case neg =>
    have hkk:Hid (l.take k=l):=List.take_of_length_le (by omega)
    go_wp2
    go_ret
    exact ⟨by rw [HD.out,hkk.out];simp,hbw⟩
   case pos =>
    obtain ⟨x,iQ⟩:∃ x,l[k]? = J x:=⟨l[k],by simp [hlt]⟩
    have Hx:=hd_ iQ;clear iQ
    obtain ⟨c,o,xo,xc,rfl,aO,c0,c1,c2,c3,bk⟩:=HL.out.elem hbw.block hbw.size Hx.out
    have hsx:=z2z Hx.out
    have hdx:=j0a x
    go_wp2_with (go_at_call 166;refine (IH.out x (by omega) _ _ bk).mono ?_;rintro e w' ⟨rfl,de⟩)
    go_roundw
    case rel =>
     refine ⟨k+1,by omega,by go_num,?_,?_,hb.trans (de.mono (by have:=hb.size;simpa using this))⟩
     ·rw [y1d Hx.out];congr 1;split <;> omega
     ·rw [y1d Hx.out];omega
    case measure=>simp [intOf];omega
 ·have HD:Hid (dp (.mk k n s l)=0):=by show dp (.mk k n s l)=0;rw [dp,if_neg hk3]
  have n3:(k != 3)=true:=by rw [bne_iff_ne];exact hk3
  clear hk3
  go_enter func166,ntmps166
  go_wp2
  go_ret
  exact ⟨by rw [HD.out];rfl,by repeat (first|exact Below.refl _ _|refine Below.alloc ?_ (by simp) _)⟩
end Go.Proofs.YtdblnbnofjggnaaGreatDoor
