/- Parts of the proofs of chapter 49's laws: Form Chk Cfo Rfm Rdp. -/
import Derived.Test.YtdblnbnofjggnaaGreatDoorM05
import Derived.Deep.DeepCutAuto
set_option maxHeartbeats 1000000
set_option maxRecDepth 100000
open Go
open Lib renaming hid → hd_
namespace Go.Proofs.YtdblnbnofjggnaaGreatDoor
open Go.RowKit
def j0l (x:V) (w:World) (e:Ending) (w':World):Prop:=e = .returned (.tuple #[.int .i64 (if fm x then dp x else 0),.bool (fm x)])∧Below w.heap.size w w'
theorem z7w:∀ {l:List V} {i:Nat} {x:V},l[i]? = some x→sz x ≤ szs l
 | [],_,_,h=>by simp at h
 | y :: r,0,x,h=>by simp at h;subst h;simp [szs]
 | y :: r,i + 1,x,h=>by simp only [szs];have:=z7w (l:=r) (i:=i) (x:=x) (by simpa using h);omega
theorem x1j {l:List V} {i:Nat} {x:V} (h:l[i]? = some x):fms (l.take (i + 1)) = (fms (l.take i) && fm x):=by
 induction l generalizing i with
 | nil=>simp at h
 | cons y r ih=>cases i with
  | zero=>simp at h;subst h;simp [fms]
  | succ i=>simp only [List.take_succ_cons,fms];rw [ih (by simpa using h),Bool.and_assoc]
theorem y1a {l:List V} {i:Nat} {x:V} (h:l[i]? = some x):dps (l.take (i + 1)) = max (dps (l.take i)) (dp x):=by
 induction l generalizing i with
 | nil=>simp at h
 | cons y r ih=>cases i with
  | zero=>simp at h;subst h;simp [dps]
  | succ i=>simp only [List.take_succ_cons,dps];rw [ih (by simpa using h),Nat.max_assoc]
theorem y6b {l:List V} {i:Nat} {x:V} (h:l[i]? = some x) (hf:fm x = false):fms l = false:=by
 induction l generalizing i with
 | nil=>simp at h
 | cons y r ih=>cases i with
  | zero=>simp at h;subst h;simp [fms,hf]
  | succ i=>simp only [fms,ih (by simpa using h),Bool.and_false]
theorem z8w:∀ l:List V,l.length ≤ szs l
 | []=>by simp
 | x :: r=>by obtain ⟨k,n,s,l⟩:=x;have:=z8w r;simp only [szs,sz,List.length_cons];omega
mutual
theorem x3w:∀ x:V,dp x ≤ sz x
 | .mk k _ s l=>by have:=x4w l;simp only [dp,sz];split <;> omega
theorem x4w:∀ l:List V,dps l ≤ szs l
 | []=>by simp [dps]
 | x :: r=>by have:=x3w x;have:=x4w r;simp only [dps,szs];omega
end
def j8v (k n:Int) (s:ByteArray) (lv:Value) (bn bs le:Bool) (w:World) (v:Value) (wx:World):Prop :=
 v = .pointer (some ⟨w.heap.size + 1,0,none⟩)∧wx = (w.alloc (.cells #[.int .i64 k,.int .i64 n,.string s,lv] 80)).alloc (.cells #[.bool false,.bool (bs && le),.bool (bn && le),.bool (bn && bs)] 208)
theorem j2r (k n:Int) (s:ByteArray) (l:List V) (h:k < 1∨3 < k):fm (.mk k n s l) = false:=by
 rw [fm,if_neg (by omega),if_neg (by omega),if_neg (by omega)]
theorem k4v (n:Int) (s:ByteArray) (l:List V) (bs:Bool) (h:s.toList.isEmpty = bs):fm (.mk 1 n s l) = (bs && l.isEmpty):=by simp [fm,h]
theorem k5v (n:Int) (s:ByteArray) (l:List V) (bn:Bool) (h:(n == 0) = bn):fm (.mk 2 n s l) = (bn && l.isEmpty):=by simp [fm,h]
theorem k8e (n:Int) (s:ByteArray) (l:List V) (bn bs:Bool) (h:(n == 0) = bn) (h':s.toList.isEmpty = bs):fm (.mk 3 n s l) = (bn && bs && fms l):=by simp [fm,h,h']
theorem k6g (n:Int) (s:ByteArray) (l:List V):dp (.mk 3 n s l) = dps l + 1:=by simp [dp]
theorem k6v (n:Int) (s:ByteArray) (l:List V):dp (.mk 1 n s l) = 0:=by simp [dp]
theorem k7v (n:Int) (s:ByteArray) (l:List V):dp (.mk 2 n s l) = 0:=by simp [dp]
def j9v (B:Nat) (w:World) (l:List V) (i d:Value) (wr:World):Prop :=
 ∃ k:Nat,k ≤ l.length∧i = .int .i64 k∧d = .int .i64 (dps (l.take k))∧fms (l.take k) = true∧dps (l.take k) ≤ 1000000000∧Below B w wr
theorem y8h (N:Nat) (hN:N ≤ 1000000000):∀ (x:V) (_:sz x ≤ N) (v:Value) (w:World) (_:RdV w.heap.size w x v),Calls Tryz.prog 156 #[v] w (j0l x w):=by
 induction N with
 | zero=>intro x hx;obtain ⟨k,n,s,l⟩:=x;simp [sz] at hx
 | succ N ih =>
 have IH:=hd_ (ih (by omega));clear ih
 intro x hx v w hr
 obtain ⟨k,n,s,l⟩:=x
 obtain ⟨oa,cap,rfl,hl⟩:=hr.form
 clear hr
 simp only [V.kind,V.n,V.s,V.l] at *
 have HL:=hd_ hl;clear hl
 obtain ⟨le,hle⟩:∃ b,(((l.length:Nat):Int) == 0) = b:=⟨_,rfl⟩
 have Hle:Hid (l.isEmpty = le):=by
  show l.isEmpty = le
  rw [← hle];cases l <;> simp <;> omega
 obtain ⟨bn,hbn⟩:∃ b,(n == 0) = b:=⟨_,rfl⟩
 obtain ⟨bs,hbs⟩:∃ b,s.toList.isEmpty = b:=⟨_,rfl⟩
 go_enter Tryz.func156,Tryz.ntmps156
 go_upto_region 1 with fail
 go_cut [4] (fun v wx=>j8v k n s (.slice oa l.length cap) bn bs le w v wx)
 case first =>
  cases bn <;> cases bs <;> cases le
  all_goals go_wp2
  all_goals go_meet
  all_goals exact ⟨rfl,rfl⟩
 case rest =>
  obtain ⟨rfl,rfl⟩:=hcut
  have Hn:=hd_ hbn;have Hs:=hd_ hbs;clear hbn hbs
  by_cases hok:k = 3∧bn = true∧bs = true
  case neg =>
   have hc:k = 1∨k = 2∨k = 3∨k < 1∨3 < k:=by omega
   rcases hc with rfl | rfl | rfl | hc | hc
   · have HF:=hd_ (k4v n s l bs Hs.out)
     cases bs <;> cases le
     all_goals go_wp2
     all_goals go_ret2
     all_goals exact ⟨by rw [HF.out,Hle.out,k6v];rfl,by repeat (first | exact Below.refl _ _ | refine Below.alloc ?_ (by simp) _)⟩
   · have HF:=hd_ (k5v n s l bn Hn.out)
     cases bn <;> cases le
     all_goals go_wp2
     all_goals go_ret2
     all_goals exact ⟨by rw [HF.out,Hle.out,k7v];rfl,by repeat (first | exact Below.refl _ _ | refine Below.alloc ?_ (by simp) _)⟩
   · have HF:=hd_ (k8e n s l bn bs Hn.out Hs.out)
     obtain ⟨bb,hbb,rfl⟩:∃ bb,(bn && bs) = bb∧bb = false:=⟨_,rfl,by simpa using hok⟩
     clear hok
     go_wp2
     go_ret2
     exact ⟨by rw [HF.out,hbb];rfl,by repeat (first | exact Below.refl _ _ | refine Below.alloc ?_ (by simp) _)⟩
   all_goals
    have HF:=hd_ (j2r k n s l (by omega))
    clear hok
    go_wp2
    go_ret2
    exact ⟨by rw [HF.out];rfl,by repeat (first | exact Below.refl _ _ | refine Below.alloc ?_ (by simp) _)⟩
  case pos =>
   obtain ⟨rfl,rfl,rfl⟩:=hok
   have hszl:szs l ≤ N:=by have:=hx;simp only [sz] at this;omega
   have hll:l.length ≤ 1000000000:=by have:=z8w l;omega
   go_wp2
   go_loopw [2,57] (fun d i wr=>j9v w.heap.size w l i d wr) (fun _ i _=>l.length - (intOf i).toNat)
   case atStart=>exact ⟨0,Nat.zero_le _,rfl,rfl,rfl,by simp [dps],by repeat (first | exact Below.refl _ _ | refine Below.alloc ?_ (by simp) _)⟩
   case round =>
    obtain ⟨k,hkl,rfl,rfl,hfm,hdp,hb⟩:=hrel
    have Hfm:=hd_ hfm;clear hfm
    by_cases hlt:k < l.length
    case neg =>
     have HF:=hd_ (k8e n s l true true Hn.out Hs.out)
     have hkk:Hid (l.take k = l):=List.take_of_length_le (by omega)
     go_wp2
     go_ret2
     have hfl:fms l = true:=hkk.out ▸ Hfm.out
     exact ⟨by rw [HF.out,hfl,k6g,hkk.out];simp,hb⟩
    case pos =>
     obtain ⟨x,hx'⟩:∃ x,l[k]? = some x:=⟨l[k],by simp [hlt]⟩
     have Hx:=hd_ hx';clear hx'
     rcases HL.out with ⟨rfl,_⟩ | ⟨_,c,o,cap',he,hlm,hat⟩
     · simp at hlt
     injection he with he1 he2 he3
     subst he1
     have hv:=V.at_keep (Nat.le_refl _) hb.block x c (o + k * 4) (V.ats_get hat k x Hx.out)
     obtain ⟨hcb,c0,c1,c2,xo,xc,c3,hrd⟩:=V.at_def hv
     have hrd':∀ ob,RdV (wr.alloc ob).heap.size (wr.alloc ob) x (.agg #[.int .i64 x.kind,.int .i64 x.n,.string x.s,.slice xo x.l.length xc]):=fun ob =>
      hrd.keep (by have:=hb.size;simp;omega) ((Below.refl _ wr).alloc hb.size ob).block
     have hsx:=z7w Hx.out
     have hdx:=x3w x
     clear hat hv hrd he2 he3
     have hb2:∀ ob w',Below (wr.alloc ob).heap.size (wr.alloc ob) w'→Below w.heap.size w w':=fun ob w' hb'=>(hb.alloc hb.size ob).trans (hb'.mono (by have:=hb.size;simp;omega))
     rcases Bool.eq_false_or_eq_true (fm x) with hfx | hfx
     · go_wp2_with (go_at_call 156;refine (IH.out x (by omega) _ _ (hrd' _)).mono ?_;rintro e w' ⟨rfl,hb'⟩)
       go_roundw
       case rel =>
        refine ⟨k + 1,by omega,by go_num,?_,?_,?_,hb2 _ _ hb'⟩
        · rw [y1a Hx.out];congr 1;split <;> omega
        · rw [x1j Hx.out,Hfm.out,hfx];rfl
        · rw [y1a Hx.out];omega
       case measure=>simp [intOf];omega
     · go_wp2_with (go_at_call 156;refine (IH.out x (by omega) _ _ (hrd' _)).mono ?_;rintro e w' ⟨rfl,hb'⟩)
       have HF:=hd_ (k8e n s l true true Hn.out Hs.out)
       have hfl:=y6b Hx.out hfx
       go_ret2
       exact ⟨by rw [HF.out,hfl];rfl,hb2 _ _ hb'⟩
open Go.RowKit
theorem RdV.alloc {w:World} {x:V} {v:Value} (h:RdV w.heap.size w x v) (ob:Obj):RdV (w.alloc ob).heap.size (w.alloc ob) x v :=
 h.keep (by simp) ((Below.refl _ w).alloc (Nat.le_refl _) ob).block
theorem SlV.alloc {w:World} {x:List V} {v:Value} (h:SlV w.heap.size w x v) (ob:Obj):SlV (w.alloc ob).heap.size (w.alloc ob) x v :=
 h.keep (by simp) ((Below.refl _ w).alloc (Nat.le_refl _) ob).block
theorem RdV.ext {w w':World} {x:V} {v:Value} (h:RdV w.heap.size w x v) (hb:Below w.heap.size w w'):RdV w'.heap.size w' x v:=h.keep hb.size hb.block
theorem SlV.ext {w w':World} {x:List V} {v:Value} (h:SlV w.heap.size w x v) (hb:Below w.heap.size w w'):SlV w'.heap.size w' x v:=h.keep hb.size hb.block
theorem SlV.elem {B:Nat} {w wr:World} {l:List V} {oa:Option Addr} {cap:Nat} (h:SlV B w l (.slice oa l.length cap)) (hs:∀ k,k < B→wr.heap[k]? = w.heap[k]?) (hB:B ≤ wr.heap.size) {k:Nat} {x:V} (hx:l[k]? = some x) :
 ∃ c o xo xc,oa = some ⟨c,o,none⟩∧c < B∧wr.cell? ⟨c,o + k * 4,none⟩ = some (.int .i64 x.kind)∧wr.cell? ⟨c,o + k * 4 + 1,none⟩ = some (.int .i64 x.n)∧wr.cell? ⟨c,o + k * 4 + 2,none⟩ = some (.string x.s) ∧
  wr.cell? ⟨c,o + k * 4 + 3,none⟩ = some (.slice xo x.l.length xc)∧RdV wr.heap.size wr x (.agg #[.int .i64 x.kind,.int .i64 x.n,.string x.s,.slice xo x.l.length xc]):=by
 rcases h with ⟨rfl,_⟩ | ⟨_,c,o,cap',he,hlm,hat⟩
 · simp at hx
 injection he with he1 he2 he3
 have hv:=V.at_keep (Nat.le_refl _) hs x c (o + k * 4) (V.ats_get hat k x hx)
 obtain ⟨hcb,c0,c1,c2,xo,xc,c3,hrd⟩:=V.at_def hv
 exact ⟨c,o,xo,xc,he1,hcb,c0,c1,c2,c3,hrd.keep hB (fun _ _=>rfl)⟩
def ck (x:V):Int:=if fm x then (if 16 < dp x then 2 else 0) else 1
def x9b (n:Int) (w:World) (e:Ending) (w':World):Prop:=e = .returned (.int .i64 n)∧Below w.heap.size w w'
def j1l (b:Bool) (w:World) (e:Ending) (w':World):Prop:=e = .returned (.bool b)∧Below w.heap.size w w'
theorem z0v (x:V) (hx:sz x ≤ 100000000) (v:Value) (w:World) (hr:RdV w.heap.size w x v):Calls Tryz.prog 102 #[v] w (x9b (ck x) w):=by
 have HR:=hd_ (fun ob=>hr.alloc ob)
 obtain ⟨oa,cap,rfl,hl⟩:=hr.form
 have hd:=x3w x
 clear hr hl
 rcases Bool.eq_false_or_eq_true (fm x) with hfx | hfx
 · by_cases h16:16 < dp x
   all_goals
    have hck:=hd_ (show ck x = (if 16 < dp x then 2 else 0) from by simp [ck,hfx])
    go_enter Tryz.func102,Tryz.ntmps102
    go_wp2_with (go_at_call 156;refine (y8h 100000000 (by decide) x hx _ _ (HR.out _)).mono ?_;rintro e w' ⟨rfl,hb'⟩)
    go_ret
    exact ⟨by rw [hck.out];first | rw [if_pos h16];rfl | rw [if_neg h16];rfl,z3d hb'⟩
 · have hck:=hd_ (show ck x = 1 from by simp [ck,hfx])
   go_enter Tryz.func102,Tryz.ntmps102
   go_wp2_with (go_at_call 156;refine (y8h 100000000 (by decide) x hx _ _ (HR.out _)).mono ?_;rintro e w' ⟨rfl,hb'⟩)
   go_ret
   exact ⟨by rw [hck.out];rfl,z3d hb'⟩
open Go.RowKit
theorem k7g {s t:ByteArray} (h:s.toList = t.toList):s = t:=by
 rw [ByteArray.toList_eq,ByteArray.toList_eq] at h
 exact ByteArray.ext (Array.toList_inj.1 h)
theorem j3r {w w':World} {ob:Obj} (h:Below (w.alloc ob).heap.size (w.alloc ob) w'):Below (w.heap.size + 1) (w.alloc ob) w':=h.mono (by simp)
theorem y1s {w w':World} {a b c d:Value} {t:TypeId} (h:Below (w.heap.size + 1) (w.alloc (.cells #[a,b,c,d] t)) w') :
 w'.cell? ⟨w.heap.size,0,none⟩ = some a∧w'.cell? ⟨w.heap.size,1,none⟩ = some b∧w'.cell? ⟨w.heap.size,2,none⟩ = some c∧w'.cell? ⟨w.heap.size,3,none⟩ = some d :=
 ⟨(h.cell (p:=⟨w.heap.size,0,none⟩) (by simp)).trans (by simp),(h.cell (p:=⟨w.heap.size,1,none⟩) (by simp)).trans (by simp),(h.cell (p:=⟨w.heap.size,2,none⟩) (by simp)).trans (by simp),(h.cell (p:=⟨w.heap.size,3,none⟩) (by simp)).trans (by simp)⟩
theorem RdV.drew {w:World} {x:V} {v:Value} (h:RdV w.heap.size w x v):RdV w.drew.heap.size w.drew x v:=h.keep (Nat.le_refl _) (fun _ _=>rfl)
open Go.RowKit
def j2l (B:Nat) (w:World) (l:List V) (i:Value) (wr:World):Prop:=∃ k:Nat,k ≤ l.length∧i = .int .i64 k∧fms (l.take k) = true∧Below B w wr
theorem y7b (N:Nat) (hN:N ≤ 1000000000):∀ (x:V) (_:sz x ≤ N) (v:Value) (w:World) (_:RdV w.heap.size w x v),Calls Tryz.prog 165 #[v] w (j1l (fm x) w):=by
 induction N with
 | zero=>intro x hx;obtain ⟨k,n,s,l⟩:=x;simp [sz] at hx
 | succ N ih =>
 have IH:=hd_ (ih (by omega));clear ih
 intro x hx v w hr
 obtain ⟨k,n,s,l⟩:=x
 obtain ⟨oa,cap,rfl,hl⟩:=hr.form
 clear hr
 simp only [V.kind,V.n,V.s,V.l] at *
 have HL:=hd_ hl;clear hl
 obtain ⟨le,hle⟩:∃ b,(((l.length:Nat):Int) == 0) = b:=⟨_,rfl⟩
 have Hle:Hid (l.isEmpty = le):=by
  show l.isEmpty = le
  rw [← hle];cases l <;> simp <;> omega
 obtain ⟨bn,hbn⟩:∃ b,(n == 0) = b:=⟨_,rfl⟩
 obtain ⟨bs,hbs⟩:∃ b,s.toList.isEmpty = b:=⟨_,rfl⟩
 have Hn:Hid ((n == 0) = bn):=hbn
 have Hs:Hid (s.toList.isEmpty = bs):=hbs
 have hszl:szs l ≤ N:=by have:=hx;simp only [sz] at this;omega
 have hll:l.length ≤ 1000000000:=by have:=z8w l;omega
 have hc:k = 1∨k = 2∨k = 3∨(k < 1∨3 < k):=by omega
 rcases hc with rfl | rfl | rfl | hc
 · have HF:=hd_ (k4v n s l bs Hs.out)
   cases bs <;> cases le
   all_goals
    go_enter Tryz.func165,Tryz.ntmps165
    go_wp2
    go_ret
    exact ⟨by rw [HF.out,Hle.out];rfl,by repeat (first | exact Below.refl _ _ | refine Below.alloc ?_ (by simp) _)⟩
 · have HF:=hd_ (k5v n s l bn Hn.out)
   cases bn <;> cases le
   all_goals
    go_enter Tryz.func165,Tryz.ntmps165
    go_wp2
    go_ret
    exact ⟨by rw [HF.out,Hle.out];rfl,by repeat (first | exact Below.refl _ _ | refine Below.alloc ?_ (by simp) _)⟩
 · go_enter Tryz.func165,Tryz.ntmps165
   go_wp2
   go_loopw [2,3] (fun r i wr=>r = .bool false∧j2l (w.heap.size + 1) (w.alloc (.cells #[.int .i64 3,.int .i64 n,.string s,.slice oa l.length cap] 80)) l i wr) (fun _ i _=>l.length - (intOf i).toNat)
   case atStart=>exact ⟨rfl,0,Nat.zero_le _,rfl,rfl,Below.refl _ _⟩
   case round =>
    obtain ⟨rfl,k,hkl,rfl,hfm,hb⟩:=hrel
    have Hfm:=hd_ hfm;clear hfm
    have hbox:=fun o=>hb.cell (p:=⟨w.heap.size,o,none⟩) (by simp)
    have hbw:Below w.heap.size w wr:=z8u hb
    by_cases hlt:k < l.length
    case neg =>
     have HF:=hd_ (k8e n s l bn bs Hn.out Hs.out)
     have hkk:Hid (l.take k = l):=List.take_of_length_le (by omega)
     cases bn <;> cases bs
     all_goals
      go_wp2
      go_ret
      exact ⟨by rw [HF.out,← hkk.out,Hfm.out];rfl,hbw⟩
    case pos =>
     obtain ⟨x,hx'⟩:∃ x,l[k]? = some x:=⟨l[k],by simp [hlt]⟩
     have Hx:=hd_ hx';clear hx'
     obtain ⟨c,o,xo,xc,rfl,hcb,c0,c1,c2,c3,hrd⟩:=HL.out.elem hbw.block hbw.size Hx.out
     have hsx:=z7w Hx.out
     rcases Bool.eq_false_or_eq_true (fm x) with hfx | hfx
     · go_wp2_with (go_at_call 165;refine (IH.out x (by omega) _ _ hrd).mono ?_;rintro e w' ⟨rfl,hb'⟩)
       go_roundw
       case rel=>exact ⟨rfl,k + 1,by omega,by go_num,by rw [x1j Hx.out,Hfm.out,hfx];rfl,hb.trans (hb'.mono (by have:=hb.size;simpa using this))⟩
       case measure=>simp [intOf];omega
     · go_wp2_with (go_at_call 165;refine (IH.out x (by omega) _ _ hrd).mono ?_;rintro e w' ⟨rfl,hb'⟩)
       have HF:=hd_ (k8e n s l bn bs Hn.out Hs.out)
       have hfl:=y6b Hx.out hfx
       go_ret
       exact ⟨by rw [HF.out,hfl];simp,z0a hbw hb'⟩
 · have HF:=hd_ (j2r k n s l (by omega))
   have n1:(k == 1) = false:=by rw [beq_eq_false_iff_ne];omega
   have n2:(k == 2) = false:=by rw [beq_eq_false_iff_ne];omega
   have n3:(k == 3) = false:=by rw [beq_eq_false_iff_ne];omega
   clear hc
   go_enter Tryz.func165,Tryz.ntmps165
   go_wp2
   go_ret
   exact ⟨by rw [HF.out];rfl,by repeat (first | exact Below.refl _ _ | refine Below.alloc ?_ (by simp) _)⟩
open Go.RowKit
def j0w (B:Nat) (w:World) (l:List V) (d i:Value) (wr:World):Prop:=∃ k:Nat,k ≤ l.length∧i = .int .i64 k∧d = .int .i64 (dps (l.take k))∧dps (l.take k) ≤ 1000000000∧Below B w wr
theorem x3o (N:Nat) (hN:N ≤ 1000000000):∀ (x:V) (_:sz x ≤ N) (v:Value) (w:World) (_:RdV w.heap.size w x v),Calls Tryz.prog 166 #[v] w (x9b (dp x) w):=by
 induction N with
 | zero=>intro x hx;obtain ⟨k,n,s,l⟩:=x;simp [sz] at hx
 | succ N ih =>
 have IH:=hd_ (ih (by omega));clear ih
 intro x hx v w hr
 obtain ⟨k,n,s,l⟩:=x
 obtain ⟨oa,cap,rfl,hl⟩:=hr.form
 clear hr
 simp only [V.kind,V.n,V.s,V.l] at *
 have HL:=hd_ hl;clear hl
 have hszl:szs l ≤ N:=by have:=hx;simp only [sz] at this;omega
 have hll:l.length ≤ 1000000000:=by have:=z8w l;omega
 by_cases hk3:k = 3
 · subst hk3
   have HD:=hd_ (k6g n s l)
   go_enter Tryz.func166,Tryz.ntmps166
   go_wp2
   go_loopw [3,4] (fun d i wr=>j0w (w.heap.size + 1) (w.alloc (.cells #[.int .i64 3,.int .i64 n,.string s,.slice oa l.length cap] 80)) l d i wr) (fun _ i _=>l.length - (intOf i).toNat)
   case atStart=>exact ⟨0,Nat.zero_le _,rfl,rfl,by simp [dps],Below.refl _ _⟩
   case round =>
    obtain ⟨k,hkl,rfl,rfl,hdp,hb⟩:=hrel
    have hbox:=fun o=>hb.cell (p:=⟨w.heap.size,o,none⟩) (by simp)
    have hbw:Below w.heap.size w wr:=z8u hb
    by_cases hlt:k < l.length
    case neg =>
     have hkk:Hid (l.take k = l):=List.take_of_length_le (by omega)
     go_wp2
     go_ret
     exact ⟨by rw [HD.out,hkk.out];simp,hbw⟩
    case pos =>
     obtain ⟨x,hx'⟩:∃ x,l[k]? = some x:=⟨l[k],by simp [hlt]⟩
     have Hx:=hd_ hx';clear hx'
     obtain ⟨c,o,xo,xc,rfl,hcb,c0,c1,c2,c3,hrd⟩:=HL.out.elem hbw.block hbw.size Hx.out
     have hsx:=z7w Hx.out
     have hdx:=x3w x
     go_wp2_with (go_at_call 166;refine (IH.out x (by omega) _ _ hrd).mono ?_;rintro e w' ⟨rfl,hb'⟩)
     go_roundw
     case rel =>
      refine ⟨k + 1,by omega,by go_num,?_,?_,hb.trans (hb'.mono (by have:=hb.size;simpa using this))⟩
      · rw [y1a Hx.out];congr 1;split <;> omega
      · rw [y1a Hx.out];omega
     case measure=>simp [intOf];omega
 · have HD:Hid (dp (.mk k n s l) = 0):=by show dp (.mk k n s l) = 0;rw [dp,if_neg hk3]
   have n3:(k != 3) = true:=by rw [bne_iff_ne];exact hk3
   clear hk3
   go_enter Tryz.func166,Tryz.ntmps166
   go_wp2
   go_ret
   exact ⟨by rw [HD.out];rfl,by repeat (first | exact Below.refl _ _ | refine Below.alloc ?_ (by simp) _)⟩
end Go.Proofs.YtdblnbnofjggnaaGreatDoor
