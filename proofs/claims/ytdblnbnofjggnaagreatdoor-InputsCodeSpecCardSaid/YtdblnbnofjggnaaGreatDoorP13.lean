/- Parts of the proofs of chapter 49's laws. -/
import Derived.Test.YtdblnbnofjggnaaGreatDoorP05
import Derived.Lib.Strings
import Derived.Lib.Slices
import Derived.Lib.Walk
import Derived.Lib.Bytealg
set_option maxHeartbeats 2000000
set_option maxRecDepth 100000
open Go.Lib renaming hid → hd_
open Go.Ending renaming returned → X
open Bool renaming true → Q, false → Z
open Decidable renaming decide → I
open Go renaming World → J, Calls → Y
set_option linter.all false
namespace Go.Proofs.YtdblnbnofjggnaaGreatDoor
open Go.Proofs.Tryz
open Go.RowKit
theorem z6r (s:ByteArray) (c:Int) (w:J) :
 Y prog 206 #[.string s,.int .u8 c] w fun e w'=>e=X (.int .i64 (Lib.indexByte s.data.toList c.toNat.toUInt8))∧w'=w:=by
 go_enter func206,ntmps206
 go_wp2
 rw [run_callFunc_extern func217 (by kernel_rfl) (by kernel_rfl) (by kernel_rfl) (e:=Extern.BytealgIndexByte.indexByte) (by kernel_rfl),Lib.run_indexByteString]
 simp only [Result.andThen]
 rw [Oper.upon_value]
 go_wp2
 go_ret
 exact ⟨rfl,rfl⟩
theorem z4z (s:ByteArray) (c:Int) (w:J) :
 Y prog 192 #[.string s,.int .u8 c] w fun e w'=>e=X (.int .i64 (Lib.indexByte s.data.toList c.toNat.toUInt8))∧w=w':=by
 go_enter func192,ntmps192
 go_wp2_with (go_at_call 206;refine (z6r _ _ _).mono ?_;rintro e w' ⟨rfl,rfl⟩)
 go_ret
 exact ⟨rfl,rfl⟩
def x4m (c:Int):Bool:=I (97≤c∧c≤122∨65≤c∧c≤90)
def k0m (c:Int):Bool:=I (48≤c∧c≤57)
def z7v (c:Int):Bool:=I (97≤c∧c≤122∨65≤c∧c≤90∨48≤c∧c≤57∨c=95)
def j6a (c:Int) (w:J) (e:Ending) (w':J):Prop:=∃ k:Int,e=X (.int .i64 k)∧w=w'∧(k == 2)=x4m c∧(k == 2 || k == 3 || k == 5)=z7v c
theorem j6a.mk {c k:Int} {w:J} (h1:(k == 2)=x4m c) (h2:(k == 2 || k == 3 || k == 5)=z7v c):j6a c w (.returned (.int .i64 k)) w:=⟨k,rfl,rfl,h1,h2⟩
theorem y3v (c:Int) (w:J):Y prog 152 #[.int .u8 c] w (j6a c w):=by
 obtain ⟨q,hq⟩:∃ q,Lib.indexByte [123,125,40,41,59,44,61,35,47,60,33,45,46] c.toNat.toUInt8=q:=⟨_,rfl⟩
 go_enter func152,ntmps152
 go_wp2_with (go_at_call 192;refine (z4z _ _ _).mono ?_;rintro e w' ⟨rfl,rfl⟩)
 all_goals go_ret
 all_goals refine j6a.mk ?_ ?_
 all_goals (try simp only [beq_iff_eq,beq_eq_false_iff_ne,ne_eq] at *)
 all_goals (simp [x4m,z7v];try omega)
def z1q (l:List UInt8):Bool:=I (1≤l.length∧l.length≤32)&&x4m ((l.headD 0).toNat:Int)&&l.all fun c=>z7v (c.toNat:Int)
theorem j7a {l:List UInt8} (h:z1q l=Q):1≤l.length∧l.length≤32:=by
 unfold z1q at h;simp only [Bool.and_eq_true,decide_eq_true_eq] at h;exact h.1.1
theorem y5l {l:List UInt8} (h:32<l.length):z1q l=Z:=by
 cases hb:z1q l
 ·rfl
 ·have:=j7a hb;omega
theorem j8a (s:ByteArray) (h:0<s.size):s.data.toList.headD 0=s[0]:=by
 obtain ⟨⟨l⟩⟩:=s
 cases l with
 | nil=>simp [ByteArray.size] at h
 | cons a r=>rfl
theorem j1x (s:ByteArray) (k:Nat) (h:k<s.size):s.data.toList[k]? = some s[k]:=by
 rw [List.getElem?_eq_getElem (by simpa using h)];rfl
theorem y4f (s:ByteArray) (h:0<s.size) (hl:x4m (s[0].toNat:Int)=Z):z1q s.data.toList=Z:=by
 unfold z1q;rw [j8a s h,hl];simp
theorem y6l (s:ByteArray) (k:Nat) (h:k<s.size) (hl:z7v (s[k].toNat:Int)=Z):z1q s.data.toList=Z:=by
 have hm:s[k]∈s.data.toList:=List.mem_of_getElem? (j1x s k h)
 have ha:(s.data.toList.all fun c=>z7v (c.toNat:Int))=Z:=by
  rw [List.all_eq_false];exact ⟨_,hm,by rw [hl];decide⟩
 unfold z1q;rw [ha];simp
theorem x5m (s:ByteArray) (k:Nat) (h:k<s.size) (ha:((s.data.toList.take k).all fun c=>z7v (c.toNat:Int))=Q) (hl:z7v (s[k].toNat:Int)=Q):((s.data.toList.take (k+1)).all fun c=>z7v (c.toNat:Int))=Q:=by
 rw [List.take_add_one,j1x s k h,List.all_append,ha];simp [hl]
theorem y4v (s:ByteArray) (h:0<s.size) (h2:s.size≤32) (hl:x4m (s[0].toNat:Int)=Q) (ha:((s.data.toList.take s.size).all fun c=>z7v (c.toNat:Int))=Q):z1q s.data.toList=Q:=by
 rw [List.take_of_length_le (by simp)] at ha
 unfold z1q
 rw [j8a s h,hl,ha];simp;omega
def z2q (s:ByteArray) (w:J) (e:Ending) (w':J):Prop:=e=X (.bool (z1q s.data.toList))∧w=w'
theorem z2q.mk {s:ByteArray} {b:Bool} {w:J} (h:z1q s.data.toList=b):z2q s w (.returned (.bool b)) w:=⟨by rw [h],rfl⟩
theorem y5f {k n:Int} {b:Bool} (h:(k == n)=b):(k != n) = !b:=by rw [← h];rfl
def k2o (s:ByteArray) (w:J) (i:Value) (wr:J):Prop:=∃ k:Nat,k≤s.size∧i=.int .i64 k∧((s.data.toList.take k).all fun c=>z7v (c.toNat:Int))=Q∧w=wr
theorem x6m (s:ByteArray) (hs:s.size≤9223372036854775807) (w:J):Y prog 79 #[.string s] w (z2q s w):=by
 by_cases h0:s.size=0
 ·obtain rfl:s=⟨#[]⟩:=by
   obtain ⟨⟨l⟩⟩:=s
   cases l with
   | nil=>rfl
   | cons a r=>simp [ByteArray.size] at h0
  clear h0 hs
  go_enter func79,ntmps79
  go_wp2
  go_ret
  exact z2q.mk (by decide)
 have f1:¬ s.toList=[]:=by
  intro h
  rw [ByteArray.toList_eq] at h
  have h2:s.data.toList.length=0:=by rw [h];rfl
  have h3:s.size=s.data.toList.length:=by simp
  omega
 have f2:s.toList.isEmpty=Z:=by cases h:s.toList <;> simp_all
 have h1:0<s.size:=by omega
 by_cases h2:32<s.size
 ·have t2:I ((32:Int)<(s.size:Int))=Q:=by simp;omega
  have hN:=hd_ (y5l (l:=s.data.toList) (by simpa using h2))
  clear h0 h2
  go_enter func79,ntmps79
  go_wp2
  go_ret
  exact z2q.mk hN.out
 have t2:I ((32:Int)<(s.size:Int))=Z:=by simp;omega
 have H2:Hid (s.size≤32):=by show _≤_;omega
 clear h0 h2
 go_enter func79,ntmps79
 go_wp2_with fail
 refine (y3v _ _).mono ?_
 rintro e w1 ⟨k,rfl,rfl,hk,hk2⟩
 cases hl:x4m (s[0].toNat:Int)
 ·rw [hl] at hk
  have hkn:=y5f hk
  have hN:=hd_ (y4f s h1 hl)
  clear hk2 hl
  go_wp2_with fail
  go_ret
  exact z2q.mk hN.out
 ·rw [hl] at hk
  have hkn:=y5f hk
  have HL:=hd_ hl
  clear hk2 hl
  go_wp2_with fail
  clear hk hkn
  go_loopw [20] (fun i wr=>k2o s w i wr) (fun i _=>s.size - (intOf i).toNat)
  case atStart=>exact ⟨0,by omega,rfl,rfl,rfl⟩
  case round =>
   obtain ⟨j,hj,rfl,ha,rfl⟩:=hrel
   have HA:=hd_ ha;clear ha
   by_cases hlt:j<s.size
   ·have tj:I ((j:Int)<(s.size:Int))=Q:=by simp;omega
    have eu:I (j<s.size)=Q:=by simp;omega
    go_wp2_with fail
    refine (y3v _ _).mono ?_
    rintro e w1 ⟨k2,rfl,rfl,_,hp⟩
    cases h2:(k2 == 2) <;> cases h3:(k2 == 3) <;> cases h5:(k2 == 5)
    all_goals
     rw [h2,h3,h5] at hp
     have n2:=y5f h2;have n3:=y5f h3;have n5:=y5f h5
    ·have hN:=hd_ (y6l s j hlt hp.symm)
     clear hp
     go_wp2_with fail
     go_ret
     exact z2q.mk hN.out
    all_goals
     have HN:=hd_ (x5m s j hlt HA.out hp.symm)
     clear hp
     go_wp2_with fail
     go_roundw
     case rel=>exact ⟨j+1,by omega,by go_num,HN.out,rfl⟩
     case measure=>simp [intOf];omega
   ·obtain rfl:j=s.size:=by omega
    have tj:I ((s.size:Int)<(s.size:Int))=Z:=by simp
    have hN:=hd_ (y4v s h1 H2.out HL.out HA.out)
    go_wp2_with fail
    go_ret
    exact z2q.mk hN.out
theorem y7l (c:Int) (w:J):Y prog 195 #[.int .u8 c] w fun e w'=>e=X (.bool (x4m c))∧w=w':=by
 obtain ⟨b,hb⟩:∃ b,x4m c=b:=⟨_,rfl⟩
 have Hb:=hd_ hb
 rw [hb]
 clear hb
 go_enter func195,ntmps195
 go_wp2
 all_goals go_ret
 all_goals refine ⟨?_,rfl⟩
 all_goals have h:=Hb.out
 all_goals unfold x4m at h
 all_goals subst h
 all_goals refine congrArg (fun b=>Ending.returned (Value.bool b)) ?_
 all_goals (rw [Bool.eq_iff_iff];simp;try omega)
theorem x6r (c:Int) (w:J):Y prog 207 #[.int .u8 c] w fun e w'=>e=X (.bool (k0m c))∧w=w':=by
 obtain ⟨b,hb⟩:∃ b,k0m c=b:=⟨_,rfl⟩
 have Hb:=hd_ hb
 rw [hb]
 clear hb
 go_enter func207,ntmps207
 go_wp2
 all_goals go_ret
 all_goals refine ⟨?_,rfl⟩
 all_goals have h:=Hb.out
 all_goals unfold k0m at h
 all_goals subst h
 all_goals refine congrArg (fun b=>Ending.returned (Value.bool b)) ?_
 all_goals (rw [Bool.eq_iff_iff];simp;try omega)
theorem j3r (c:Int) (w:J):Y prog 196 #[.int .u8 c] w fun e w'=>e=X (.bool (z7v c))∧w=w':=by
 have hsum:z7v c=(x4m c || k0m c || (c == 95)):=by
  unfold z7v x4m k0m
  rw [Bool.eq_iff_iff];simp;omega
 rw [hsum]
 obtain ⟨b1,h1⟩:∃ b,x4m c=b:=⟨_,rfl⟩
 obtain ⟨b2,h2⟩:∃ b,k0m c=b:=⟨_,rfl⟩
 obtain ⟨b3,h3⟩:∃ b,(c == 95)=b:=⟨_,rfl⟩
 have H1:=hd_ h1;have H2:=hd_ h2
 rw [h1,h2,h3]
 clear h1 h2 hsum
 go_enter func196,ntmps196
 go_wp2_with fail
 refine (y7l _ _).mono ?_
 rw [H1.out]
 rintro e w1 ⟨rfl,rfl⟩
 cases b1
 ·go_wp2_with fail
  refine (x6r _ _).mono ?_
  rw [H2.out]
  rintro e w1 ⟨rfl,rfl⟩
  cases b2
  all_goals
   go_wp2_with fail
   go_ret
   exact ⟨by simp,rfl⟩
 ·go_wp2_with fail
  go_ret
  exact ⟨by simp,rfl⟩
theorem y5v (s:ByteArray) (hs:s.size≤9223372036854775807) (w:J):Y prog 163 #[.string s] w (z2q s w):=by
 by_cases h0:s.size=0
 ·obtain rfl:s=⟨#[]⟩:=by
   obtain ⟨⟨l⟩⟩:=s
   cases l with
   | nil=>rfl
   | cons a r=>simp [ByteArray.size] at h0
  clear h0 hs
  go_enter func163,ntmps163
  go_wp2
  go_ret
  exact z2q.mk (by decide)
 have f1:I ((s.size:Int)<1)=Z:=by simp;omega
 have h1:0<s.size:=by omega
 by_cases h2:32<s.size
 ·have t2:I ((32:Int)<(s.size:Int))=Q:=by simp;omega
  have hN:=hd_ (y5l (l:=s.data.toList) (by simpa using h2))
  clear h0 h2
  go_enter func163,ntmps163
  go_wp2
  go_ret
  exact z2q.mk hN.out
 have t2:I ((32:Int)<(s.size:Int))=Z:=by simp;omega
 have H2:Hid (s.size≤32):=by show _≤_;omega
 clear h0 h2
 go_enter func163,ntmps163
 go_wp2_with fail
 refine (y7l _ _).mono ?_
 cases hl:x4m (s[0].toNat:Int)
 ·rintro e w1 ⟨rfl,rfl⟩
  have hN:=hd_ (y4f s h1 hl)
  clear hl
  go_wp2_with fail
  go_ret
  exact z2q.mk hN.out
 ·rintro e w1 ⟨rfl,rfl⟩
  have HL:=hd_ hl
  clear hl
  go_wp2_with fail
  go_loopw [3] (fun i wr=>k2o s w i wr) (fun i _=>s.size - (intOf i).toNat)
  case atStart=>exact ⟨0,by omega,rfl,rfl,rfl⟩
  case round =>
   obtain ⟨j,hj,rfl,ha,rfl⟩:=hrel
   have HA:=hd_ ha;clear ha
   by_cases hlt:j<s.size
   ·have tj:I ((j:Int)<(s.size:Int))=Q:=by simp;omega
    have eu:I (j<s.size)=Q:=by simp;omega
    go_wp2_with fail
    refine (j3r _ _).mono ?_
    cases hp:z7v (s[j].toNat:Int)
    ·rintro e w1 ⟨rfl,rfl⟩
     have hN:=hd_ (y6l s j hlt hp)
     clear hp
     go_wp2_with fail
     go_ret
     exact z2q.mk hN.out
    ·rintro e w1 ⟨rfl,rfl⟩
     have HN:=hd_ (x5m s j hlt HA.out hp)
     clear hp
     go_wp2_with fail
     go_roundw
     case rel=>exact ⟨j+1,by omega,by go_num,HN.out,rfl⟩
     case measure=>simp [intOf];omega
   ·obtain rfl:j=s.size:=by omega
    have tj:I ((s.size:Int)<(s.size:Int))=Z:=by simp
    have hN:=hd_ (y4v s h1 H2.out HL.out HA.out)
    go_wp2_with fail
    go_ret
    exact z2q.mk hN.out
end Go.Proofs.YtdblnbnofjggnaaGreatDoor
