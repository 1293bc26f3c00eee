/- Parts of the proofs of chapter 49's laws: Lex. -/
import Derived.Test.YtdblnbnofjggnaaGreatDoorM05
import Derived.Lib.Strings
import Derived.Lib.Slices
import Derived.Lib.Walk
import Derived.Lib.Bytealg
set_option maxHeartbeats 2000000
set_option maxRecDepth 100000
open Go
open Lib renaming hid → hd_
namespace Go.Proofs.YtdblnbnofjggnaaGreatDoor
open Go.RowKit
theorem z9p (s:ByteArray) (c:Int) (w:World) :
 Calls Tryz.prog 206 #[.string s,.int .u8 c] w fun e w'=>e = .returned (.int .i64 (Lib.indexByte s.data.toList c.toNat.toUInt8))∧w' = w:=by
 go_enter Tryz.func206,Tryz.ntmps206
 go_wp2
 rw [run_callFunc_extern Tryz.func217 (by kernel_rfl) (by kernel_rfl) (by kernel_rfl) (e:=Extern.BytealgIndexByte.indexByte) (by kernel_rfl),Lib.run_indexByteString]
 simp only [Result.andThen]
 rw [Oper.upon_value]
 go_wp2
 go_ret
 exact ⟨rfl,rfl⟩
theorem z9w (s:ByteArray) (c:Int) (w:World) :
 Calls Tryz.prog 192 #[.string s,.int .u8 c] w fun e w'=>e = .returned (.int .i64 (Lib.indexByte s.data.toList c.toNat.toUInt8))∧w = w':=by
 go_enter Tryz.func192,Tryz.ntmps192
 go_wp2_with (go_at_call 206;refine (z9p _ _ _).mono ?_;rintro e w' ⟨rfl,rfl⟩)
 go_ret
 exact ⟨rfl,rfl⟩
def x8j (c:Int):Bool:=decide (97 ≤ c∧c ≤ 122∨65 ≤ c∧c ≤ 90)
def k9e (c:Int):Bool:=decide (48 ≤ c∧c ≤ 57)
def z9t (c:Int):Bool:=decide (97 ≤ c∧c ≤ 122∨65 ≤ c∧c ≤ 90∨48 ≤ c∧c ≤ 57∨c = 95)
def x1x (c:Int) (w:World) (e:Ending) (w':World):Prop:=∃ k:Int,e = .returned (.int .i64 k)∧w = w'∧(k == 2) = x8j c∧(k == 2 || k == 3 || k == 5) = z9t c
theorem x1x.mk {c k:Int} {w:World} (h1:(k == 2) = x8j c) (h2:(k == 2 || k == 3 || k == 5) = z9t c):x1x c w (.returned (.int .i64 k)) w:=⟨k,rfl,rfl,h1,h2⟩
theorem y8s (c:Int) (w:World):Calls Tryz.prog 152 #[.int .u8 c] w (x1x c w):=by
 obtain ⟨q,hq⟩:∃ q,Lib.indexByte [123,125,40,41,59,44,61,35,47,60,33,45,46] c.toNat.toUInt8 = q:=⟨_,rfl⟩
 go_enter Tryz.func152,Tryz.ntmps152
 go_wp2_with (go_at_call 192;refine (z9w _ _ _).mono ?_;rintro e w' ⟨rfl,rfl⟩)
 all_goals go_ret
 all_goals refine x1x.mk ?_ ?_
 all_goals (try simp only [beq_iff_eq,beq_eq_false_iff_ne,ne_eq] at *)
 all_goals (simp [x8j,z9t];try omega)
def z7o (l:List UInt8):Bool:=decide (1 ≤ l.length∧l.length ≤ 32) && x8j ((l.headD 0).toNat:Int) && l.all fun c=>z9t (c.toNat:Int)
theorem x2x {l:List UInt8} (h:z7o l = true):1 ≤ l.length∧l.length ≤ 32:=by
 unfold z7o at h;simp only [Bool.and_eq_true,decide_eq_true_eq] at h;exact h.1.1
theorem y1i {l:List UInt8} (h:32 < l.length):z7o l = false:=by
 cases hb:z7o l
 · rfl
 · have:=x2x hb;omega
theorem x3x (s:ByteArray) (h:0 < s.size):s.data.toList.headD 0 = s[0]:=by
 obtain ⟨⟨l⟩⟩:=s
 cases l with
 | nil=>simp [ByteArray.size] at h
 | cons a r=>rfl
theorem j4r (s:ByteArray) (k:Nat) (h:k < s.size):s.data.toList[k]? = some s[k]:=by
 rw [List.getElem?_eq_getElem (by simpa using h)];rfl
theorem y2c (s:ByteArray) (h:0 < s.size) (hl:x8j (s[0].toNat:Int) = false):z7o s.data.toList = false:=by
 unfold z7o;rw [x3x s h,hl];simp
theorem y2i (s:ByteArray) (k:Nat) (h:k < s.size) (hl:z9t (s[k].toNat:Int) = false):z7o s.data.toList = false:=by
 have hm:s[k] ∈ s.data.toList:=List.mem_of_getElem? (j4r s k h)
 have ha:(s.data.toList.all fun c=>z9t (c.toNat:Int)) = false:=by
  rw [List.all_eq_false];exact ⟨_,hm,by rw [hl];decide⟩
 unfold z7o;rw [ha];simp
theorem x9j (s:ByteArray) (k:Nat) (h:k < s.size) (ha:((s.data.toList.take k).all fun c=>z9t (c.toNat:Int)) = true) (hl:z9t (s[k].toNat:Int) = true):((s.data.toList.take (k + 1)).all fun c=>z9t (c.toNat:Int)) = true:=by
 rw [List.take_add_one,j4r s k h,List.all_append,ha];simp [hl]
theorem y9s (s:ByteArray) (h:0 < s.size) (h2:s.size ≤ 32) (hl:x8j (s[0].toNat:Int) = true) (ha:((s.data.toList.take s.size).all fun c=>z9t (c.toNat:Int)) = true):z7o s.data.toList = true:=by
 rw [List.take_of_length_le (by simp)] at ha
 unfold z7o
 rw [x3x s h,hl,ha];simp;omega
def z8o (s:ByteArray) (w:World) (e:Ending) (w':World):Prop:=e = .returned (.bool (z7o s.data.toList))∧w = w'
theorem z8o.mk {s:ByteArray} {b:Bool} {w:World} (h:z7o s.data.toList = b):z8o s w (.returned (.bool b)) w:=⟨by rw [h],rfl⟩
theorem y3c {k n:Int} {b:Bool} (h:(k == n) = b):(k != n) = !b:=by rw [← h];rfl
def k9g (s:ByteArray) (w:World) (i:Value) (wr:World):Prop:=∃ k:Nat,k ≤ s.size∧i = .int .i64 k∧((s.data.toList.take k).all fun c=>z9t (c.toNat:Int)) = true∧w = wr
theorem x0k (s:ByteArray) (hs:s.size ≤ 9223372036854775807) (w:World):Calls Tryz.prog 79 #[.string s] w (z8o s w):=by
 by_cases h0:s.size = 0
 · obtain rfl:s = ⟨#[]⟩:=by
    obtain ⟨⟨l⟩⟩:=s
    cases l with
    | nil=>rfl
    | cons a r=>simp [ByteArray.size] at h0
   clear h0 hs
   go_enter Tryz.func79,Tryz.ntmps79
   go_wp2
   go_ret
   exact z8o.mk (by decide)
 have f1:¬ s.toList = []:=by
  intro h
  rw [ByteArray.toList_eq] at h
  have h2:s.data.toList.length = 0:=by rw [h];rfl
  have h3:s.size = s.data.toList.length:=by simp
  omega
 have f2:s.toList.isEmpty = false:=by cases h:s.toList <;> simp_all
 have h1:0 < s.size:=by omega
 by_cases h2:32 < s.size
 · have t2:decide ((32:Int) < (s.size:Int)) = true:=by simp;omega
   have hN:=hd_ (y1i (l:=s.data.toList) (by simpa using h2))
   clear h0 h2
   go_enter Tryz.func79,Tryz.ntmps79
   go_wp2
   go_ret
   exact z8o.mk hN.out
 have t2:decide ((32:Int) < (s.size:Int)) = false:=by simp;omega
 have H2:Hid (s.size ≤ 32):=by show _ ≤ _;omega
 clear h0 h2
 go_enter Tryz.func79,Tryz.ntmps79
 go_wp2_with fail
 refine (y8s _ _).mono ?_
 rintro e w1 ⟨k,rfl,rfl,hk,hk2⟩
 cases hl:x8j (s[0].toNat:Int)
 · rw [hl] at hk
   have hkn:=y3c hk
   have hN:=hd_ (y2c s h1 hl)
   clear hk2 hl
   go_wp2_with fail
   go_ret
   exact z8o.mk hN.out
 · rw [hl] at hk
   have hkn:=y3c hk
   have HL:=hd_ hl
   clear hk2 hl
   go_wp2_with fail
   clear hk hkn
   go_loopw [20] (fun i wr=>k9g s w i wr) (fun i _=>s.size - (intOf i).toNat)
   case atStart=>exact ⟨0,by omega,rfl,rfl,rfl⟩
   case round =>
    obtain ⟨j,hj,rfl,ha,rfl⟩:=hrel
    have HA:=hd_ ha;clear ha
    by_cases hlt:j < s.size
    · have tj:decide ((j:Int) < (s.size:Int)) = true:=by simp;omega
      have tj':decide (j < s.size) = true:=by simp;omega
      go_wp2_with fail
      refine (y8s _ _).mono ?_
      rintro e w1 ⟨k2,rfl,rfl,_,hp⟩
      cases h2:(k2 == 2) <;> cases h3:(k2 == 3) <;> cases h5:(k2 == 5)
      all_goals
       rw [h2,h3,h5] at hp
       have n2:=y3c h2;have n3:=y3c h3;have n5:=y3c h5
      · have hN:=hd_ (y2i s j hlt hp.symm)
        clear hp
        go_wp2_with fail
        go_ret
        exact z8o.mk hN.out
      all_goals
       have HN:=hd_ (x9j s j hlt HA.out hp.symm)
       clear hp
       go_wp2_with fail
       go_roundw
       case rel=>exact ⟨j + 1,by omega,by go_num,HN.out,rfl⟩
       case measure=>simp [intOf];omega
    · obtain rfl:j = s.size:=by omega
      have tj:decide ((s.size:Int) < (s.size:Int)) = false:=by simp
      have hN:=hd_ (y9s s h1 H2.out HL.out HA.out)
      go_wp2_with fail
      go_ret
      exact z8o.mk hN.out
theorem y3i (c:Int) (w:World):Calls Tryz.prog 195 #[.int .u8 c] w fun e w'=>e = .returned (.bool (x8j c))∧w = w':=by
 obtain ⟨b,hb⟩:∃ b,x8j c = b:=⟨_,rfl⟩
 have Hb:=hd_ hb
 rw [hb]
 clear hb
 go_enter Tryz.func195,Tryz.ntmps195
 go_wp2
 all_goals go_ret
 all_goals refine ⟨?_,rfl⟩
 all_goals have h:=Hb.out
 all_goals unfold x8j at h
 all_goals subst h
 all_goals refine congrArg (fun b=>Ending.returned (Value.bool b)) ?_
 all_goals (rw [Bool.eq_iff_iff];simp;try omega)
theorem x6o (c:Int) (w:World):Calls Tryz.prog 207 #[.int .u8 c] w fun e w'=>e = .returned (.bool (k9e c))∧w = w':=by
 obtain ⟨b,hb⟩:∃ b,k9e c = b:=⟨_,rfl⟩
 have Hb:=hd_ hb
 rw [hb]
 clear hb
 go_enter Tryz.func207,Tryz.ntmps207
 go_wp2
 all_goals go_ret
 all_goals refine ⟨?_,rfl⟩
 all_goals have h:=Hb.out
 all_goals unfold k9e at h
 all_goals subst h
 all_goals refine congrArg (fun b=>Ending.returned (Value.bool b)) ?_
 all_goals (rw [Bool.eq_iff_iff];simp;try omega)
theorem j8l (c:Int) (w:World):Calls Tryz.prog 196 #[.int .u8 c] w fun e w'=>e = .returned (.bool (z9t c))∧w = w':=by
 have hsum:z9t c = (x8j c || k9e c || (c == 95)):=by
  unfold z9t x8j k9e
  rw [Bool.eq_iff_iff];simp;omega
 rw [hsum]
 obtain ⟨b1,h1⟩:∃ b,x8j c = b:=⟨_,rfl⟩
 obtain ⟨b2,h2⟩:∃ b,k9e c = b:=⟨_,rfl⟩
 obtain ⟨b3,h3⟩:∃ b,(c == 95) = b:=⟨_,rfl⟩
 have H1:=hd_ h1;have H2:=hd_ h2
 rw [h1,h2,h3]
 clear h1 h2 hsum
 go_enter Tryz.func196,Tryz.ntmps196
 go_wp2_with fail
 refine (y3i _ _).mono ?_
 rw [H1.out]
 rintro e w1 ⟨rfl,rfl⟩
 cases b1
 · go_wp2_with fail
   refine (x6o _ _).mono ?_
   rw [H2.out]
   rintro e w1 ⟨rfl,rfl⟩
   cases b2
   all_goals
    go_wp2_with fail
    go_ret
    exact ⟨by simp,rfl⟩
 · go_wp2_with fail
   go_ret
   exact ⟨by simp,rfl⟩
theorem y0t (s:ByteArray) (hs:s.size ≤ 9223372036854775807) (w:World):Calls Tryz.prog 163 #[.string s] w (z8o s w):=by
 by_cases h0:s.size = 0
 · obtain rfl:s = ⟨#[]⟩:=by
    obtain ⟨⟨l⟩⟩:=s
    cases l with
    | nil=>rfl
    | cons a r=>simp [ByteArray.size] at h0
   clear h0 hs
   go_enter Tryz.func163,Tryz.ntmps163
   go_wp2
   go_ret
   exact z8o.mk (by decide)
 have f1:decide ((s.size:Int) < 1) = false:=by simp;omega
 have h1:0 < s.size:=by omega
 by_cases h2:32 < s.size
 · have t2:decide ((32:Int) < (s.size:Int)) = true:=by simp;omega
   have hN:=hd_ (y1i (l:=s.data.toList) (by simpa using h2))
   clear h0 h2
   go_enter Tryz.func163,Tryz.ntmps163
   go_wp2
   go_ret
   exact z8o.mk hN.out
 have t2:decide ((32:Int) < (s.size:Int)) = false:=by simp;omega
 have H2:Hid (s.size ≤ 32):=by show _ ≤ _;omega
 clear h0 h2
 go_enter Tryz.func163,Tryz.ntmps163
 go_wp2_with fail
 refine (y3i _ _).mono ?_
 cases hl:x8j (s[0].toNat:Int)
 · rintro e w1 ⟨rfl,rfl⟩
   have hN:=hd_ (y2c s h1 hl)
   clear hl
   go_wp2_with fail
   go_ret
   exact z8o.mk hN.out
 · rintro e w1 ⟨rfl,rfl⟩
   have HL:=hd_ hl
   clear hl
   go_wp2_with fail
   go_loopw [3] (fun i wr=>k9g s w i wr) (fun i _=>s.size - (intOf i).toNat)
   case atStart=>exact ⟨0,by omega,rfl,rfl,rfl⟩
   case round =>
    obtain ⟨j,hj,rfl,ha,rfl⟩:=hrel
    have HA:=hd_ ha;clear ha
    by_cases hlt:j < s.size
    · have tj:decide ((j:Int) < (s.size:Int)) = true:=by simp;omega
      have tj':decide (j < s.size) = true:=by simp;omega
      go_wp2_with fail
      refine (j8l _ _).mono ?_
      cases hp:z9t (s[j].toNat:Int)
      · rintro e w1 ⟨rfl,rfl⟩
        have hN:=hd_ (y2i s j hlt hp)
        clear hp
        go_wp2_with fail
        go_ret
        exact z8o.mk hN.out
      · rintro e w1 ⟨rfl,rfl⟩
        have HN:=hd_ (x9j s j hlt HA.out hp)
        clear hp
        go_wp2_with fail
        go_roundw
        case rel=>exact ⟨j + 1,by omega,by go_num,HN.out,rfl⟩
        case measure=>simp [intOf];omega
    · obtain rfl:j = s.size:=by omega
      have tj:decide ((s.size:Int) < (s.size:Int)) = false:=by simp
      have hN:=hd_ (y9s s h1 H2.out HL.out HA.out)
      go_wp2_with fail
      go_ret
      exact z8o.mk hN.out
end Go.Proofs.YtdblnbnofjggnaaGreatDoor
