/- Parts of the proofs of chapter 49's laws. -/
import Derived.Test.YtdblnbnofjggnaaGreatDoorP05
import Derived.Laws.CopyOwn
set_option maxHeartbeats 1000000
set_option maxRecDepth 100000
set_option linter.all false
namespace Go.Proofs.YtdblnbnofjggnaaGreatDoor
open Go.Proofs.Tryz
open Go.RowKit
def z0h (x:W32):Value:=.int .u32 (iw x)
theorem j3q (n:W32) (c:UInt8):bits BinOp.or .u32 (iw n * 256 % 4294967296) ((c.toNat:Int) % 4294967296)=iw (wd n c):=by
 have h1:=v3d n 8
 have h2:(c.toNat:Int) % 4294967296=iw (BitVec.ofNat 32 c.toNat):=by
  unfold iw;rw [BitVec.toNat_ofNat];have:=c.toNat_lt;omega
 have h3:(256:Int)=2 ^ 8:=by decide
 rw [h3,h1,h2,bor];rfl
def BL (w:World) (b off:Nat) (l:List UInt8):Prop:=∀ j c,l[j]? = some c→w.cell? ⟨b,off+j,none⟩=some (.int .u8 (c.toNat:Int))
theorem BL.keep {w w':World} {b off:Nat} {l:List UInt8} (h:BL w b off l) (hk:w'.heap[b]? = w.heap[b]?):BL w' b off l:=fun j c hj=>by rw [World.cell?_of_block (w:=w) hk];exact h j c hj
theorem BL.drop {w:World} {b off:Nat} {l:List UInt8} (h:BL w b off l) (k:Nat):BL w b (off+k) (l.drop k):=fun j c hj=>by
 rw [List.getElem?_drop] at hj;have:=h _ c hj;rwa [← Nat.add_assoc] at this
theorem BL.take {w:World} {b off:Nat} {l:List UInt8} (h:BL w b off l) (k:Nat):BL w b off (l.take k):=fun j c hj=>by
 by_cases hjk:j<k
 ·rw [List.getElem?_take_of_lt hjk] at hj;exact h j c hj
 ·rw [List.getElem?_eq_none (by simp;omega)] at hj;cases hj
theorem j4q (b off len cap:Nat) (l:List UInt8) (w:World) (hl:4≤l.length) (hlen:4≤len) (hcap:len≤cap) (hm:cap≤maxLen) (h:BL w b off l) :
 Calls prog 210 #[.slice (some ⟨b,off,none⟩) len cap] w fun e w'=>e=.returned (.int .u32 (iw (k8l l)))∧w=w':=by
 obtain ⟨c0,c1,c2,c3,r,rfl⟩:∃ c0 c1 c2 c3 r,l=c0::c1::c2::c3::r:=by
  match l,hl with
  | c0::c1::c2::c3::r,_=>exact ⟨c0,c1,c2,c3,r,rfl⟩
 have h0:w.cell? ⟨b,off,none⟩=some (.int .u8 (c0.toNat:Int)):=h 0 c0 rfl
 have h1:=h 1 c1 rfl
 have h2:=h 2 c2 rfl
 have h3:=h 3 c3 rfl
 have e0:bits BinOp.or .u32 0 ((c0.toNat:Int) % 4294967296)=iw (wd 0 c0):=j3q 0 c0
 have e1:=j3q (wd 0 c0) c1
 have e2:=j3q (wd (wd 0 c0) c1) c2
 have e3:=j3q (wd (wd (wd 0 c0) c1) c2) c3
 obtain ⟨n0,ig⟩:∃ n,wd 0 c0=n:=⟨_,rfl⟩
 rw [ig] at e0 e1 e2 e3
 obtain ⟨n1,lH⟩:∃ n,wd n0 c1=n:=⟨_,rfl⟩
 rw [lH] at e1 e2 e3
 obtain ⟨n2,bv⟩:∃ n,wd n1 c2=n:=⟨_,rfl⟩
 rw [bv] at e2 e3
 obtain ⟨n3,eJ⟩:∃ n,wd n2 c3=n:=⟨_,rfl⟩
 rw [eJ] at e3
 have hw:Hid (k8l (c0::c1::c2::c3::r)=n3):=by show k8l _=_;rw [← eJ,← bv,← lH,← ig];rfl
 have g1:(4:Int)≤(len:Int):=by omega
 have g2:(len:Int)≤(cap:Int):=by omega
 unfold maxLen at hm
 clear h hl ig lH bv eJ
 go_enter func210,ntmps210
 go_wp2
 refine wp_loop_rounds 5 ?_
 rw [rounds_succ];go_wp2
 rw [rounds_succ];go_wp2
 rw [rounds_succ];go_wp2
 rw [rounds_succ];go_wp2
 rw [rounds_succ];go_wp2
 go_ret
 exact ⟨by rw [hw.out];rfl,rfl⟩
theorem y1l {α:Type} (L:List α) (off:Nat) (cs:List α) (h:off+cs.length≤L.length) (i:Nat):(splice L off cs)[i]? = if i<off then L[i]? else if i<off+cs.length then cs[i - off]? else L[i]?:=by
 unfold splice
 by_cases h1:i<off
 ·rw [if_pos h1,List.getElem?_append_left (by simp;omega),List.getElem?_take_of_lt h1]
 ·rw [if_neg h1,List.getElem?_append_right (by simp;omega),List.length_take,Nat.min_eq_left (by omega)]
  by_cases h2:i<off+cs.length
  ·rw [if_pos h2,List.getElem?_append_left (by omega)]
  ·rw [if_neg h2,List.getElem?_append_right (by omega),List.getElem?_drop];congr 1;omega
theorem x1r {α:Type} (L:List α) (off:Nat):splice L off []=L:=by simp [splice]
theorem j5q {α:Type} (cs L:List α) (off m k:Nat) (hL:L.length=m) (hk:k<m) (hfit:off+m≤cs.length) (x:α) (hx:L[m - 1 - k]? = some x) :
 (splice cs (off+(m - k)) (L.drop (m - k))).set (off+(m - 1 - k)) x=splice cs (off+(m - (k+1))) (L.drop (m - (k+1))):=by
 apply List.ext_getElem?
 intro i
 rw [List.getElem?_set,y1l _ _ _ (by simp;omega),y1l _ _ _ (by simp;omega),length_splice _ _ _ (by simp;omega)]
 simp only [List.length_drop,hL]
 by_cases h:off+(m - 1 - k)=i
 ·subst h
  rw [if_pos rfl,if_pos (by omega),if_neg (by omega),if_pos (by omega),List.getElem?_drop,← hx]
  congr 1;omega
 ·rw [if_neg h]
  by_cases h1:i<off+(m - k)
  ·have e1:i<off+(m - (k+1)):=by omega
   rw [if_pos h1,if_pos e1]
  ·have e1:¬ i<off+(m - (k+1)):=by omega
   rw [if_neg h1,if_neg e1]
   by_cases h2:i<off+m
   ·have e2:i<off+(m - k)+(m - (m - k)):=by omega
    have e3:i<off+(m - (k+1))+(m - (m - (k+1))):=by omega
    rw [if_pos e2,if_pos e3,List.getElem?_drop,List.getElem?_drop];congr 1;omega
   ·have e2:¬ i<off+(m - k)+(m - (m - k)):=by omega
    have e3:¬ i<off+(m - (k+1))+(m - (m - (k+1))):=by omega
    rw [if_neg e2,if_neg e3]
theorem j9w (m n k:Nat) (hk:k<m):(z8a (be m n))[m - 1 - k]? = some (.int .u8 (((n:Int)) / 2 ^ (8 * k) % 256)):=by
 have h1:m - 1 - (m - 1 - k)=k:=by omega
 simp only [z8a,be,List.getElem?_map,List.getElem?_range (show m - 1 - k<m by omega),Option.map_some,h1]
 congr 2
def k9n (g:Nat) (t:TypeId) (cs:List Value) (off m n:Nat) (w:World) (i:Value) (wr:World):Prop :=
 ∃ k:Nat,k≤m∧i=.int .i64 k∧CB wr g t (splice cs (off+(m - k)) ((z8a (be m n)).drop (m - k)))∧w.grownBy wr (some g)∧wr.heap.size=w.heap.size
theorem y7o (g off m cap n:Nat) (ni:Int) (hni:ni=(n:Int)) (t:TypeId) (cs:List Value) (w:World) (h:CB w g t cs) (hm:1≤m) (hm8:m≤8) (hfit:off+m≤cs.length) :
 Calls prog 201 #[.slice (some ⟨g,off,none⟩) m cap,.int .u64 ni] w fun e w'=>e=.returned (.tuple #[])∧CB w' g t (splice cs off (z8a (be m n)))∧w.grownBy w' (some g)∧w'.heap.size=w.heap.size:=by
 subst hni
 have hbl:(z8a (be m n)).length=m:=by simp [z8a,y3b]
 have H:=Lib.hid h;have Hfit:=Lib.hid hfit;have Hbl:=Lib.hid hbl
 clear h hfit hbl
 go_enter func201,ntmps201
 go_wp2
 go_loopw [7] (fun i wr=>k9n g t cs off m n w i wr) (fun i _=>m - (intOf i).toNat)
 case atStart =>
  refine ⟨0,Nat.zero_le _,rfl,?_,z1b _ _,rfl⟩
  rw [Nat.sub_zero,List.drop_of_length_le (by rw [Hbl.out];exact Nat.le_refl _),x1r];exact H.out
 case round =>
  obtain ⟨k,hk,rfl,aO,hg,hsz⟩:=hrel
  have ii:=Lib.hid aO;have Hsz:=Lib.hid hsz
  by_cases hlt:k<m
  ·have hfz:=aO.frozen (off+(m - 1 - k))
   have hlen:(splice cs (off+(m - k)) ((z8a (be m n)).drop (m - k))).length=cs.length:=length_splice _ _ _ (by have:=Hfit.out;simp [Hbl.out];omega)
   obtain ⟨x,hx⟩:∃ x,wr.cell? ⟨g,off+(m - 1 - k),none⟩=some x:=⟨_,(aO.cell _).trans (List.getElem?_eq_getElem (by rw [hlen];have:=Hfit.out;omega))⟩
   have Hst:=Lib.hid (j5q cs (z8a (be m n)) off m k Hbl.out hlt Hfit.out _ (j9w m n k hlt))
   clear aO hsz hlen
   go_wp2
   go_roundw
   case rel=>exact ⟨k+1,by omega,by go_num,by rw [← Hst.out];exact ii.out.set _ _,z8d hg,by simp [World.setCell];exact Hsz.out⟩
   case measure=>simp [intOf];omega
  ·obtain rfl:k=m:=by omega
   clear aO hsz
   go_wp2
   go_end0
   refine ⟨rfl,?_,hg,Hsz.out⟩
   have:=ii.out;rwa [Nat.sub_self,List.drop_zero] at this
end Go.Proofs.YtdblnbnofjggnaaGreatDoor
