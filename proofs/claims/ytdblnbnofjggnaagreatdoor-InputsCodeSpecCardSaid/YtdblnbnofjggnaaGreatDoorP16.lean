/- Parts of the proofs of chapter 49's laws. -/
import Derived.Test.YtdblnbnofjggnaaGreatDoorP11
import Derived.Deep.RegionHeld3
set_option maxHeartbeats 1000000
set_option maxRecDepth 100000
set_option linter.all false
namespace Go.Proofs.YtdblnbnofjggnaaGreatDoor
open Go.Proofs.Tryz
open Go.RowKit
theorem y9l (base:Nat) (b:Value) (pre:List UInt8) (n:Int) (hn:Hid (I64 n)) (s:ByteArray) (lv:Value) (w:World) (hown:z3o 5 w base b pre) (hsz:pre.length≤10000000000) (hbase:base≤w.heap.size) (out:List UInt8) (hout:Hid (out=pre++([1]++num (uns n)))) :
 Calls prog 157 #[b,.agg #[.int .i64 1,.int .i64 n,.string s,lv]] w (y5o base b out w):=by
 go_enter func157,ntmps157
 go_wp2
 have ax:∀ g,b.ownBlock=some g→g<w.heap.size:=fun g hg=>(hown.lt g hg).2
 have hown1:=hown.alloc (.cells #[.int .i64 1,.int .i64 n,.string s,lv] 80)
 have hne:some w.heap.size≠b.ownBlock:=fun h=>by have:=ax _ h.symm;omega
 go_region_held3 (fun w'=>w'.cell? ⟨w.heap.size,1,none⟩=some (.int .i64 n)) (first|go_keep|exact z2b (row:=b.ownBlock) (by assumption) (by simp) hne)
  (first
   | (refine z5p (e:=5) underlying50 (by kernel_rfl) rfl _ _ rfl base b pre rfl ?own _ 1 1 rfl ?c1 rfl ?c2 ?c3 ?_
      case own=>exact (hown1.alloc _).drew
      case c1=>simp
      case c2=>omega
      case c3=>simp;omega
      intro v' w1 da al bv)
   | (go_at_call 159;refine (y8u n hn _).mono ?_;rintro e w' ⟨rfl,rfl⟩)
   | (go_at_call 158;refine (z5v base v' (pre++[1]) (uns n) (x9l n hn.out) _ da ?d1 ?d2).mono ?_
      case d1=>simp;omega
      case d2=>have:=al.size;simp at this;omega
      rintro e w2 ⟨v2,rfl,dG,bj,eJ⟩
      have hg4:=z2a al bj bv))
 go_wp2
 go_ret
 refine ⟨v2,rfl,?_,z2a (z2l (z4a (z4a (z1b w _) _) _)) hg4 (.inl rfl),?_⟩
 ·rw [hout.out,← List.append_assoc];exact dG
 ·exact y4j.trans (y4j.trans (y4j.refl w b) (by simp;omega) bv) (by have:=al.size;simp at this;omega) eJ
theorem y0m (base:Nat) (b:Value) (pre:List UInt8) (n:Int) (s:ByteArray) (lv:Value) (w:World) (hown:z3o 5 w base b pre) (hsz:pre.length≤10000000000) (hss:s.size≤50000000) (hbase:base≤w.heap.size) (out:List UInt8) (hout:Hid (out=pre++([2]++num s.size++s.data.toList))) :
 Calls prog 160 #[b,.agg #[.int .i64 2,.int .i64 n,.string s,lv]] w (y5o base b out w):=by
 have ax:∀ g,b.ownBlock=some g→g<w.heap.size:=fun g hg=>(hown.lt g hg).2
 have hown1:=hown.alloc (.cells #[.int .i64 2,.int .i64 n,.string s,lv] 80)
 have hne:some w.heap.size≠b.ownBlock:=fun h=>by have:=ax _ h.symm;omega
 have hsd:s.data.toList.length=s.size:=by simp
 have Hsd:=Lib.hid hsd;clear hsd
 have hw:IntKind.u64.wrap (s.size:Int)=(s.size:Int):=by rw [IntKind.wrap_u64];omega
 go_enter func160,ntmps160
 go_wp2
 go_region_held3 (fun w'=>w'.cell? ⟨w.heap.size,2,none⟩=some (.string s)) (first|go_keep|exact z2b (row:=b.ownBlock) (by assumption) (by simp) hne)
  (first
   | (go_at_call 158;refine (z5v base v' (pre++[2]) s.size ?d0 _ da ?d1 ?d2).mono ?_
      case d0=>show s.size<_;omega
      case d1=>simp;omega
      case d2=>have:=al.size;simp at this;omega
      rintro e w2 ⟨v2,rfl,dG,bj,eJ⟩
      have hg4:=z2a al bj bv)
   | (refine z5p (e:=5) underlying50 (by kernel_rfl) rfl _ _ rfl base b pre rfl ?own _ 2 2 rfl ?c1 rfl ?c2 ?c3 ?_
      case own=>exact (hown1.alloc _).drew
      case c1=>simp
      case c2=>omega
      case c3=>simp;omega
      intro v' w1 da al bv)
   | (refine z5i (e:=5) underlying50 (by kernel_rfl) rfl _ _ rfl base _ (pre++[2]++num s.size) rfl ?own _ s.data.toList rfl ?c1 ?c2 ?c3 ?_
      case own=>exact dG
      case c1=>exact k2b.ofString underlying9 s _
      case c2=>have h9:=z0i 9 s.size;rw [Hsd.out];simp [num];omega
      case c3=>have h8:=al.size;have h9:=bj.size;simp at h8;omega
      intro v3 w3 gF eh lP
      have hg6:=z2a hg4 eh (y4j.trans bv al.size eJ)))
 go_wp2
 go_ret
 refine ⟨v3,rfl,?_,z2a (z2l (z4a (z4a (z1b w _) _) _)) hg6 (.inl rfl),?_⟩
 ·rw [hout.out,← List.append_assoc,← List.append_assoc];exact gF
 ·have h8:=al.size;have h9:=bj.size;simp at h8
  exact y4j.trans (y4j.trans (y4j.trans (y4j.refl w b) (by simp;omega) bv) (by omega) eJ) (by omega) lP
end Go.Proofs.YtdblnbnofjggnaaGreatDoor
