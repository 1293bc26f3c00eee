/- Parts of the proofs of chapter 49's laws: Wri Wr2. -/
import Derived.Test.YtdblnbnofjggnaaGreatDoorM11
import Derived.Deep.RegionHeld3
import Derived.Test.YtdblnbnofjggnaaGreatDoorM06
set_option maxHeartbeats 1000000
set_option maxRecDepth 100000
namespace Go.Proofs.YtdblnbnofjggnaaGreatDoor
open Go.RowKit
theorem y6i (base:Nat) (b:Value) (pre:List UInt8) (n:Int) (hn:Hid (I64 n)) (s:ByteArray) (lv:Value) (w:World) (hown:z0k 5 w base b pre) (hsz:pre.length ≤ 10000000000) (hbase:base ≤ w.heap.size) (out:List UInt8) (hout:Hid (out = pre ++ ([1] ++ num (uns n)))) :
 Calls Tryz.prog 157 #[b,.agg #[.int .i64 1,.int .i64 n,.string s,lv]] w (y4l base b out w):=by
 go_enter Tryz.func157,Tryz.ntmps157
 go_wp2
 have hb0:∀ g,b.ownBlock = some g→g < w.heap.size:=fun g hg=>(hown.lt g hg).2
 have hown1:=hown.alloc (.cells #[.int .i64 1,.int .i64 n,.string s,lv] 80)
 have hne:some w.heap.size ≠ b.ownBlock:=fun h=>by have:=hb0 _ h.symm;omega
 go_region_held3 (fun w'=>w'.cell? ⟨w.heap.size,1,none⟩ = some (.int .i64 n)) (first | go_keep | exact z2b (row:=b.ownBlock) (by assumption) (by simp) hne)
  (first
   | (refine z2o (e:=5) Tryz.underlying50 (by kernel_rfl) rfl _ _ rfl base b pre rfl ?own _ 1 1 rfl ?c1 rfl ?c2 ?c3 ?_
      case own=>exact (hown1.alloc _).drew
      case c1=>simp
      case c2=>omega
      case c3=>simp;omega
      intro v' w1 ho2 hg2 hn2)
   | (go_at_call 159;refine (y2s n hn _).mono ?_;rintro e w' ⟨rfl,rfl⟩)
   | (go_at_call 158;refine (z6t base v' (pre ++ [1]) (uns n) (x2j n hn.out) _ ho2 ?d1 ?d2).mono ?_
      case d1=>simp;omega
      case d2=>have:=hg2.size;simp at this;omega
      rintro e w2 ⟨v2,rfl,ho3,hg3,hn3⟩
      have hg4:=z2a hg2 hg3 hn2))
 go_wp2
 go_ret
 refine ⟨v2,rfl,?_,z2a (z7k (z8a (z8a (z7b w _) _) _)) hg4 (.inl rfl),?_⟩
 · rw [hout.out,← List.append_assoc];exact ho3
 · exact y7g.trans (y7g.trans (y7g.refl w b) (by simp;omega) hn2) (by have:=hg2.size;simp at this;omega) hn3
theorem y7i (base:Nat) (b:Value) (pre:List UInt8) (n:Int) (s:ByteArray) (lv:Value) (w:World) (hown:z0k 5 w base b pre) (hsz:pre.length ≤ 10000000000) (hss:s.size ≤ 50000000) (hbase:base ≤ w.heap.size) (out:List UInt8) (hout:Hid (out = pre ++ ([2] ++ num s.size ++ s.data.toList))) :
 Calls Tryz.prog 160 #[b,.agg #[.int .i64 2,.int .i64 n,.string s,lv]] w (y4l base b out w):=by
 have hb0:∀ g,b.ownBlock = some g→g < w.heap.size:=fun g hg=>(hown.lt g hg).2
 have hown1:=hown.alloc (.cells #[.int .i64 2,.int .i64 n,.string s,lv] 80)
 have hne:some w.heap.size ≠ b.ownBlock:=fun h=>by have:=hb0 _ h.symm;omega
 have hsd:s.data.toList.length = s.size:=by simp
 have Hsd:=Lib.hid hsd;clear hsd
 have hw:IntKind.u64.wrap (s.size:Int) = (s.size:Int):=by rw [IntKind.wrap_u64];omega
 go_enter Tryz.func160,Tryz.ntmps160
 go_wp2
 go_region_held3 (fun w'=>w'.cell? ⟨w.heap.size,2,none⟩ = some (.string s)) (first | go_keep | exact z2b (row:=b.ownBlock) (by assumption) (by simp) hne)
  (first
   | (go_at_call 158;refine (z6t base v' (pre ++ [2]) s.size ?d0 _ ho2 ?d1 ?d2).mono ?_
      case d0=>show s.size < _;omega
      case d1=>simp;omega
      case d2=>have:=hg2.size;simp at this;omega
      rintro e w2 ⟨v2,rfl,ho3,hg3,hn3⟩
      have hg4:=z2a hg2 hg3 hn2)
   | (refine z2o (e:=5) Tryz.underlying50 (by kernel_rfl) rfl _ _ rfl base b pre rfl ?own _ 2 2 rfl ?c1 rfl ?c2 ?c3 ?_
      case own=>exact (hown1.alloc _).drew
      case c1=>simp
      case c2=>omega
      case c3=>simp;omega
      intro v' w1 ho2 hg2 hn2)
   | (refine z5h (e:=5) Tryz.underlying50 (by kernel_rfl) rfl _ _ rfl base _ (pre ++ [2] ++ num s.size) rfl ?own _ s.data.toList rfl ?c1 ?c2 ?c3 ?_
      case own=>exact ho3
      case c1=>exact j7v.ofString Tryz.underlying9 s _
      case c2=>have h9:=z7g 9 s.size;rw [Hsd.out];simp [num];omega
      case c3=>have h8:=hg2.size;have h9:=hg3.size;simp at h8;omega
      intro v3 w3 ho4 hg5 hn4
      have hg6:=z2a hg4 hg5 (y7g.trans hn2 hg2.size hn3)))
 go_wp2
 go_ret
 refine ⟨v3,rfl,?_,z2a (z7k (z8a (z8a (z7b w _) _) _)) hg6 (.inl rfl),?_⟩
 · rw [hout.out,← List.append_assoc,← List.append_assoc];exact ho4
 · have h8:=hg2.size;have h9:=hg3.size;simp at h8
   exact y7g.trans (y7g.trans (y7g.trans (y7g.refl w b) (by simp;omega) hn2) (by omega) hn3) (by omega) hn4
end Go.Proofs.YtdblnbnofjggnaaGreatDoor
