/- Parts of the proofs of chapter 49's laws: Ssi Ssr Sve Slw. -/
import Derived.Test.YtdblnbnofjggnaaGreatDoorM49
import Derived.Deep.RegionHeld3
import Derived.Laws.EntriesVeiled
import Derived.Laws.StructEq
import Derived.Test.YtdblnbnofjggnaaGreatDoorM48
set_option maxHeartbeats 4000000
set_option maxRecDepth 100000
open Go
open Lib renaming hid → hd_
open List renaming setIfInBounds_toArray → aS
open List renaming set_cons_zero → aZ
open List renaming set_cons_succ → aU
open Nat renaming le_refl → lR
namespace Go.Proofs.YtdblnbnofjggnaaGreatDoor
open Go.RowKit Go.Shelf
def j6u:ByteArray:=⟨#[110,111,110,99,101]⟩
def k6c:ByteArray:=⟨#[115,105,103,110]⟩
def x6n (x:Int) (m:List UInt8):Nat:=z2p j6u.data.toList ([x].flatMap b8 ++ m)
def y2q (r p:Int) (m:List UInt8):Nat:=z2p k6c.data.toList ([r,p].flatMap b8 ++ m)
theorem z5s (t l:List UInt8):1 ≤ z2p t l∧z2p t l < cQ:=by
 have h:=z5w (z0q t l)
 have e:cM + 1 = cQ:=by decide
 unfold z2p;omega
theorem k7c (n:Nat) (v:Value) (l:List UInt8) (w:World) (k R c p m S:Nat) (hn:Hid (ZPr (n:Int))) (hl:l.length ≤ 50000) (hb:z9c w.heap.size w l v) (hL:Laid w)
 (hk:Hid (x6n n l = k)) (hR:Hid (pw 4 k = R)) (hp:Hid (pw 4 n = p)) (hc:Hid (y2q R p l = c)) (hm:Hid (c * n % cQ = m)) (hS:Hid ((k + m) % cQ = S)) :
 Calls Tryz.prog 67 #[.int .i64 n,v] w fun e w'=>e = .returned (.tuple #[.agg #[.int .i64 R,.int .i64 S],.int .i64 0])∧Below w.heap.size w w':=by
 have hmf:∀ (fn:Fn) (first cap:Array Value) (w:World),(Instr.makeFunc fn first cap).run Tryz.prog w = .ok (.func fn first cap) w:=fun _ _ _ _=>rfl
 have HB:=hd_ hb;have HL:=hd_ hL;have Hl:=hd_ hl
 obtain ⟨oa,cap,rfl⟩:=hb.shape
 have hnl:Hid (n < cQ):=Int.ofNat_lt.1 hn.out.2
 have hkl:Hid (k < cQ):=by show _ < _;rw [← hk.out];exact (z5s _ _).2
 have hcl:Hid (c < cQ):=by show _ < _;rw [← hc.out];exact (z5s _ _).2
 have hml:Hid (m < cQ):=by show _ < _;rw [← hm.out];exact Nat.mod_lt _ (by decide)
 clear hb hL hl
 have hcb0:Hid (CB (w.alloc (.cells #[.int .i64 0,.int .i64 0] 39)) w.heap.size 39 [.int .i64 0,.int .i64 0]):=heap_alloc_new w _
 have hb0:=hd_ ((Below.refl w.heap.size w).alloc (lR _) (.cells #[.int .i64 0,.int .i64 0] 39))
 go_enter Tryz.func67,Tryz.ntmps67
 go_wp2_with fail
 refine (y8z n hn _).mono ?_
 rintro e w1 ⟨rfl,rfl⟩
 generalize w.alloc (.cells #[.int .i64 0,.int .i64 0] 39) = w0 at *
 go_wp2_with fail
 have hbx:=hb0.out.alloc hb0.out.size (.cells #[.int .i64 n] 3)
 refine (y8p j6u _ l _ 1 1 [(n:Int)] _ (by decide) Hl.out (HB.out.ext hbx) (HL.out.ext hbx) rfl (by decide) (k6w _ _ _)).mono ?_
 rw [show z2p j6u.data.toList ([(n:Int)].flatMap b8 ++ l) = k from hk.out]
 rintro e w1 ⟨rfl,hb⟩
 have hcb1:=hd_ ((hcb0.out.alloc (.cells #[.int .i64 n] 3)).ext hb)
 have hb1:=hd_ (z0a hbx hb)
 clear hb hbx hb0 hcb0
 go_wp2_with fail
 refine (x4h k R hkl hR _).mono ?_
 rintro e w2 ⟨rfl,hb⟩
 have hcb2:=hd_ (hcb1.out.ext hb)
 have hb2:=hd_ (z0a hb1.out hb)
 clear hb hcb1 hb1
 have c0:=hcb2.out.cell 0
 have f0:=hcb2.out.frozen 0
 go_wp2_with fail
 have hcb3:Hid (CB (w2.setCell ⟨w.heap.size,0,none⟩ (.int .i64 R)) w.heap.size 39 [.int .i64 R,.int .i64 0]):=hcb2.out.set 0 _
 have hb3:=hd_ (hb2.out.setCell (p:=⟨w.heap.size,0,none⟩) (lR _) (.int .i64 R))
 clear c0 f0 hcb2 hb2
 generalize w2.setCell ⟨w.heap.size,0,none⟩ (.int .i64 R) = w3 at *
 have c0:w3.cell? ⟨w.heap.size,0,none⟩ = some (.int .i64 R):=hcb3.out.cell 0
 have hbS:=(Below.refl w3.heap.size w3).drew
 go_wp2_with fail
 go_region_held3 (fun w'=>w'.cell? ⟨w.heap.size,0,none⟩ = some (.int .i64 R))
  (first | go_keep | exact z1a hbS (hcb3.out.cell 0) | exact z1a (hbS.alloc hbS.size _) (hcb3.out.cell 0))
  (first
   | (go_at_call 72;refine (y9k n p hnl hp _).mono ?_;rintro e w7 ⟨rfl,hb7⟩;have hbS:Below w3.heap.size w3 w7:=by first | exact z0a hbS hb7 | exact y7r hb7)
   | (go_at_call 129;refine (y8p k6c _ l _ 2 2 [(R:Int),(p:Int)] _ (by decide) Hl.out (HB.out.ext (z0a hb3.out (hbS.alloc hbS.size _))) (HL.out.ext (z0a hb3.out (hbS.alloc hbS.size _))) rfl (by decide) (k2v _ _ _ _)).mono ?_
      rw [show z2p k6c.data.toList ([(R:Int),(p:Int)].flatMap b8 ++ l) = c from hc.out]
      rintro e w8 ⟨rfl,hb8⟩
      have hbS:Below w3.heap.size w3 w8:=z0a (hbS.alloc hbS.size _) hb8)
   | (go_at_call 131;refine (j7o c n m hcl hnl hm _).mono ?_;rintro e w9 ⟨rfl,hb9⟩;have hbS:Below w3.heap.size w3 w9:=z0a hbS hb9))
 have hcb9:=hd_ (hcb3.out.ext hbS)
 have hb9:=hd_ (z0a hb3.out hbS)
 clear hbS c0 hcb3 hb3
 go_wp2_with fail
 refine (x3h k m S hkl hml hS _).mono ?_
 rintro e w10 ⟨rfl,hb⟩
 have hcb10:=hd_ (hcb9.out.ext hb)
 have hb10:=hd_ (z0a hb9.out hb)
 clear hb hcb9 hb9
 have c0:w10.cell? ⟨w.heap.size,0,none⟩ = some (.int .i64 R):=hcb10.out.cell 0
 have f0:=hcb10.out.frozen 0
 have c1:w10.cell? ⟨w.heap.size,1,none⟩ = some (.int .i64 0):=hcb10.out.cell 1
 have f1:=hcb10.out.frozen 1
 go_wp2_with fail
 refine bodyPost_ret (v:=.tuple #[.agg #[.int .i64 R,.int .i64 S],.int .i64 0]) (by simp [results,Tryz.results67,go_sem,c0,c1]) rfl ⟨rfl,?_⟩
 exact ((hb10.out.setCell (p:=⟨w.heap.size,1,none⟩) (lR _) _).setCell (p:=⟨w.heap.size,0,none⟩) (lR _) _).setCell (p:=⟨w.heap.size,1,none⟩) (lR _) _
theorem j1q (x:Int) (oa:Option Addr) (len cap:Nat) (w:World) (hx:Hid (¬ ZPr x)) :
 Calls Tryz.prog 67 #[.int .i64 x,.slice oa len cap] w fun e w'=>e = .returned (.tuple #[.agg #[.int .i64 0,.int .i64 0],.int .i64 40])∧Below w.heap.size w w':=by
 have hmf:∀ (fn:Fn) (first cap:Array Value) (w:World),(Instr.makeFunc fn first cap).run Tryz.prog w = .ok (.func fn first cap) w:=fun _ _ _ _=>rfl
 go_enter Tryz.func67,Tryz.ntmps67
 go_wp2_with fail
 refine (x5n x hx _).mono ?_
 rintro e w1 ⟨rfl,rfl⟩
 go_wp2_with fail
 refine bodyPost_ret (v:=.tuple #[.agg #[.int .i64 0,.int .i64 0],.int .i64 40]) (by simp [results,Tryz.results67,go_sem]) rfl ⟨rfl,?_⟩
 exact (Below.refl w.heap.size w).alloc (lR _) _
section
open Go.RowKit Go.Shelf
theorem x9u {e:TypeId} {w w':World} {base:Nat} {v:Value} {l:List UInt8} (h:z0k e w base v l) (hb:Below w.heap.size w w'):z0k e w' base v l:=by
 refine h.kept (row:=none) ⟨hb.os,hb.tape,hb.output,hb.size,fun k hk _=>hb.block k hk⟩ ?_
 cases v.ownBlock <;> simp
theorem y9z (p r:Int) (v:Value) (l:List UInt8) (c:Nat) (w:World) (hl:l.length ≤ 50000) (hb:z9c w.heap.size w l v) (hc:Hid (y2q r p l = c)) :
 Calls Tryz.prog 139 #[.int .i64 p,.int .i64 r,v] w fun e w'=>e = .returned (.int .i64 c)∧Below w.heap.size w w':=by
 have HB:=hd_ hb;have Hl:=hd_ hl
 obtain ⟨oa,cap,rfl⟩:=hb.shape
 clear hb hl
 go_enter Tryz.func139,Tryz.ntmps139
 go_wp2_with fail
 refine (z8x r _).mono ?_
 rintro e w1 ⟨v1,rfl,ho1,hb1⟩
 go_wp2_with fail
 refine (z8x p _).mono ?_
 rintro e w2 ⟨v2,rfl,ho2,hb2⟩
 have HO1:=hd_ (x9u ho1 hb2)
 have S2:=hd_ (j7v.ofRd (P:=Tryz.prog) Tryz.underlying50 ho2.rd)
 have HB2:=hd_ (z0a hb1 hb2)
 clear ho1 ho2 hb1 hb2
 obtain ⟨m1,h1⟩:∃ m,b8 r = m:=⟨_,rfl⟩
 obtain ⟨m2,h2⟩:∃ m,b8 p = m:=⟨_,rfl⟩
 have k1:=x4n r;have k2:=x4n p
 rw [h1] at HO1 k1;rw [h2] at S2 k2
 have hfin:Hid (y2q r p l = z2p k6c.data.toList ((m1 ++ m2) ++ l)):=by
  show _ = _;unfold y2q;rw [← h1,← h2];simp
 have K1:=hd_ k1;have K2:=hd_ k2
 obtain ⟨m3,h3⟩:∃ m,m1 ++ m2 = m:=⟨_,rfl⟩
 obtain ⟨m4,h4⟩:∃ m,m3 ++ l = m:=⟨_,rfl⟩
 have k3:m3.length = 16:=by rw [← h3,List.length_append,k1,k2]
 have K3:=hd_ k3;have H3:=hd_ h3;have H4:=hd_ h4
 have hl4:Hid (m4.length ≤ 100000):=by show _ ≤ _;rw [← h4,List.length_append,k3];have:=Hl.out;omega
 rw [h3,h4] at hfin
 clear h1 h2 h3 h4 k1 k2 k3
 go_wp2_with (first
  | (at_builtin;refine z9b (e:=5) Tryz.underlying50 (by kernel_rfl) rfl (.tmp 8) (.tmp 10) rfl w.heap.size v1 m1 rfl HO1.out _ m2 rfl S2.out (by rw [K1.out,K2.out];decide) HB2.out.size ?_;intro v3 w3 ho3 hg3 hn3;rw [H3.out] at ho3
     have hb3:=hd_ (HB2.out.grown hg3 HB2.out.size (fun g hg=>(World.ownsRow.lt HO1.out g hg).1))
     have HO3:=hd_ ho3
     obtain ⟨oa3,cp3,rfl⟩:=z0k.form ho3
     clear ho3 hg3 hn3
     have S3:=hd_ (j7v.ofBts (P:=Tryz.prog) Tryz.underlying50 (HB.out.ext hb3.out)))
  | (at_builtin;refine z9b (e:=5) Tryz.underlying50 (by kernel_rfl) rfl (.tmp 11) (.tmp 12) rfl w.heap.size _ m3 rfl HO3.out _ l rfl S3.out (by rw [K3.out];have:=Hl.out;omega) hb3.out.size ?_;intro v4 w4 ho4 hg4 hn4;rw [H4.out] at ho4
     have hb4:=hd_ (hb3.out.grown hg4 hb3.out.size (fun g hg=>(World.ownsRow.lt HO3.out g hg).1))
     have HO4:=hd_ ho4
     obtain ⟨oa4,cp4,rfl⟩:=z0k.form ho4
     clear ho4 hg4 hn4))
 have HO4':=hd_ (y8c HO4.out)
 go_wp2_with fail
 refine (y9f k6c _ m4 _ (by decide) hl4.out HO4'.out ).mono ?_
 rw [← hfin.out,hc.out]
 rintro e w6 ⟨rfl,hb6⟩
 have HB6:=hd_ (z0a hb4.out hb6)
 clear hb6
 go_wp2
 go_ret
 exact ⟨rfl,HB6.out⟩
end
section
open Go.RowKit Go.Shelf
theorem y0g.ok {x y r:Nat} {f:Nat→Nat→Nat} {w w':World} {e:Ending} (hx:x < cQ) (hy:y < cQ) (hr:f x y = r) (h:y0g (x:Int) (y:Int) f w e w'):e = .returned (.tuple #[.int .i64 r,.int .i64 0])∧Below w.heap.size w w':=by
 obtain ⟨⟨a,b,rfl,hc⟩,hb⟩:=h
 rcases hc with ⟨_,_,rfl,rfl⟩ | ⟨h1,_,_⟩
 · exact ⟨by rw [← hr];rfl,hb⟩
 · exact absurd ⟨⟨by omega,Int.ofNat_lt.2 hx⟩,⟨by omega,Int.ofNat_lt.2 hy⟩⟩ h1
theorem j2q (x y r:Nat) (hx:Hid (x < cQ)) (hy:Hid (y < cQ)) (hr:Hid (x * y % cQ = r)) (w:World):Calls Tryz.prog 138 #[.int .i64 x,.int .i64 y] w fun e w'=>e = .returned (.tuple #[.int .i64 r,.int .i64 0])∧Below w.heap.size w w' :=
 (j0i x y w).mono fun _ _ h=>h.ok hx.out hy.out hr.out
theorem k8c (x y r:Nat) (hx:Hid (x < cQ)) (hy:Hid (y < cQ)) (hr:Hid ((x + y) % cQ = r)) (w:World):Calls Tryz.prog 140 #[.int .i64 x,.int .i64 y] w fun e w'=>e = .returned (.tuple #[.int .i64 r,.int .i64 0])∧Below w.heap.size w w' :=
 (j6p x y w).mono fun _ _ h=>h.ok hx.out hy.out hr.out
theorem j3q (n:Nat) (v:Value) (l:List UInt8) (w:World) (k R c p m S:Nat) (hn:Hid (ZPr (n:Int))) (hl:l.length ≤ 50000) (hb:z9c w.heap.size w l v)
 (hk:Hid (x6n n l = k)) (hR:Hid (pw 4 k = R)) (hp:Hid (pw 4 n = p)) (hc:Hid (y2q R p l = c)) (hm:Hid (c * n % cQ = m)) (hS:Hid ((k + m) % cQ = S)) :
 Calls Tryz.prog 69 #[.int .i64 n,v] w fun e w'=>e = .returned (.tuple #[.agg #[.int .i64 R,.int .i64 S],.int .i64 0])∧Below w.heap.size w w':=by
 have HB:=hd_ hb;have Hl:=hd_ hl
 obtain ⟨oa,cap,rfl⟩:=hb.shape
 have hnl:Hid (n < cQ):=Int.ofNat_lt.1 hn.out.2
 have hkl:Hid (k < cQ):=by show _ < _;rw [← hk.out];exact (z5s _ _).2
 have hcl:Hid (c < cQ):=by show _ < _;rw [← hc.out];exact (z5s _ _).2
 have hml:Hid (m < cQ):=by show _ < _;rw [← hm.out];exact Nat.mod_lt _ (by decide)
 obtain ⟨m1,h1⟩:∃ m,b8 n = m:=⟨_,rfl⟩
 have k1:=x4n n
 rw [h1] at k1
 obtain ⟨m4,h4⟩:∃ m,m1 ++ l = m:=⟨_,rfl⟩
 have hfin:Hid (z2p j6u.data.toList m4 = k):=by
  show _ = _;rw [← hk.out];unfold x6n;rw [← h4,← h1];simp
 have hl4:Hid (m4.length ≤ 100000):=by show _ ≤ _;rw [← h4,List.length_append,k1];omega
 have K1:=hd_ k1;have H1:=hd_ h1;have H4:=hd_ h4
 clear h1 h4 k1
 clear hb hl
 have hcb0:Hid (CB (w.alloc (.cells #[.int .i64 0,.int .i64 0] 39)) w.heap.size 39 [.int .i64 0,.int .i64 0]):=heap_alloc_new w _
 have hb0:=hd_ ((Below.refl w.heap.size w).alloc (lR _) (.cells #[.int .i64 0,.int .i64 0] 39))
 go_enter Tryz.func69,Tryz.ntmps69
 go_wp2_with fail
 refine (x7u n p hn hp _).mono ?_
 rintro e w1 ⟨rfl,rfl⟩
 generalize w.alloc (.cells #[.int .i64 0,.int .i64 0] 39) = w0 at *
 go_wp2_with fail
 refine (z8x n _).mono ?_
 rw [H1.out]
 rintro e w1 ⟨v1,rfl,ho1,hb1⟩
 have HO1:=hd_ ho1
 have HB01:=hd_ hb1
 have S3:=hd_ (j7v.ofBts (P:=Tryz.prog) Tryz.underlying50 (HB.out.ext (z0a hb0.out hb1)))
 clear ho1 hb1
 go_wp2_with (at_builtin;refine z9b (e:=5) Tryz.underlying50 (by kernel_rfl) rfl (.tmp 25) (.tmp 26) rfl w0.heap.size v1 m1 rfl HO1.out _ l rfl S3.out (by rw [K1.out];have:=Hl.out;omega) HB01.out.size ?_;intro v3 w3 ho3 hg3 hn3;rw [H4.out] at ho3)
 have hb3:=HB01.out.grown hg3 HB01.out.size (fun g hg=>(World.ownsRow.lt HO1.out g hg).1)
 have hcb3:=hd_ (hcb0.out.ext hb3)
 have hb3':=hd_ (z0a hb0.out hb3)
 have HO3:=hd_ (y8c ho3)
 obtain ⟨oa3,cp3,rfl⟩:=z0k.form ho3
 clear ho3 hg3 hn3 hb3 S3 HO1 HB01 hb0 hcb0
 go_wp2_with fail
 refine (y9f j6u _ m4 _ (by decide) hl4.out HO3.out).mono ?_
 rw [hfin.out]
 rintro e w4 ⟨rfl,hb⟩
 have hcb4:=hd_ (CB.ext hcb3.out hb)
 have hb4:=hd_ (z0a hb3'.out hb)
 clear hb hcb3 hb3' HO3
 go_wp2_with fail
 refine (y1q k R hkl hR _).mono ?_
 rintro e w5 ⟨rfl,rfl⟩
 go_wp2_with fail
 refine (y9z p R _ l c _ Hl.out (HB.out.ext hb4.out) hc).mono ?_
 rintro e w5 ⟨rfl,hb⟩
 have hcb5:=hd_ (CB.ext hcb4.out hb)
 have hb5:=hd_ (z0a hb4.out hb)
 clear hb hcb4 hb4
 go_wp2_with fail
 refine (j2q c n m hcl hnl hm _).mono ?_
 rintro e w6 ⟨rfl,hb⟩
 have hcb6:=hd_ (CB.ext hcb5.out hb)
 have hb6:=hd_ (z0a hb5.out hb)
 clear hb hcb5 hb5
 go_wp2_with fail
 refine (k8c k m S hkl hml hS _).mono ?_
 rintro e w7 ⟨rfl,hb⟩
 have hcb7:=hd_ (CB.ext hcb6.out hb)
 have hb7:=hd_ (z0a hb6.out hb)
 clear hb hcb6 hb6
 have c0:w7.cell? ⟨w.heap.size,0,none⟩ = some (.int .i64 0):=hcb7.out.cell 0
 have f0:=hcb7.out.frozen 0
 have c1:w7.cell? ⟨w.heap.size,1,none⟩ = some (.int .i64 0):=hcb7.out.cell 1
 have f1:=hcb7.out.frozen 1
 go_wp2_with fail
 refine bodyPost_ret (v:=.tuple #[.agg #[.int .i64 R,.int .i64 S],.int .i64 0]) (by simp [results,Tryz.results69,go_sem,c0,c1]) rfl ⟨rfl,?_⟩
 exact (hb7.out.setCell (p:=⟨w.heap.size,0,none⟩) (lR _) _).setCell (p:=⟨w.heap.size,1,none⟩) (lR _) _
theorem j5i (x:Int) (oa:Option Addr) (len cap:Nat) (w:World) (hx:Hid (¬ ZPr x)) :
 Calls Tryz.prog 69 #[.int .i64 x,.slice oa len cap] w fun e w'=>e = .returned (.tuple #[.agg #[.int .i64 0,.int .i64 0],.int .i64 40])∧Below w.heap.size w w':=by
 go_enter Tryz.func69,Tryz.ntmps69
 go_wp2_with fail
 refine (x6h x hx _).mono ?_
 rintro e w1 ⟨rfl,rfl⟩
 go_wp2_with fail
 refine bodyPost_ret (v:=.tuple #[.agg #[.int .i64 0,.int .i64 0],.int .i64 40]) (by simp [results,Tryz.results69,go_sem]) rfl ⟨rfl,?_⟩
 exact (Below.refl w.heap.size w).alloc (lR _) _
end
section
open Go.RowKit Go.Shelf
theorem x0v (p R s:Nat) (v:Value) (l:List UInt8) (a b c d:Nat) (t:Bool) (w:World) (hp:Hid (z4t p)) (hR:Hid (z4t R)) (hs:Hid (s < cQ)) (hl:l.length ≤ 50000) (hb:z9c w.heap.size w l v)
 (hc:Hid (y2q R p l = c)) (ha:Hid (pw 4 s = a)) (hB:Hid (pw p c = b)) (hd:Hid (R * b % cP = d)) (ht:((a:Int) == (d:Int)) = t) :
 Calls Tryz.prog 74 #[.int .i64 p,v,.agg #[.int .i64 R,.int .i64 s]] w fun e w'=>e = .returned (.bool t)∧Below w.heap.size w w':=by
 have HB:=hd_ hb;have Hl:=hd_ hl
 obtain ⟨oa,cap,rfl⟩:=hb.shape
 have hcl:Hid (c < cQ):=by show _ < _;rw [← hc.out];exact (z5s _ _).2
 have hbe:Hid (z4t b):=by show z4t b;rw [← hB.out];exact x1b hp.out c
 have t1:decide ((s:Int) < 0) = false:=by simp
 have t2:decide ((2305843009213688669:Int) ≤ (s:Int)) = false:=decide_eq_false (Int.not_le.2 (Int.ofNat_lt.2 hs.out))
 clear hb hl
 have hcb0:Hid (CB (w.alloc (.cells #[.int .i64 R,.int .i64 s] 39)) w.heap.size 39 [.int .i64 R,.int .i64 s]):=heap_alloc_new w _
 have hb0:=hd_ ((Below.refl w.heap.size w).alloc (lR _) (.cells #[.int .i64 R,.int .i64 s] 39))
 go_enter Tryz.func74,Tryz.ntmps74
 go_upto_region 1 with fail
 generalize w.alloc (.cells #[.int .i64 R,.int .i64 s] 39) = w0 at *
 have c0:w0.cell? ⟨w.heap.size,0,none⟩ = some (.int .i64 R):=hcb0.out.cell 0
 have c1:w0.cell? ⟨w.heap.size,1,none⟩ = some (.int .i64 s):=hcb0.out.cell 1
 go_wp2_with fail
 refine (z6g p hp _).mono ?_
 rintro e w1 ⟨rfl,rfl⟩
 go_wp2_with fail
 refine (z6g R hR _).mono ?_
 rintro e w1 ⟨rfl,rfl⟩
 go_wp2_with fail
 refine (y1q s a hs ha _).mono ?_
 rintro e w1 ⟨rfl,rfl⟩
 go_wp2_with fail
 refine (y9z p R _ l c _ Hl.out (HB.out.ext hb0.out) hc).mono ?_
 rintro e w1 ⟨rfl,hb⟩
 have hb1:=hd_ (z0a hb0.out hb)
 have d0:w1.cell? ⟨w.heap.size,0,none⟩ = some (.int .i64 R):=z1a hb c0
 have d1:w1.cell? ⟨w.heap.size,1,none⟩ = some (.int .i64 s):=z1a hb c1
 clear hb
 go_wp2_with fail
 refine (j1i p c b hp hcl hB _).mono ?_
 rintro e w2 ⟨rfl,rfl⟩
 go_wp2_with fail
 refine (k4c R b d hR hbe hd _).mono ?_
 rintro e w2 ⟨rfl,rfl⟩
 go_wp2_with fail
 go_ret
 exact ⟨rfl,hb1.out⟩
theorem x7h (P R S:Int) (oa:Option Addr) (len cap:Nat) (w:World) (h:¬ (ZEl P∧ZEl R∧ZSc S)) :
 Calls Tryz.prog 74 #[.int .i64 P,.slice oa len cap,.agg #[.int .i64 R,.int .i64 S]] w fun e w'=>e = .returned (.bool false)∧Below w.heap.size w w':=by
 have hcb0:Hid (CB (w.alloc (.cells #[.int .i64 R,.int .i64 S] 39)) w.heap.size 39 [.int .i64 R,.int .i64 S]):=heap_alloc_new w _
 have hb0:=hd_ ((Below.refl w.heap.size w).alloc (lR _) (.cells #[.int .i64 R,.int .i64 S] 39))
 by_cases h1:ZEl P
 case neg =>
  have H1:=hd_ h1
  clear h h1
  go_enter Tryz.func74,Tryz.ntmps74
  go_wp2_with fail
  refine (y8k P H1 _).mono ?_
  rintro e w1 ⟨rfl,rfl⟩
  go_wp2_with fail
  go_ret
  exact ⟨rfl,hb0.out⟩
 case pos =>
  obtain ⟨p,rfl,hp⟩:∃ n:Nat,P = (n:Int)∧z4t n:=⟨P.toNat,by have:=h1.1;omega,h1.2⟩
  have Hp:=hd_ hp
  by_cases h2:ZEl R
  case neg =>
   have H2:=hd_ h2
   clear h h1 h2 hp
   go_enter Tryz.func74,Tryz.ntmps74
   go_upto_region 1 with fail
   generalize w.alloc (.cells #[.int .i64 R,.int .i64 S] 39) = w0 at *
   have c0:w0.cell? ⟨w.heap.size,0,none⟩ = some (.int .i64 R):=hcb0.out.cell 0
   go_wp2_with fail
   refine (z6g p Hp _).mono ?_
   rintro e w1 ⟨rfl,rfl⟩
   go_wp2_with fail
   refine (y8k R H2 _).mono ?_
   rintro e w1 ⟨rfl,rfl⟩
   go_wp2_with fail
   go_ret
   exact ⟨rfl,hb0.out⟩
  case pos =>
   obtain ⟨r,rfl,hr⟩:∃ n:Nat,R = (n:Int)∧z4t n:=⟨R.toNat,by have:=h2.1;omega,h2.2⟩
   have Hr:=hd_ hr
   have h3:¬ ZSc S:=fun h3=>h ⟨h1,h2,h3⟩
   rcases y9p h3 with hx | hx
   · have t1:=k9t hx
     clear h h1 h2 hp hr h3 hx
     go_enter Tryz.func74,Tryz.ntmps74
     go_upto_region 1 with fail
     generalize w.alloc (.cells #[.int .i64 r,.int .i64 S] 39) = w0 at *
     have c0:w0.cell? ⟨w.heap.size,0,none⟩ = some (.int .i64 r):=hcb0.out.cell 0
     have c1:w0.cell? ⟨w.heap.size,1,none⟩ = some (.int .i64 S):=hcb0.out.cell 1
     go_wp2_with fail
     refine (z6g p Hp _).mono ?_
     rintro e w1 ⟨rfl,rfl⟩
     go_wp2_with fail
     refine (z6g r Hr _).mono ?_
     rintro e w1 ⟨rfl,rfl⟩
     go_wp2_with fail
     go_ret
     exact ⟨rfl,hb0.out⟩
   · obtain ⟨t1,t2⟩:=k0u hx
     clear h h1 h2 hp hr h3 hx
     go_enter Tryz.func74,Tryz.ntmps74
     go_upto_region 1 with fail
     generalize w.alloc (.cells #[.int .i64 r,.int .i64 S] 39) = w0 at *
     have c0:w0.cell? ⟨w.heap.size,0,none⟩ = some (.int .i64 r):=hcb0.out.cell 0
     have c1:w0.cell? ⟨w.heap.size,1,none⟩ = some (.int .i64 S):=hcb0.out.cell 1
     go_wp2_with fail
     refine (z6g p Hp _).mono ?_
     rintro e w1 ⟨rfl,rfl⟩
     go_wp2_with fail
     refine (z6g r Hr _).mono ?_
     rintro e w1 ⟨rfl,rfl⟩
     go_wp2_with fail
     go_ret
     exact ⟨rfl,hb0.out⟩
end
def ElE (a x:Int):Prop:=(ZEl a∧x = 0)∨(¬ ZEl a∧x = 30)
def ScE (a x:Int):Prop:=(ZSc a∧x = 0)∨(¬ ZSc a∧x = 1)
theorem j6i {a:Int} (h:ZEl a):∃ n:Nat,a = (n:Int)∧z4t n:=⟨a.toNat,by have:=h.1;omega,h.2⟩
theorem k6n {a:Int} (h:ZSc a):∃ n:Nat,a = (n:Int)∧n < cQ:=⟨a.toNat,by have:=h.1;omega,by have:=h.1;have:=h.2;omega⟩
theorem k9c {n:Nat} (h:z4t n):ZEl (n:Int):=⟨by have:=h.1;omega,h⟩
theorem k0d {n:Nat} (h:n < cQ):ZSc (n:Int):=⟨by omega,Int.ofNat_lt.2 h⟩
theorem z3r (a x:Int) (h:Hid (ElE a x)) (w:World):Calls Tryz.prog 142 #[.int .i64 a] w fun e w'=>e = .returned (.int .i64 x)∧Below w.heap.size w w':=by
 rcases h.out with ⟨h1,rfl⟩ | ⟨h1,rfl⟩
 · obtain ⟨n,rfl,hn⟩:=j6i h1;exact y8a n hn w
 · exact j6h a h1 w
theorem z6s (a x:Int) (h:Hid (ScE a x)) (w:World):Calls Tryz.prog 143 #[.int .i64 a] w fun e w'=>e = .returned (.int .i64 x)∧Below w.heap.size w w':=by
 rcases h.out with ⟨h1,rfl⟩ | ⟨h1,rfl⟩
 · exact x8u a h1 w
 · exact j4i a h1 w
theorem eq3 (a b c:Int) (w:World):(Op.equalIn 10000 171 (.agg #[.int .i64 a,.int .i64 b,.int .i64 c]) (.agg #[.int .i64 0,.int .i64 0,.int .i64 0])).run Tryz.prog w = .ok (a == 0 && b == 0 && c == 0) w:=by
 have hu:=Tryz.underlying171
 have hE:=Tryz.underlying44
 have ha:(isAgg 44).run Tryz.prog w = .ok false w:=by kernel_rfl
 have hs:(sizeOf 44).run Tryz.prog w = .ok 1 w:=by kernel_rfl
 have p0:∀ x y z:Int,(part 44 #[.int .i64 x,.int .i64 y,.int .i64 z] 0).run Tryz.prog w = .ok (.int .i64 x) w:=fun x y z=>by simp [part,ha]
 have p1:∀ x y z:Int,(part 44 #[.int .i64 x,.int .i64 y,.int .i64 z] 1).run Tryz.prog w = .ok (.int .i64 y) w:=fun x y z=>by simp [part,ha]
 have p2:∀ x y z:Int,(part 44 #[.int .i64 x,.int .i64 y,.int .i64 z] 2).run Tryz.prog w = .ok (.int .i64 z) w:=fun x y z=>by simp [part,ha]
 have q:∀ x:Int,(Op.equalIn 9999 44 (.int .i64 x) (.int .i64 0)).run Tryz.prog w = .ok (x == 0) w:=fun x=>run_equalIn_int w 9998 _ .i64 .i64 _ _ hE
 rw [show (10000:Nat) = 9999 + 1 from rfl,Op.equalIn]
 simp only [Sem.run_bind,run_underlying hu,Result.andThen_ok,hs,Std.Legacy.Range.forIn_eq_forIn_range']
 rw [show List.range' ({ stop:=3,step_pos:=(by decide) }:Std.Legacy.Range).start ({ stop:=3,step_pos:=(by decide) }:Std.Legacy.Range).size ({ stop:=3,step_pos:=(by decide) }:Std.Legacy.Range).step = [0,1,2] from rfl]
 simp only [List.forIn_cons,List.forIn_nil,Sem.run_bind,Nat.mul_one,p0,q,Result.andThen_ok]
 by_cases h1:a = 0 <;> by_cases h2:b = 0 <;> by_cases h3:c = 0 <;> simp [h1,h2,h3,p1,p2,q]
theorem gd3 (op:BinOp) (x y:Operand) (a b:Array Value) (w:World):(eqGuard op 171 x y (.agg a) (.agg b)).run Tryz.prog w = .ok () w :=
 run_eqGuard_agg w op _ x y _ _ (by kernel_rfl)
theorem CB.three {w:World} {g:Nat} {t:TypeId} {a b c:Value} (h:CB w g t [a,b,c]):w.cell? ⟨g,0,none⟩ = some a∧w.cell? ⟨g,1,none⟩ = some b∧w.cell? ⟨g,2,none⟩ = some c∧w.frozen? ⟨g,0,none⟩ = false∧w.frozen? ⟨g,1,none⟩ = false∧w.frozen? ⟨g,2,none⟩ = false :=
 ⟨h.cell 0,h.cell 1,h.cell 2,h.frozen 0,h.frozen 1,h.frozen 2⟩
def k1d (w:World) (e1 e2 e3 R S:Int) (v:Value) (wx:World):Prop :=
 ∃ B,v = .pointer (some ⟨B,0,none⟩)∧CB wx B 171 [.int .i64 e1,.int .i64 e2,.int .i64 e3]∧CB wx w.heap.size 39 [.int .i64 R,.int .i64 S]∧Below w.heap.size w wx
theorem k6p (a b c:Int):(#[Value.int .i64 a,.int .i64 b,.int .i64 c].all fun x=>x.oneCell') = true:=by simp [Value.oneCell']
theorem x7n {w w0 W:World} {A:Nat} {R S:Int} (e1 e2 e3:Int) (hbw:Below w.heap.size w w0) (hH:Below w0.heap.size w0 W) (hA:CB W A 171 [.int .i64 0,.int .i64 0,.int .i64 0])
 (hcS:CB w0 w.heap.size 39 [.int .i64 R,.int .i64 S]) (hA2:w0.heap.size ≤ A):k1d w e1 e2 e3 R S (.pointer (some ⟨A,0,none⟩)) (W.setRow A #[.int .i64 e1,.int .i64 e2,.int .i64 e3]):=by
 have hlt:=hcS.lt
 have hS:=hcS.ext hH
 refine ⟨A,rfl,setRow_heap _ _ _ _ _ _ hA,hS.keep (setRow_other W A _ _ (by omega)),?_⟩
 have hb:=z0a hbw hH
 exact ⟨hb.os,hb.tape,hb.output,by rw [size_setRow];exact hb.size,fun k hk=>by rw [setRow_other W A k _ (by have:=hbw.size;omega)];exact hb.block k hk⟩
theorem y3q {w wx:World} {e1 e2 e3 R S:Int} {v:Value} (h:k1d w e1 e2 e3 R S v wx):wx.cell? ⟨w.heap.size,0,none⟩ = some (.int .i64 R)∧wx.cell? ⟨w.heap.size,1,none⟩ = some (.int .i64 S):=by
 obtain ⟨_,_,_,h,_⟩:=h
 exact ⟨h.cell 0,h.cell 1⟩
theorem take_dst {P:Program} {md:Region.Mode} {ops:Array Oper} {Q:Exit→Act→World→Prop} {S:World→Prop} (d:Option Tmp) {i:Nat} {oi:Oper} {v:Value} {fuel:Nat} {listed:Array Bool} {a:Act} {w:World} (hi:ops[i]? = some oi) (hd:oi.dst = d)
 (hs:Region.noSelect ops = true) (hf:Region.free md ops listed i = true) (hr:(Region.ready md ops listed).contains i = true)
 (hQ:∀ c a w,Q (.panic c) (a.put d v) w→Q (.panic c) a w) (hy:YieldsIf P ops S oi v a) (hS:S w)
 (h:wpAnyH P md ops Q S fuel (listed.setIfInBounds i true) (a.put d v) w):wpAnyH P md ops Q S (fuel + 1) listed a w:=by
 subst hd
 exact wpAnyH_take hi hs hf hr hQ hy hS h
def z6l (P R S e1 e2 e3:Int) (l:List UInt8) (t:Bool):Prop :=
 (¬ (e1 = 0∧e2 = 0∧e3 = 0)∧t = false) ∨
 (e1 = 0∧e2 = 0∧e3 = 0∧∃ p r s a b c d:Nat,P = (p:Int)∧R = (r:Int)∧S = (s:Int)∧z4t p∧z4t r∧s < cQ∧y2q r p l = c∧pw 4 s = a∧pw p c = b∧r * b % cP = d∧((a:Int) == (d:Int)) = t)
theorem x1v (P R S e1 e2 e3:Int) (v:Value) (l:List UInt8) (t:Bool) (w:World) (hl:l.length ≤ 50000) (hb:z9c w.heap.size w l v) (hL:Laid w) (h1:Hid (ElE P e1)) (h2:Hid (ElE R e2)) (h3:Hid (ScE S e3)) (h:Hid (z6l P R S e1 e2 e3 l t)) :
 Calls Tryz.prog 73 #[.int .i64 P,v,.agg #[.int .i64 R,.int .i64 S]] w fun e w'=>e = .returned (.bool t)∧Below w.heap.size w w':=by
 have HB:=hd_ hb;have HL:=hd_ hL;have Hl:=hd_ hl
 obtain ⟨oa,cap,rfl⟩:=hb.shape
 clear hb hL hl
 have hcb0:Hid (CB (w.alloc (.cells #[.int .i64 R,.int .i64 S] 39)) w.heap.size 39 [.int .i64 R,.int .i64 S]):=heap_alloc_new w _
 have hb0:=hd_ ((Below.refl w.heap.size w).alloc (lR _) (.cells #[.int .i64 R,.int .i64 S] 39))
 go_enter Tryz.func73,Tryz.ntmps73
 go_upto_region 1 with fail
 generalize w.alloc (.cells #[.int .i64 R,.int .i64 S] 39) = w0 at *
 go_cut [7] (fun v wx=>k1d w e1 e2 e3 R S v wx)
 case first =>
  clear h HB HL Hl
  have c0:w0.cell? ⟨w.heap.size,0,none⟩ = some (.int .i64 R):=hcb0.out.cell 0
  have c1:w0.cell? ⟨w.heap.size,1,none⟩ = some (.int .i64 S):=hcb0.out.cell 1
  have H0:=hd_ ((Below.refl w0.heap.size w0).drew)
  refine wp_region_held_drew (S:=(fun w'=>w'.cell? ⟨w.heap.size,0,none⟩ = some (.int .i64 R)∧w'.cell? ⟨w.heap.size,1,none⟩ = some (.int .i64 S))) (by kernel_rfl) ⟨z1a H0.out c0,z1a H0.out c1⟩ (fun hHeld=>?_)
  generalize w0.drew = W0 at *
  refine take_dst (some 14) (i:=0) (v:=?va0) rfl rfl (by kernel_rfl) (by kernel_rfl) (by kernel_rfl) (fun _ _ _ h=>h) (Or.inl ⟨by rfl,fun wS hSw=>?hya0⟩) (by assumption) ?resta0
  case hya0=>(obtain ⟨s0,s1⟩:=hSw;go_simp;first | done | with_reducible rfl)
  try simp only [Act.put,aS,aZ,aU]
  refine take_dst (some 16) (i:=2) (v:=?va2) rfl rfl (by kernel_rfl) (by kernel_rfl) (by kernel_rfl) (fun _ _ _ h=>h) (Or.inl ⟨by rfl,fun wS hSw=>?hya2⟩) (by assumption) ?resta2
  case hya2=>(obtain ⟨s0,s1⟩:=hSw;go_simp;first | done | with_reducible rfl)
  try simp only [Act.put,aS,aZ,aU]
  refine take_dst (some 17) (i:=3) (v:=?va3) rfl rfl (by kernel_rfl) (by kernel_rfl) (by kernel_rfl) (fun _ _ _ h=>h) (Or.inl ⟨by rfl,fun wS hSw=>?hya3⟩) (by assumption) ?resta3
  case hya3=>(obtain ⟨s0,s1⟩:=hSw;go_simp;first | done | with_reducible rfl)
  try simp only [Act.put,aS,aZ,aU]
  refine take_dst (some 19) (i:=5) (v:=?va5) rfl rfl (by kernel_rfl) (by kernel_rfl) (by kernel_rfl) (fun _ _ _ h=>h) (Or.inl ⟨by rfl,fun wS hSw=>?hya5⟩) (by assumption) ?resta5
  case hya5=>(obtain ⟨s0,s1⟩:=hSw;go_simp;first | done | with_reducible rfl)
  try simp only [Act.put,aS,aZ,aU]
  refine take_dst (some 20) (i:=6) (v:=?va6) rfl rfl (by kernel_rfl) (by kernel_rfl) (by kernel_rfl) (fun _ _ _ h=>h) (Or.inl ⟨by rfl,fun wS hSw=>?hya6⟩) (by assumption) ?resta6
  case hya6=>(obtain ⟨s0,s1⟩:=hSw;go_simp;first | done | with_reducible rfl)
  try simp only [Act.put,aS,aZ,aU]
  refine wpAnyH_ready (rs:=[1,9]) (by kernel_rfl) (by simp) ?_
  refine AllReadyH.cons rfl (fun K hK=>?_) (AllReadyH.cons rfl (fun K hK=>?_) AllReadyH.nil)
  · skip
    go_simp
    refine (z3r P e1 h1 _).mono ?_
    rintro e W1 ⟨rfl,hb⟩
    have H1:=hd_ (z0a H0.out hb)
    clear hb
    refine hK.out _ _ ⟨z1a H1.out c0,z1a H1.out c1⟩ (fun hHeld1=>?_)
    clear hK K
    try simp only [Act.put,aS,aZ,aU]
    refine wpAnyH_ready (rs:=[4,9]) (by kernel_rfl) (by simp) ?_
    refine AllReadyH.cons rfl (fun K hK=>?_) (AllReadyH.cons rfl (fun K hK=>?_) AllReadyH.nil)
    · skip
      go_simp
      refine (z3r R e2 h2 _).mono ?_
      rintro e W2 ⟨rfl,hb⟩
      have H2:=hd_ (z0a H1.out hb)
      clear hb
      refine hK.out _ _ ⟨z1a H2.out c0,z1a H2.out c1⟩ (fun hHeld2=>?_)
      clear hK K
      try simp only [Act.put,aS,aZ,aU]
      refine wpAnyH_ready (rs:=[7,9]) (by kernel_rfl) (by simp) ?_
      refine AllReadyH.cons rfl (fun K hK=>?_) (AllReadyH.cons rfl (fun K hK=>?_) AllReadyH.nil)
      · skip
        go_simp
        refine (z6s S e3 h3 _).mono ?_
        rintro e W3 ⟨rfl,hb⟩
        have H3:=hd_ (z0a H2.out hb)
        clear hb
        refine hK.out _ _ ⟨z1a H3.out c0,z1a H3.out c1⟩ (fun hHeld3=>?_)
        clear hK K
        try simp only [Act.put,aS,aZ,aU]
        refine take_dst (some 22) (i:=8) (v:=?vt4) rfl rfl (by kernel_rfl) (by kernel_rfl) (by kernel_rfl) (fun _ _ _ h=>h) (Or.inl ⟨by rfl,fun wS hSw=>?hyt4⟩) (by assumption) ?restt4
        case hyt4=>(obtain ⟨s0,s1⟩:=hSw;go_simp;first | done | with_reducible rfl)
        try simp only [Act.put,aS,aZ,aU]
        refine wpAnyH_ready (rs:=[9]) (by kernel_rfl) (by simp) ?_
        refine AllReadyH.cons rfl (fun K hK=>?_) AllReadyH.nil
        go_simp
        have H5:=hd_ (H3.out.alloc H3.out.size (.cells #[.int .i64 0,.int .i64 0,.int .i64 0] 171))
        have HA5:Hid (CB (W3.alloc (.cells #[.int .i64 0,.int .i64 0,.int .i64 0] 171)) W3.heap.size 171 [.int .i64 0,.int .i64 0,.int .i64 0]):=CB.new W3 _ _
        have HL:Hid (w0.heap.size ≤ W3.heap.size):=H3.out.size
        refine hK.out _ _ ⟨z1a H5.out c0,z1a H5.out c1⟩ (fun hHeld5=>?_)
        clear hK K
        generalize W3.alloc (.cells #[.int .i64 0,.int .i64 0,.int .i64 0] 171) = W5 at *
        try simp only [Act.put,aS,aZ,aU]
        refine wpAnyH_ready (rs:=[10]) (by kernel_rfl) (by simp) ?_
        refine AllReadyH.cons rfl (fun K hK=>?_) AllReadyH.nil
        rw [if_pos (by simp [Region.wanted])]
        refine wp_store_row 171 (.tmp 7) (.tmp 22) rfl W3.heap.size #[.int .i64 e1,.int .i64 e2,.int .i64 e3] rfl rfl 171 #[.int .i64 0,.int .i64 0,.int .i64 0] HA5.out (by kernel_rfl) rfl (k6p _ _ _) ?_
        have hend:=hd_ (x7n e1 e2 e3 hb0.out H5.out HA5.out hcb0.out HL.out)
        refine hK.out _ _ (y3q hend.out) (fun hHeldE=>?_)
        clear hK K
        refine wpAnyH_done (by kernel_rfl) ?_ _
        go_wp2_with fail
        go_meet
        exact hend.out
      · skip
        go_simp
        have H6:=hd_ (H2.out.alloc H2.out.size (.cells #[.int .i64 0,.int .i64 0,.int .i64 0] 171))
        have HA6:Hid (CB (W2.alloc (.cells #[.int .i64 0,.int .i64 0,.int .i64 0] 171)) W2.heap.size 171 [.int .i64 0,.int .i64 0,.int .i64 0]):=CB.new W2 _ _
        have HL:Hid (w0.heap.size ≤ W2.heap.size):=H2.out.size
        refine hK.out _ _ ⟨z1a H6.out c0,z1a H6.out c1⟩ (fun hHeld6=>?_)
        clear hK K
        generalize W2.alloc (.cells #[.int .i64 0,.int .i64 0,.int .i64 0] 171) = W6 at *
        try simp only [Act.put,aS,aZ,aU]
        refine wpAnyH_ready (rs:=[7]) (by kernel_rfl) (by simp) ?_
        refine AllReadyH.cons rfl (fun K hK=>?_) AllReadyH.nil
        go_simp
        refine (z6s S e3 h3 _).mono ?_
        rintro e W7 ⟨rfl,hb⟩
        have H7:=hd_ (z0a H6.out hb)
        have HA7:=hd_ (CB.ext HA6.out hb)
        clear hb
        refine hK.out _ _ ⟨z1a H7.out c0,z1a H7.out c1⟩ (fun hHeld7=>?_)
        clear hK K
        try simp only [Act.put,aS,aZ,aU]
        refine take_dst (some 22) (i:=8) (v:=?vt8) rfl rfl (by kernel_rfl) (by kernel_rfl) (by kernel_rfl) (fun _ _ _ h=>h) (Or.inl ⟨by rfl,fun wS hSw=>?hyt8⟩) (by assumption) ?restt8
        case hyt8=>(obtain ⟨s0,s1⟩:=hSw;go_simp;first | done | with_reducible rfl)
        try simp only [Act.put,aS,aZ,aU]
        refine wpAnyH_ready (rs:=[10]) (by kernel_rfl) (by simp) ?_
        refine AllReadyH.cons rfl (fun K hK=>?_) AllReadyH.nil
        rw [if_pos (by simp [Region.wanted])]
        refine wp_store_row 171 (.tmp 7) (.tmp 22) rfl W2.heap.size #[.int .i64 e1,.int .i64 e2,.int .i64 e3] rfl rfl 171 #[.int .i64 0,.int .i64 0,.int .i64 0] HA7.out (by kernel_rfl) rfl (k6p _ _ _) ?_
        have hend:=hd_ (x7n e1 e2 e3 hb0.out H7.out HA7.out hcb0.out HL.out)
        refine hK.out _ _ (y3q hend.out) (fun hHeldE=>?_)
        clear hK K
        refine wpAnyH_done (by kernel_rfl) ?_ _
        go_wp2_with fail
        go_meet
        exact hend.out
    · skip
      go_simp
      have H9:=hd_ (H1.out.alloc H1.out.size (.cells #[.int .i64 0,.int .i64 0,.int .i64 0] 171))
      have HA9:Hid (CB (W1.alloc (.cells #[.int .i64 0,.int .i64 0,.int .i64 0] 171)) W1.heap.size 171 [.int .i64 0,.int .i64 0,.int .i64 0]):=CB.new W1 _ _
      have HL:Hid (w0.heap.size ≤ W1.heap.size):=H1.out.size
      refine hK.out _ _ ⟨z1a H9.out c0,z1a H9.out c1⟩ (fun hHeld9=>?_)
      clear hK K
      generalize W1.alloc (.cells #[.int .i64 0,.int .i64 0,.int .i64 0] 171) = W9 at *
      try simp only [Act.put,aS,aZ,aU]
      refine wpAnyH_ready (rs:=[4]) (by kernel_rfl) (by simp) ?_
      refine AllReadyH.cons rfl (fun K hK=>?_) AllReadyH.nil
      go_simp
      refine (z3r R e2 h2 _).mono ?_
      rintro e W10 ⟨rfl,hb⟩
      have H10:=hd_ (z0a H9.out hb)
      have HA10:=hd_ (CB.ext HA9.out hb)
      clear hb
      refine hK.out _ _ ⟨z1a H10.out c0,z1a H10.out c1⟩ (fun hHeld10=>?_)
      clear hK K
      try simp only [Act.put,aS,aZ,aU]
      refine wpAnyH_ready (rs:=[7]) (by kernel_rfl) (by simp) ?_
      refine AllReadyH.cons rfl (fun K hK=>?_) AllReadyH.nil
      go_simp
      refine (z6s S e3 h3 _).mono ?_
      rintro e W11 ⟨rfl,hb⟩
      have H11:=hd_ (z0a H10.out hb)
      have HA11:=hd_ (CB.ext HA10.out hb)
      clear hb
      refine hK.out _ _ ⟨z1a H11.out c0,z1a H11.out c1⟩ (fun hHeld11=>?_)
      clear hK K
      try simp only [Act.put,aS,aZ,aU]
      refine take_dst (some 22) (i:=8) (v:=?vt12) rfl rfl (by kernel_rfl) (by kernel_rfl) (by kernel_rfl) (fun _ _ _ h=>h) (Or.inl ⟨by rfl,fun wS hSw=>?hyt12⟩) (by assumption) ?restt12
      case hyt12=>(obtain ⟨s0,s1⟩:=hSw;go_simp;first | done | with_reducible rfl)
      try simp only [Act.put,aS,aZ,aU]
      refine wpAnyH_ready (rs:=[10]) (by kernel_rfl) (by simp) ?_
      refine AllReadyH.cons rfl (fun K hK=>?_) AllReadyH.nil
      rw [if_pos (by simp [Region.wanted])]
      refine wp_store_row 171 (.tmp 7) (.tmp 22) rfl W1.heap.size #[.int .i64 e1,.int .i64 e2,.int .i64 e3] rfl rfl 171 #[.int .i64 0,.int .i64 0,.int .i64 0] HA11.out (by kernel_rfl) rfl (k6p _ _ _) ?_
      have hend:=hd_ (x7n e1 e2 e3 hb0.out H11.out HA11.out hcb0.out HL.out)
      refine hK.out _ _ (y3q hend.out) (fun hHeldE=>?_)
      clear hK K
      refine wpAnyH_done (by kernel_rfl) ?_ _
      go_wp2_with fail
      go_meet
      exact hend.out
  · skip
    go_simp
    have H13:=hd_ (H0.out.alloc H0.out.size (.cells #[.int .i64 0,.int .i64 0,.int .i64 0] 171))
    have HA13:Hid (CB (W0.alloc (.cells #[.int .i64 0,.int .i64 0,.int .i64 0] 171)) W0.heap.size 171 [.int .i64 0,.int .i64 0,.int .i64 0]):=CB.new W0 _ _
    have HL:Hid (w0.heap.size ≤ W0.heap.size):=H0.out.size
    refine hK.out _ _ ⟨z1a H13.out c0,z1a H13.out c1⟩ (fun hHeld13=>?_)
    clear hK K
    generalize W0.alloc (.cells #[.int .i64 0,.int .i64 0,.int .i64 0] 171) = W13 at *
    try simp only [Act.put,aS,aZ,aU]
    refine wpAnyH_ready (rs:=[1]) (by kernel_rfl) (by simp) ?_
    refine AllReadyH.cons rfl (fun K hK=>?_) AllReadyH.nil
    go_simp
    refine (z3r P e1 h1 _).mono ?_
    rintro e W14 ⟨rfl,hb⟩
    have H14:=hd_ (z0a H13.out hb)
    have HA14:=hd_ (CB.ext HA13.out hb)
    clear hb
    refine hK.out _ _ ⟨z1a H14.out c0,z1a H14.out c1⟩ (fun hHeld14=>?_)
    clear hK K
    try simp only [Act.put,aS,aZ,aU]
    refine wpAnyH_ready (rs:=[4]) (by kernel_rfl) (by simp) ?_
    refine AllReadyH.cons rfl (fun K hK=>?_) AllReadyH.nil
    go_simp
    refine (z3r R e2 h2 _).mono ?_
    rintro e W15 ⟨rfl,hb⟩
    have H15:=hd_ (z0a H14.out hb)
    have HA15:=hd_ (CB.ext HA14.out hb)
    clear hb
    refine hK.out _ _ ⟨z1a H15.out c0,z1a H15.out c1⟩ (fun hHeld15=>?_)
    clear hK K
    try simp only [Act.put,aS,aZ,aU]
    refine wpAnyH_ready (rs:=[7]) (by kernel_rfl) (by simp) ?_
    refine AllReadyH.cons rfl (fun K hK=>?_) AllReadyH.nil
    go_simp
    refine (z6s S e3 h3 _).mono ?_
    rintro e W16 ⟨rfl,hb⟩
    have H16:=hd_ (z0a H15.out hb)
    have HA16:=hd_ (CB.ext HA15.out hb)
    clear hb
    refine hK.out _ _ ⟨z1a H16.out c0,z1a H16.out c1⟩ (fun hHeld16=>?_)
    clear hK K
    try simp only [Act.put,aS,aZ,aU]
    refine take_dst (some 22) (i:=8) (v:=?vt17) rfl rfl (by kernel_rfl) (by kernel_rfl) (by kernel_rfl) (fun _ _ _ h=>h) (Or.inl ⟨by rfl,fun wS hSw=>?hyt17⟩) (by assumption) ?restt17
    case hyt17=>(obtain ⟨s0,s1⟩:=hSw;go_simp;first | done | with_reducible rfl)
    try simp only [Act.put,aS,aZ,aU]
    refine wpAnyH_ready (rs:=[10]) (by kernel_rfl) (by simp) ?_
    refine AllReadyH.cons rfl (fun K hK=>?_) AllReadyH.nil
    rw [if_pos (by simp [Region.wanted])]
    refine wp_store_row 171 (.tmp 7) (.tmp 22) rfl W0.heap.size #[.int .i64 e1,.int .i64 e2,.int .i64 e3] rfl rfl 171 #[.int .i64 0,.int .i64 0,.int .i64 0] HA16.out (by kernel_rfl) rfl (k6p _ _ _) ?_
    have hend:=hd_ (x7n e1 e2 e3 hb0.out H16.out HA16.out hcb0.out HL.out)
    refine hK.out _ _ (y3q hend.out) (fun hHeldE=>?_)
    clear hK K
    refine wpAnyH_done (by kernel_rfl) ?_ _
    go_wp2_with fail
    go_meet
    exact hend.out
 case rest =>
  obtain ⟨B,rfl,hcB,hcS,hbw⟩:=hcut
  obtain ⟨a0,a1,a2,_,_,_⟩:=hcB.three
  have c0:wc.cell? ⟨w.heap.size,0,none⟩ = some (.int .i64 R):=hcS.cell 0
  have c1:wc.cell? ⟨w.heap.size,1,none⟩ = some (.int .i64 S):=hcS.cell 1
  have hn3:=eq3 e1 e2 e3 wc
  have hg3:=fun x y=>gd3 .neq x y #[.int .i64 e1,.int .i64 e2,.int .i64 e3] #[.int .i64 0,.int .i64 0,.int .i64 0] wc
  have HCS:=hd_ hcS;have HBW:=hd_ hbw
  clear hcS hbw hcB hcb0 hb0
  rcases h.out with ⟨hne,rfl⟩ | ⟨rfl,rfl,rfl,p,r,s,a,b,c,d,rfl,rfl,rfl,hp,hr,hs,hc,ha,hB,hd,ht3⟩
  · have ht:(e1 == 0 && e2 == 0 && e3 == 0) = false:=by simp;omega
    rw [ht] at hn3
    clear hne ht h
    go_wp2_with fail
    go_ret
    exact ⟨rfl,HBW.out⟩
  · have ht:((0:Int) == 0 && (0:Int) == 0 && (0:Int) == 0) = true:=by decide
    rw [ht] at hn3
    have Hp:=hd_ hp;have Hr:=hd_ hr;have Hs:=hd_ hs;have Hc:=hd_ hc;have Ha:=hd_ ha;have HBb:=hd_ hB;have Hd:=hd_ hd
    have hcl:Hid (c < cQ):=by show _ < _;rw [← hc];exact (z5s _ _).2
    have hbe:Hid (z4t b):=by show z4t b;rw [← hB];exact x1b hp c
    clear ht h hp hr hs hc ha hB hd
    go_wp2_with fail
    refine (x4h s a Hs Ha _).mono ?_
    rintro e w1 ⟨rfl,hb⟩
    have hb1:=hd_ (z0a HBW.out hb)
    have d0:w1.cell? ⟨w.heap.size,0,none⟩ = some (.int .i64 r):=z1a hb c0
    have d1:w1.cell? ⟨w.heap.size,1,none⟩ = some (.int .i64 s):=z1a hb c1
    have hcs1:=hd_ (HCS.out.ext hb)
    clear hb
    go_wp2_with fail
    have hbx:=hb1.out.alloc hb1.out.size (.cells #[.int .i64 r,.int .i64 p] 3)
    refine (y8p k6c _ l _ 2 2 [(r:Int),(p:Int)] _ (by decide) Hl.out (HB.out.ext hbx) (HL.out.ext hbx) rfl (by decide) (k2v _ _ _ _)).mono ?_
    rw [show z2p k6c.data.toList ([(r:Int),(p:Int)].flatMap b8 ++ l) = c from Hc.out]
    rintro e w2 ⟨rfl,hb⟩
    have hb2:=hd_ (z0a hbx hb)
    have hcs2:=hd_ (CB.ext (hcs1.out.alloc (.cells #[.int .i64 r,.int .i64 p] 3)) hb)
    clear hb hbx hcs1 d0 d1
    go_wp2_with fail
    refine (j4u p c b Hp hcl HBb _).mono ?_
    rintro e w3 ⟨rfl,hb⟩
    have hb3:=hd_ (z0a hb2.out hb)
    have d0:w3.cell? ⟨w.heap.size,0,none⟩ = some (.int .i64 r):=(hcs2.out.ext hb).cell 0
    clear hb hcs2
    go_wp2_with fail
    refine (k2n r b d Hr hbe Hd _).mono ?_
    rintro e w4 ⟨rfl,hb⟩
    have hb4:=hd_ (z0a hb3.out hb)
    clear hb
    go_wp2_with fail
    go_ret
    exact ⟨rfl,hb4.out⟩
def k7p (x r e:Int):Prop:=(∃ n p:Nat,x = (n:Int)∧ZPr (n:Int)∧pw 4 n = p∧r = (p:Int)∧e = 0)∨(¬ ZPr x∧r = 0∧e = 40)
theorem j7i (x:Int):∃ r e,k7p x r e:=by
 by_cases h:ZPr x
 · obtain ⟨n,rfl,_⟩:=j5u h
   exact ⟨_,_,.inl ⟨n,_,rfl,h,rfl,rfl,rfl⟩⟩
 · exact ⟨_,_,.inr ⟨h,rfl,rfl⟩⟩
theorem y0l (x r e:Int) (h:Hid (k7p x r e)) (w:World):Calls Tryz.prog 25 #[.int .i64 x] w fun q w'=>q = .returned (.tuple #[.int .i64 r,.int .i64 e])∧Below w.heap.size w w':=by
 rcases h.out with ⟨n,p,rfl,h1,h2,rfl,rfl⟩ | ⟨h1,rfl,rfl⟩
 · exact j3i n p h1 h2 w
 · refine (x6u x h1 w).mono ?_
   rintro q w' ⟨rfl,rfl⟩
   exact ⟨rfl,Below.refl _ _⟩
def x2v (x:Int) (l:List UInt8) (R S e:Int):Prop :=
 (∃ n k r c p m s:Nat,x = (n:Int)∧ZPr (n:Int)∧x6n n l = k∧pw 4 k = r∧pw 4 n = p∧y2q r p l = c∧c * n % cQ = m∧(k + m) % cQ = s∧R = (r:Int)∧S = (s:Int)∧e = 0)∨(¬ ZPr x∧R = 0∧S = 0∧e = 40)
theorem x8h (x:Int) (l:List UInt8):∃ R S e,x2v x l R S e:=by
 by_cases h:ZPr x
 · obtain ⟨n,rfl,_⟩:=j5u h
   exact ⟨_,_,_,.inl ⟨n,_,_,_,_,_,_,rfl,h,rfl,rfl,rfl,rfl,rfl,rfl,rfl,rfl,rfl⟩⟩
 · exact ⟨_,_,_,.inr ⟨h,rfl,rfl,rfl⟩⟩
theorem x8n (x R S e:Int) (v:Value) (l:List UInt8) (w:World) (h:Hid (x2v x l R S e)) (hl:l.length ≤ 50000) (hb:z9c w.heap.size w l v) (hL:Laid w) :
 Calls Tryz.prog 67 #[.int .i64 x,v] w fun q w'=>q = .returned (.tuple #[.agg #[.int .i64 R,.int .i64 S],.int .i64 e])∧Below w.heap.size w w':=by
 rcases h.out with ⟨n,k,r,c,p,m,s,rfl,h1,h2,h3,h4,h5,h6,h7,rfl,rfl,rfl⟩ | ⟨h1,rfl,rfl,rfl⟩
 · exact k7c n v l w k r c p m s h1 hl hb hL h2 h3 h4 h5 h6 h7
 · obtain ⟨oa,cap,rfl⟩:=hb.shape
   exact j1q x oa _ cap w h1
theorem x0a (x R S e:Int) (v:Value) (l:List UInt8) (w:World) (h:Hid (x2v x l R S e)) (hl:l.length ≤ 50000) (hb:z9c w.heap.size w l v) :
 Calls Tryz.prog 69 #[.int .i64 x,v] w fun q w'=>q = .returned (.tuple #[.agg #[.int .i64 R,.int .i64 S],.int .i64 e])∧Below w.heap.size w w':=by
 rcases h.out with ⟨n,k,r,c,p,m,s,rfl,h1,h2,h3,h4,h5,h6,h7,rfl,rfl,rfl⟩ | ⟨h1,rfl,rfl,rfl⟩
 · exact j3q n v l w k r c p m s h1 hl hb h2 h3 h4 h5 h6 h7
 · obtain ⟨oa,cap,rfl⟩:=hb.shape
   exact j5i x oa _ cap w h1
theorem j7u (a:Int):∃ x,ElE a x:=by
 by_cases h:ZEl a
 · exact ⟨0,.inl ⟨h,rfl⟩⟩
 · exact ⟨30,.inr ⟨h,rfl⟩⟩
theorem k7n (a:Int):∃ x,ScE a x:=by
 by_cases h:ZSc a
 · exact ⟨0,.inl ⟨h,rfl⟩⟩
 · exact ⟨1,.inr ⟨h,rfl⟩⟩
theorem ElE.z {a x:Int} (h:ElE a x) (hx:x = 0):ZEl a:=by
 rcases h with ⟨h,_⟩ | ⟨_,h⟩
 · exact h
 · omega
theorem ScE.z {a x:Int} (h:ScE a x) (hx:x = 0):ZSc a:=by
 rcases h with ⟨h,_⟩ | ⟨_,h⟩
 · exact h
 · omega
theorem k2d (P R S:Int) (l:List UInt8):∃ e1 e2 e3 t,ElE P e1∧ElE R e2∧ScE S e3∧z6l P R S e1 e2 e3 l t:=by
 obtain ⟨e1,h1⟩:=j7u P
 obtain ⟨e2,h2⟩:=j7u R
 obtain ⟨e3,h3⟩:=k7n S
 by_cases h:e1 = 0∧e2 = 0∧e3 = 0
 · obtain ⟨rfl,rfl,rfl⟩:=h
   obtain ⟨p,rfl,hp⟩:=j6i (h1.z rfl)
   obtain ⟨r,rfl,hr⟩:=j6i (h2.z rfl)
   obtain ⟨s,rfl,hs⟩:=k6n (h3.z rfl)
   exact ⟨0,0,0,_,h1,h2,h3,.inr ⟨rfl,rfl,rfl,p,r,s,_,_,_,_,rfl,rfl,rfl,hp,hr,hs,rfl,rfl,rfl,rfl,rfl⟩⟩
 · exact ⟨e1,e2,e3,false,h1,h2,h3,.inl ⟨h,rfl⟩⟩
theorem x9h (P R S e1 e2 e3:Int) (v:Value) (l:List UInt8) (t:Bool) (w:World) (hl:l.length ≤ 50000) (hb:z9c w.heap.size w l v) (h1:Hid (ElE P e1)) (h2:Hid (ElE R e2)) (h3:Hid (ScE S e3)) (h:Hid (z6l P R S e1 e2 e3 l t)) :
 Calls Tryz.prog 74 #[.int .i64 P,v,.agg #[.int .i64 R,.int .i64 S]] w fun e w'=>e = .returned (.bool t)∧Below w.heap.size w w':=by
 rcases h.out with ⟨hne,rfl⟩ | ⟨rfl,rfl,rfl,p,r,s,a,b,c,d,rfl,rfl,rfl,hp,hr,hs,hc,ha,hB,hd,ht3⟩
 · obtain ⟨oa,cap,rfl⟩:=hb.shape
   refine x7h P R S oa _ cap w fun ⟨q1,q2,q3⟩=>hne ⟨?_,?_,?_⟩
   · rcases h1.out with ⟨_,h⟩ | ⟨h,_⟩;exact h;exact absurd q1 h
   · rcases h2.out with ⟨_,h⟩ | ⟨h,_⟩;exact h;exact absurd q2 h
   · rcases h3.out with ⟨_,h⟩ | ⟨h,_⟩;exact h;exact absurd q3 h
 · exact x0v p r s v l a b c d t w hp hr hs hl hb hc ha hB hd ht3
end Go.Proofs.YtdblnbnofjggnaaGreatDoor
