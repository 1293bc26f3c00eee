/- chapter 49's law: InputsCodeSpec (printed by gen49ao.py). -/
import Derived.Test.YtdblnbnofjggnaaGreatDoorP48
import Derived.Test.YtdblnbnofjggnaaGreatDoorP50
set_option maxHeartbeats 16000000
set_option maxRecDepth 100000
open Go.Lib renaming hid → hd_
set_option linter.all false
namespace Go.Proofs.YtdblnbnofjggnaaGreatDoor
open Go.Proofs.Tryz
open Go.RowKit
section
variable {x:Inp} {s:Slc} {W:World}
theorem k3w (hx:InpR W x s) (hi:InpI x) (hf:FewI x) {n:Int} {L:List UInt8} (hn:(if okI x then (0:Int) else 490)=n) (hL:(if okI x then z4o x else [])=L):Calls prog 20 #[.agg (x.cells s).toArray] W fun e W'=>∃ ou cu,e=.returned (.tuple #[.slice ou L.length cu,.int .i64 n])∧z6c W'.heap.size W' L (.slice ou L.length cu)∧Below W.heap.size W W' :=
 (z9q x s W hx hi (InpL.of hf.sz) hf.sz).mono fun e W' h=>by
  obtain ⟨u,h1,h2,h3⟩:=h
  rw [hn] at h1;rw [hL] at h2
  obtain ⟨ou,cu,rfl⟩:=h2.shape
  exact ⟨ou,cu,h1,h2,h3⟩
theorem k4w {l:List UInt8} {y:Inp} {n:Int} (hl:l.length≤4000) (hd:z8q z2r l=(y,n)) (v:Value) (W:World) (hb:z6c W.heap.size W l v):Calls prog 22 #[v] W fun e W'=>∃ sl,e=.returned (.tuple #[.agg (y.cells sl).toArray,.int .i64 n])∧InpR W' y sl∧Below W.heap.size W W' :=
 (y5t l hl v W hb).mono fun e W' h=>by rw [hd] at h;exact h
end
theorem x6l (x:Inp) (s:Slc) (l:List UInt8) (oa:Option Addr) (ca:Nat) (w:World) (hx:InpR w x s) (hi:InpI x) (hb:z6c w.heap.size w l (.slice oa l.length ca)) (hL:Laid w) :
 Calls prog 6 #[x.v s,.slice oa l.length ca] w (v6b w):=by
 have HI:Hid (CB (w.alloc (bI x s)) w.heap.size 41 (x.cells s)):=z3a w (bI x s) _ _ rfl
 have HB:=hd_ (z4b (w:=w) (bI x s));have RX:=hd_ (hx.ext (z4b (w:=w) (bI x s)));have Hi:=hd_ hi;have HL:=hd_ hL
 have HU:=hd_ (hb.ext (z4b (w:=w) (bI x s)));clear hb
 clear hx hi hL
 change Calls prog 6 #[.agg (x.cells s).toArray,.slice oa l.length ca] w _
 go_enter func6,ntmps6
 go_upto_region 1 with fail
 change Code.wp _ _ _ _ (w.alloc (bI x s))
 generalize w.alloc (bI x s)=w0 at *
 obtain ⟨bf,hf⟩:∃ b,j7k x=b:=⟨_,rfl⟩
 have Hf:=hd_ hf;clear hf
 cases bf
 case false =>
  have T0:=ti
  go_wp2_with (first
   | (have _g:=T0.out;go_at_call 11;refine (y0b _ (HL.out.ext HB.out)).mono ?_;(rintro e w1 ⟨rfl,hb⟩;have hh:=exs hb (an HI (an RX (an HU HB)) :);clear HI RX HU HB;obtain ⟨HI,RX,HU,HB⟩:=hh;clear hb;clear T0;have T1:=ti))
   | (have _g:=T1.out;refine lcs 41 (.tmp 2) rfl w.heap.size (x.cells s) rfl HI.out underlying41 ?_;clear T1;have T2:=ti)
   | (have _g:=T2.out;go_at_call 12;refine (k1j RX.out Hi.out Hf.out).mono ?_;(rintro e w2 ⟨rfl,hb⟩;have hh:=exs hb (an HI (an RX (an HU HB)) :);clear HI RX HU HB;obtain ⟨HI,RX,HU,HB⟩:=hh;clear hb;clear T2;have T3:=ti)))
  go_ret
  exact ⟨rfl,HB.out⟩
 case true =>
 by_cases h3:3000<l.length
 case pos =>
  have y1:decide ((3000:Int)<(l.length:Int))=true:=decide_eq_true (by omega)
  clear h3
  have T0:=ti
  go_wp2_with (first
   | (have _g:=T0.out;go_at_call 11;refine (y0b _ (HL.out.ext HB.out)).mono ?_;(rintro e w1 ⟨rfl,hb⟩;have hh:=exs hb (an HI (an RX (an HU HB)) :);clear HI RX HU HB;obtain ⟨HI,RX,HU,HB⟩:=hh;clear hb;clear T0;have T1:=ti))
   | (have _g:=T1.out;refine lcs 41 (.tmp 2) rfl w.heap.size (x.cells s) rfl HI.out underlying41 ?_;clear T1;have T2:=ti)
   | (have _g:=T2.out;go_at_call 12;refine (k1j RX.out Hi.out Hf.out).mono ?_;(rintro e w2 ⟨rfl,hb⟩;have hh:=exs hb (an HI (an RX (an HU HB)) :);clear HI RX HU HB;obtain ⟨HI,RX,HU,HB⟩:=hh;clear hb;clear T2;have T3:=ti)))
  go_ret
  exact ⟨rfl,HB.out⟩
 case neg =>
  have y1:decide ((3000:Int)<(l.length:Int))=false:=decide_eq_false (by omega)
  have H3:Hid (l.length≤4000):=hd_ (by omega)
  have HF:=hd_ (k7u Hf.out)
  clear h3
  have T0:=ti
  obtain ⟨n,hn⟩:∃ n,(if okI x then (0:Int) else 490)=n:=⟨_,rfl⟩
  obtain ⟨L,hL⟩:∃ L,(if okI x then z4o x else [])=L:=⟨_,rfl⟩
  obtain ⟨y,m,hd⟩:∃ y m,z8q z2r l=(y,m):=⟨_,_,rfl⟩
  have Hn:=hd_ hn;have nk:=hd_ hL;have Hd:=hd_ hd;clear hn hL hd
  go_upto_region 5 with (first
   | (have _g:=T0.out;go_at_call 11;refine (y0b _ (HL.out.ext HB.out)).mono ?_;(rintro e w1 ⟨rfl,hb⟩;have hh:=exs hb (an HI (an RX (an HU HB)) :);clear HI RX HU HB;obtain ⟨HI,RX,HU,HB⟩:=hh;clear hb;clear T0;have T1:=ti))
   | (have _g:=T1.out;refine lcs 41 (.tmp 2) rfl w.heap.size (x.cells s) rfl HI.out underlying41 ?_;clear T1;have T2:=ti)
   | (have _g:=T2.out;go_at_call 12;refine (k1j RX.out Hi.out Hf.out).mono ?_;(rintro e w2 ⟨rfl,hb⟩;have hh:=exs hb (an HI (an RX (an HU HB)) :);clear HI RX HU HB;obtain ⟨HI,RX,HU,HB⟩:=hh;clear hb;clear T2;have T3:=ti)))
  go_upto_region 6 with (first
   | (have _g:=T3.out;refine lcs 41 (.tmp 2) rfl w.heap.size (x.cells s) rfl HI.out underlying41 ?_;clear T3;have T4:=ti)
   | (have _g:=T4.out;go_at_call 14;refine (v7b RX.out Hi.out HF.out Hn.out nk.out).mono ?_;(rintro e w3 ⟨ou,cu,rfl,hu,hb⟩;have hh:=exs hb (an HI (an RX (an HU HB)) :);clear HI RX HU HB;obtain ⟨HI,RX,HU,HB⟩:=hh;have U1:=hd_ hu;clear hu;clear hb;clear T4;have T5:=ti)))
  go_upto_region 7 with (first
   | (have _g:=T5.out;refine lcs 41 (.tmp 2) rfl w.heap.size (x.cells s) rfl HI.out underlying41 ?_;clear T5;have T6:=ti)
   | (have _g:=T6.out;go_at_call 20;refine (k3w RX.out Hi.out HF.out Hn.out nk.out).mono ?_;(rintro e w4 ⟨ov,cv,rfl,hu,hb⟩;have hh:=exs hb (an HI (an RX (an HU (an U1 HB))) :);clear HI RX HU U1 HB;obtain ⟨HI,RX,HU,U1,HB⟩:=hh;have U2:=hd_ hu;clear hu;clear hb;clear T6;have T7:=ti)))
  go_upto_region 8 with (first
   | (have _g:=T7.out;go_at_call 21;refine (v8b H3.out Hd.out _ _ HU.out).mono ?_;(rintro e w5 ⟨sy,rfl,hI,hb⟩;have hh:=exs hb (an HI (an RX (an HU (an U1 (an U2 HB)))) :);clear HI RX HU U1 U2 HB;obtain ⟨HI,RX,HU,U1,U2,HB⟩:=hh;have R1:=hd_ hI;clear hI;have HZ:Hid (CB (w5.alloc ZI) w5.heap.size 41 ZIc):=hd_ (z3a w5 ZI _ _ rfl);clear hb;clear T7;have T8:=ti))
   | (have _g:=T8.out;have _h:=HZ.out;refine scs 41 (.tmp 9) (.tmp 36) rfl w5.heap.size (y.cells sy) rfl rfl HZ.out (z0j R1.out) (fun w6 HC HG fI=>?_);have hbs:Below w5.heap.size w5 w6:=(z4b (w:=w5) ZI).grown HG.out (z4b (w:=w5) ZI).size (fun q e=>by injection e with e;omega);have hh:=exs hbs (an HI (an RX (an HU (an U1 (an U2 (an R1 HB))))) :);clear HI RX HU U1 U2 R1 HB;obtain ⟨HI,RX,HU,U1,U2,R1,HB⟩:=hh;have B1:=HC;clear hbs HC HG fI HZ _h;clear T8;have T9:=ti))
  go_upto_region 9 with (first
   | (have _g:=T9.out;go_at_call 22;refine (k4w H3.out Hd.out _ _ HU.out).mono ?_;(rintro e w7 ⟨sz,rfl,hI,hb⟩;have hh:=exs hb (an HI (an RX (an HU (an U1 (an U2 (an R1 (an B1 HB)))))) :);clear HI RX HU U1 U2 R1 B1 HB;obtain ⟨HI,RX,HU,U1,U2,R1,B1,HB⟩:=hh;have R2:=hd_ hI;clear hI;have HZ:Hid (CB (w7.alloc ZI) w7.heap.size 41 ZIc):=hd_ (z3a w7 ZI _ _ rfl);clear hb;clear T9;have T10:=ti))
   | (have _g:=T10.out;have _h:=HZ.out;refine scs 41 (.tmp 11) (.tmp 41) rfl w7.heap.size (y.cells sz) rfl rfl HZ.out (z0j R2.out) (fun w8 HC HG fI=>?_);have hbs:Below w7.heap.size w7 w8:=(z4b (w:=w7) ZI).grown HG.out (z4b (w:=w7) ZI).size (fun q e=>by injection e with e;omega);have hh:=exs hbs (an HI (an RX (an HU (an U1 (an U2 (an R1 (an B1 (an R2 HB))))))) :);clear HI RX HU U1 U2 R1 B1 R2 HB;obtain ⟨HI,RX,HU,U1,U2,R1,B1,R2,HB⟩:=hh;have B2:=HC;clear hbs HC HG fI HZ _h;clear T10;have T11:=ti))
  have k1:=z4p U1.out;have k2:=z4p U2.out
  go_wp2_with (first
   | (have _g:=T11.out;refine lcs 41 (.tmp 9) rfl w5.heap.size (y.cells sy) rfl B1.out underlying41 ?_;clear T11;have T12:=ti)
   | (have _g:=T12.out;refine lcs 41 (.tmp 11) rfl w7.heap.size (y.cells sz) rfl B2.out underlying41 ?_;clear T12;have T13:=ti)
   | (have _g:=T13.out;go_at_call 18;refine (x5l R1.out R2.out true (decide_eq_true rfl)).mono ?_;(rintro e w9 ⟨rfl,hb⟩;have hh:=exs hb (an HI (an RX (an HU (an U1 (an U2 (an R1 (an B1 (an R2 (an B2 HB)))))))) :);clear HI RX HU U1 U2 R1 B1 R2 B2 HB;obtain ⟨HI,RX,HU,U1,U2,R1,B1,R2,B2,HB⟩:=hh;clear hb;clear T13;have T14:=ti)))
  go_ret
  exact ⟨rfl,HB.out⟩
end Go.Proofs.YtdblnbnofjggnaaGreatDoor
