/- Parts of the proofs of chapter 49's laws: Jfl Jft Jrf Jfo Jkn. -/
import Derived.Test.YtdblnbnofjggnaaGreatDoorM30
import Derived.Test.YtdblnbnofjggnaaGreatDoorM13
import Derived.Maps.OwnSet
import Derived.Maps.OwnOps
import Derived.Maps.Views
set_option maxHeartbeats 8000000
set_option maxRecDepth 100000
open Go
open Lib renaming hid → hd_
open List renaming getElem?_eq_getElem → gE
open List renaming getElem?_eq_some_iff → gS
open List renaming mem_of_getElem? → mG
namespace Go.Proofs.YtdblnbnofjggnaaGreatDoor
open Go.RowKit
def inB (n a b:Int):Bool:=decide (a ≤ n) && decide (n ≤ b)
theorem z1f (n a b:Int) (w:World):Calls Tryz.prog 34 #[.int .i64 n,.int .i64 a,.int .i64 b] w fun e w'=>e = .returned (.bool (inB n a b))∧w = w':=by
 have HR:Hid (inB n a b = (decide (a ≤ n) && decide (n ≤ b))):=rfl
 obtain ⟨c1,h1⟩:∃ c,decide (a ≤ n) = c:=⟨_,rfl⟩
 obtain ⟨c2,h2⟩:∃ c,decide (n ≤ b) = c:=⟨_,rfl⟩
 have HR:Hid (inB n a b = (c1 && c2)):=by have:=HR.out;rw [h1,h2] at this;exact this
 go_enter Tryz.func34,Tryz.ntmps34
 cases c1
 · go_wp2
   go_ret
   exact ⟨by rw [HR.out];rfl,rfl⟩
 · cases c2
   · go_wp2
     go_ret
     exact ⟨by rw [HR.out];rfl,rfl⟩
   · go_wp2
     go_ret
     exact ⟨by rw [HR.out];rfl,rfl⟩
theorem z9d (n a b:Int) (w:World):Calls Tryz.prog 44 #[.int .i64 n,.int .i64 a,.int .i64 b] w fun e w'=>e = .returned (.bool (inB n a b))∧w = w':=by
 have HR:Hid (inB n a b = (decide (a ≤ n) && decide (n ≤ b))):=rfl
 obtain ⟨c1,h1⟩:∃ c,decide (a ≤ n) = c:=⟨_,rfl⟩
 obtain ⟨c2,h2⟩:∃ c,decide (n ≤ b) = c:=⟨_,rfl⟩
 have HR:Hid (inB n a b = (c1 && c2)):=by have:=HR.out;rw [h1,h2] at this;exact this
 go_enter Tryz.func44,Tryz.ntmps44
 cases c1
 · go_wp2
   go_ret
   exact ⟨by rw [HR.out];rfl,rfl⟩
 · cases c2
   · go_wp2
     go_ret
     exact ⟨by rw [HR.out];rfl,rfl⟩
   · go_wp2
     go_ret
     exact ⟨by rw [HR.out];rfl,rfl⟩
theorem y7n (n a b:Int) (w:World):Calls Tryz.prog 75 #[.int .i64 n,.int .i64 a,.int .i64 b] w fun e w'=>e = .returned (.bool (inB n a b))∧w = w':=by
 have HR:Hid (inB n a b = (decide (a ≤ n) && decide (n ≤ b))):=rfl
 obtain ⟨c1,h1⟩:∃ c,decide (a ≤ n) = c:=⟨_,rfl⟩
 obtain ⟨c2,h2⟩:∃ c,decide (n ≤ b) = c:=⟨_,rfl⟩
 have HR:Hid (inB n a b = (c1 && c2)):=by have:=HR.out;rw [h1,h2] at this;exact this
 go_enter Tryz.func75,Tryz.ntmps75
 cases c1
 · go_wp2
   go_ret
   exact ⟨by rw [HR.out];rfl,rfl⟩
 · cases c2
   · go_wp2
     go_ret
     exact ⟨by rw [HR.out];rfl,rfl⟩
   · go_wp2
     go_ret
     exact ⟨by rw [HR.out];rfl,rfl⟩
theorem j8b (l:List Int) (x:Int) (v:Value) (w:World) (hl:z9f nuK w.heap.size w l v) :
 Calls Tryz.prog 193 #[v,.int .i64 x] w fun e w'=>(∃ r:Int,e = .returned (.int .i64 r)∧decide (0 ≤ r) = l.any (fun y=>x == y))∧w = w':=by
 obtain ⟨oa,ca,rfl,la⟩:=hl.shape
 have HL:=hd_ hl
 obtain ⟨n,hn⟩:∃ n,l.length = n:=⟨_,rfl⟩
 rw [hn] at HL la ⊢
 have l1:(n:Int) ≤ 9223372036854775807:=by omega
 have HN:=hd_ hn
 clear hl hn la
 go_enter Tryz.func193,Tryz.ntmps193
 go_wp2_with fail
 go_loopw [8] (fun vi wr=>(∃ i:Nat,vi = .int .i64 (i:Int)∧i ≤ n∧∀ j y,j < i→l[j]? = some y→(fun y=>x == y) y = false)∧w = wr) (fun vi _=>n - z3e vi)
 case atStart=>exact ⟨⟨0,rfl,by omega,fun j y h=>by omega⟩,rfl⟩
 case round =>
  obtain ⟨⟨i,rfl,hi,hs⟩,rfl⟩:=hrel
  have HS:=hd_ hs
  clear hs
  by_cases hlt:i < n
  case neg =>
   obtain rfl:i = n:=by omega
   have tj:decide ((i:Int) < (i:Int)) = false:=by simp
   have HE:Hid (l.any (fun y=>x == y) = false):=by
    show _ = _
    rw [List.any_eq_false]
    intro y hy
    obtain ⟨j,hj⟩:=List.mem_iff_getElem?.1 hy
    have hj':=HS.out j y (by have:=(gS.1 hj).1;have:=HN.out;omega) hj
    simpa using hj'
   go_wp2_with fail
   go_ret
   exact ⟨⟨-1,rfl,by rw [HE.out];rfl⟩,rfl⟩
  case pos =>
  have tj:decide ((i:Int) < (n:Int)) = true:=by simp;omega
  have tj':decide (i < n) = true:=by simp;omega
  have kb:(i:Int) < (n:Int):=by omega
  obtain ⟨y,hy⟩:∃ y,l[i]? = some y:=⟨_,gE (by rw [HN.out];exact hlt)⟩
  obtain ⟨ab,ao,rfl⟩:=z7e HL.out (k:=i) (by rw [HN.out];exact hlt)
  have c1:=z3l HL.out hy
  have Hlt:=hd_ hlt;have Hy:=hd_ hy
  obtain ⟨b,hb⟩:∃ b,(fun y=>x == y) y = b:=⟨_,rfl⟩
  have HBb:=hd_ hb
  clear hlt hy hi
  have hb:(x == y) = b:=HBb.out
  cases b
  · go_wp2_with fail
    go_roundw
    case rel=>exact ⟨⟨i + 1,by go_num,Hlt.out,fun j z hj hz=>by
     rcases Nat.lt_succ_iff_lt_or_eq.1 hj with h | h
     · exact HS.out j z h hz
     · subst h
       have:=Hy.out.symm.trans hz
       injection this with this
       rw [← this];exact HBb.out⟩,by first | rfl | trivial⟩
    case measure=>simp [z3e];have:=Hlt.out;omega
  · go_wp2_with fail
    go_ret
    exact ⟨⟨(i:Int),rfl,by
     have:l.any (fun y=>x == y) = true:=List.any_eq_true.2 ⟨y,mG Hy.out,HBb.out⟩
     rw [this];simp⟩,rfl⟩
theorem y1w (l:List Int) (x:Int) (v:Value) (w:World) (hl:z9f nuK w.heap.size w l v) :
 Calls Tryz.prog 153 #[v,.int .i64 x] w fun e w'=>e = .returned (.bool (l.any fun y=>x == y))∧w = w':=by
 have HC:=hd_ (j8b l x v w hl)
 obtain ⟨oa,ca,rfl,-⟩:=hl.shape
 clear hl
 go_enter Tryz.func153,Tryz.ntmps153
 go_wp2_with (go_at_call 193;refine HC.out.mono ?_;rintro e w' ⟨⟨r,rfl,hr⟩,rfl⟩)
 go_ret
 exact ⟨by rw [← hr];rfl,rfl⟩
theorem x5e (n:Int) (w:World):Calls Tryz.prog 155 #[.int .i64 n] w fun e w'=>e = .returned (.bool (!inB n 0 15))∧w = w':=by
 go_enter Tryz.func155,Tryz.ntmps155
 go_wp2_with (go_at_call 34;refine (z1f _ _ _ _).mono ?_;rintro e w' ⟨rfl,rfl⟩)
 go_ret
 exact ⟨by rfl,rfl⟩
theorem x6q (l:List Int) (v:Value) (w:World) (hl:z9f nuK w.heap.size w l v) :
 Calls Tryz.prog 194 #[v,.func (.func 155) #[] #[]] w fun e w'=>(∃ r:Int,e = .returned (.int .i64 r)∧decide (0 ≤ r) = l.any (fun y=>!inB y 0 15))∧w = w':=by
 obtain ⟨oa,ca,rfl,la⟩:=hl.shape
 have HL:=hd_ hl
 obtain ⟨n,hn⟩:∃ n,l.length = n:=⟨_,rfl⟩
 rw [hn] at HL la ⊢
 have l1:(n:Int) ≤ 9223372036854775807:=by omega
 have HN:=hd_ hn
 clear hl hn la
 go_enter Tryz.func194,Tryz.ntmps194
 go_wp2_with fail
 go_loopw [8] (fun vi wr=>(∃ i:Nat,vi = .int .i64 (i:Int)∧i ≤ n∧∀ j y,j < i→l[j]? = some y→(fun y=>!inB y 0 15) y = false)∧w = wr) (fun vi _=>n - z3e vi)
 case atStart=>exact ⟨⟨0,rfl,by omega,fun j y h=>by omega⟩,rfl⟩
 case round =>
  obtain ⟨⟨i,rfl,hi,hs⟩,rfl⟩:=hrel
  have HS:=hd_ hs
  clear hs
  by_cases hlt:i < n
  case neg =>
   obtain rfl:i = n:=by omega
   have tj:decide ((i:Int) < (i:Int)) = false:=by simp
   have HE:Hid (l.any (fun y=>!inB y 0 15) = false):=by
    show _ = _
    rw [List.any_eq_false]
    intro y hy
    obtain ⟨j,hj⟩:=List.mem_iff_getElem?.1 hy
    have hj':=HS.out j y (by have:=(gS.1 hj).1;have:=HN.out;omega) hj
    simpa using hj'
   go_wp2_with fail
   go_ret
   exact ⟨⟨-1,rfl,by rw [HE.out];rfl⟩,rfl⟩
  case pos =>
  have tj:decide ((i:Int) < (n:Int)) = true:=by simp;omega
  have tj':decide (i < n) = true:=by simp;omega
  have kb:(i:Int) < (n:Int):=by omega
  obtain ⟨y,hy⟩:∃ y,l[i]? = some y:=⟨_,gE (by rw [HN.out];exact hlt)⟩
  obtain ⟨ab,ao,rfl⟩:=z7e HL.out (k:=i) (by rw [HN.out];exact hlt)
  have c1:=z3l HL.out hy
  have Hlt:=hd_ hlt;have Hy:=hd_ hy
  obtain ⟨b,hb⟩:∃ b,(fun y=>!inB y 0 15) y = b:=⟨_,rfl⟩
  have HBb:=hd_ hb
  clear hlt hy hi
  have HCa:=hd_ (x5e y w)
  have hb2:(!inB y 0 15) = b:=HBb.out
  rw [hb2] at HCa
  clear hb hb2
  cases b
  · go_wp2_with (go_at_call 155;refine HCa.out.mono ?_;rintro e w' ⟨rfl,rfl⟩)
    go_roundw
    case rel=>exact ⟨⟨i + 1,by go_num,Hlt.out,fun j z hj hz=>by
     rcases Nat.lt_succ_iff_lt_or_eq.1 hj with h | h
     · exact HS.out j z h hz
     · subst h
       have:=Hy.out.symm.trans hz
       injection this with this
       rw [← this];exact HBb.out⟩,by first | rfl | trivial⟩
    case measure=>simp [z3e];have:=Hlt.out;omega
  · go_wp2_with (go_at_call 155;refine HCa.out.mono ?_;rintro e w' ⟨rfl,rfl⟩)
    go_ret
    exact ⟨⟨(i:Int),rfl,by
     have:l.any (fun y=>!inB y 0 15) = true:=List.any_eq_true.2 ⟨y,mG Hy.out,HBb.out⟩
     rw [this];simp⟩,rfl⟩
theorem y8n (l:List Int) (v:Value) (w:World) (hl:z9f nuK w.heap.size w l v) :
 Calls Tryz.prog 154 #[v,.func (.func 155) #[] #[]] w fun e w'=>e = .returned (.bool (l.any fun y=>!inB y 0 15))∧w = w':=by
 have HC:=hd_ (x6q l v w hl)
 obtain ⟨oa,ca,rfl,-⟩:=hl.shape
 clear hl
 go_enter Tryz.func154,Tryz.ntmps154
 go_wp2_with (go_at_call 194;refine HC.out.mono ?_;rintro e w' ⟨⟨r,rfl,hr⟩,rfl⟩)
 go_ret
 exact ⟨by rw [← hr];rfl,rfl⟩
def x0m (c:Chg):Bool:=inB c.frm 0 1439 && inB c.cfg 0 31 && decide (c.modes.length ≤ 16) && !(c.modes.any fun y=>!inB y 0 15)
theorem x7q (c:Chg) (v:Value) (w:World) (hl:z9f nuK w.heap.size w c.modes v):Calls Tryz.prog 93 #[.agg (c.cells v).toArray] w fun e w'=>e = .returned (.bool (x0m c))∧Below w.heap.size w w':=by
 have hb0:=z5b (w:=w) (.cells (c.cells v).toArray 31)
 have hc:=z6a w (.cells (c.cells v).toArray 31) 31 (c.cells v) rfl
 have HB:=hd_ hb0
 have HC:=hd_ (y8n c.modes v _ (hl.ext hb0))
 have H1:=hd_ (fun W=>z1f c.frm 0 1439 W);have H2:=hd_ (fun W=>z1f c.cfg 0 31 W)
 obtain ⟨b1,h1⟩:∃ b,inB c.frm 0 1439 = b:=⟨_,rfl⟩
 obtain ⟨b2,h2⟩:∃ b,inB c.cfg 0 31 = b:=⟨_,rfl⟩
 obtain ⟨b3,h3⟩:∃ b,decide (c.modes.length ≤ 16) = b:=⟨_,rfl⟩
 obtain ⟨b4,h4⟩:∃ b,(c.modes.any fun y=>!inB y 0 15) = b:=⟨_,rfl⟩
 have HR:Hid (x0m c = (b1 && b2 && b3 && !b4)):=by show _ = _;unfold x0m;rw [h1,h2,h3,h4]
 rw [h1] at H1;rw [h2] at H2;rw [h4] at HC
 obtain ⟨oa,ca,rfl,la⟩:=hl.shape
 have c0:_ = some (Value.int .i64 c.frm):=hc.cell 0
 have c1:_ = some (Value.int .i64 c.cfg):=hc.cell 1
 have c2:_ = some (Value.slice oa c.modes.length ca):=hc.cell 2
 have u3:decide ((c.modes.length:Int) ≤ 16) = b3:=by rw [← h3];by_cases h:c.modes.length ≤ 16 <;> simp [h] <;> omega
 clear hb0 hc hl h1 h2 h3 h4 la
 generalize c.modes.length = n at *
 go_enter Tryz.func93,Tryz.ntmps93
 go_upto_region 1 with fail
 change Code.wp _ _ _ _ (w.alloc (.cells (c.cells (.slice oa n ca)).toArray 31))
 generalize w.alloc (.cells (c.cells (.slice oa n ca)).toArray 31) = w0 at *
 go_wp2_with (first
  | (go_at_call 34;refine (H1.out w0).mono ?_;go_loud (rintro e w' ⟨rfl,rfl⟩;clear H1))
  | (go_at_call 34;refine (H2.out w0).mono ?_;go_loud (rintro e w' ⟨rfl,rfl⟩;clear H2))
  | (go_at_call 154;refine HC.out.mono ?_;go_loud (rintro e w' ⟨rfl,rfl⟩)))
 · (try clear u3);(try simp only [Bool.not_eq_true] at *);subst_vars;go_ret;exact ⟨by first | (rw [HR.out];rfl) | rfl,HB.out⟩
 all_goals (try clear u3;try simp only [Bool.not_eq_true] at *;subst_vars;go_ret;exact ⟨by first | (rw [HR.out];rfl) | rfl,HB.out⟩)
def j5y (l:List Int) (j:Nat):Bool:=inB (l.getD j 0) 0 63 && !((l.take j).any fun y=>l.getD j 0 == y)
def z5q (l:List Int) (i:Nat):Bool:=(List.range i).all (j5y l)
theorem y6j (l:List Int) (i:Nat):z5q l (i + 1) = (z5q l i && j5y l i):=by
 unfold z5q;rw [List.range_succ,List.all_append];simp
def x8q (f:Flt):Bool:=inB f.id 0 4095 && inB f.air 0 7 && inB f.cls 0 7 && z7o f.call.data.toList && inB (f.ways.length:Int) 1 4
def k2p (f:Flt):Bool:=decide (0 ≤ f.wf) && decide (f.wf < f.wt) && decide (f.wt ≤ 1440) && decide (f.wt - f.wf ≤ 16)
def y2w (f:Flt):Bool:=x8q f && z5q f.ways f.ways.length && k2p f
theorem k6i {α:Type} {K:EK α} {B b off cap:Nat} {w:World} {l:List α} (h:z9f K B w l (.slice (some ⟨b,off,none⟩) l.length cap)) (n:Nat) (h0:l ≠ []) (hn:n ≤ l.length):z9f K B w (l.take n) (.slice (some ⟨b,off,none⟩) n cap):=by
 rcases h with ⟨h,_⟩ | ⟨b',off',cap',h1,h2,h3,h4,h5⟩
 · exact absurd h h0
 · injection h1 with h1 _ h6
   injection h1 with h1
   injection h1 with h7 h8
   subst h6 h7 h8
   refine .inr ⟨b,off,cap,by rw [List.length_take,Nat.min_eq_left hn],by rw [List.length_take];omega,h3,h4,fun j a hj=>?_⟩
   rw [List.getElem?_take] at hj
   split at hj
   · exact h5 j a hj
   · cases hj
def k2s (f:Flt) (v:Value) (n:Nat) (w:World) (vo vi:Value) (wr:World):Prop:=∃ i:Nat,vi = .int .i64 (i:Int)∧vo = .bool (x8q f && z5q f.ways i)∧i ≤ n∧CB wr w.heap.size 28 (f.cells v)∧Below w.heap.size w wr
theorem x9q (f:Flt) (v:Value) (w:World) (hl:z9f nuK w.heap.size w f.ways v) (hs:f.call.size ≤ 9223372036854775807):Calls Tryz.prog 86 #[.agg (f.cells v).toArray] w fun e w'=>e = .returned (.bool (y2w f))∧Below w.heap.size w w':=by
 obtain ⟨oa,ca,rfl,la⟩:=hl.shape
 have HL:=hd_ hl
 obtain ⟨n,hn⟩:∃ n,f.ways.length = n:=⟨_,rfl⟩
 rw [hn] at HL la ⊢
 have l1:(n:Int) ≤ 9223372036854775807:=by omega
 have HN:=hd_ hn
 have hca:(n:Int) ≤ (ca:Int)∧n ≤ ca:=by
  obtain ⟨_,_,he,h2,_⟩:=HL.out.shape2
  injection he with _ e2 e3
  rw [e3,e2];exact ⟨by omega,h2⟩
 obtain ⟨hca,hca2⟩:=hca
 have hb0:=z5b (w:=w) (.cells (f.cells (.slice oa n ca)).toArray 28)
 have hc:=z6a w (.cells (f.cells (.slice oa n ca)).toArray 28) 28 (f.cells (.slice oa n ca)) rfl
 have HB:=hd_ hb0;have HC:=hd_ hc
 have H1:=hd_ (fun W=>z1f f.id 0 4095 W);have H2:=hd_ (fun W=>z1f f.air 0 7 W);have H3:=hd_ (fun W=>z1f f.cls 0 7 W);have H4:=hd_ (fun W=>x0k f.call hs W);have H5:=hd_ (fun W=>z1f (n:Int) 1 4 W)
 obtain ⟨b1,h1⟩:∃ b,inB f.id 0 4095 = b:=⟨_,rfl⟩
 obtain ⟨b2,h2⟩:∃ b,inB f.air 0 7 = b:=⟨_,rfl⟩
 obtain ⟨b3,h3⟩:∃ b,inB f.cls 0 7 = b:=⟨_,rfl⟩
 obtain ⟨b4,h4⟩:∃ b,z7o f.call.data.toList = b:=⟨_,rfl⟩
 obtain ⟨b5,h5⟩:∃ b,inB (n:Int) 1 4 = b:=⟨_,rfl⟩
 have HR:Hid (x8q f = (b1 && b2 && b3 && b4 && b5)):=by show _ = _;unfold x8q;rw [hn,h1,h2,h3,h4,h5]
 unfold z8o at H4
 rw [h1] at H1;rw [h2] at H2;rw [h3] at H3;rw [h4] at H4;rw [h5] at H5
 have c0:_ = some (Value.int .i64 f.id):=hc.cell 0
 have c1:_ = some (Value.int .i64 f.air):=hc.cell 1
 have c2:_ = some (Value.int .i64 f.cls):=hc.cell 2
 have c3:_ = some (Value.string f.call):=hc.cell 3
 have c4:_ = some (Value.slice oa n ca):=hc.cell 4
 clear hb0 hc hl h1 h2 h3 h4 h5 la hn hs
 go_enter Tryz.func86,Tryz.ntmps86
 go_upto_region 1 with fail
 change Code.wp _ _ _ _ (w.alloc (.cells (f.cells (.slice oa n ca)).toArray 28))
 generalize w.alloc (.cells (f.cells (.slice oa n ca)).toArray 28) = w0 at *
 go_cut [3] (fun v3 wx=>v3 = .bool (x8q f)∧wx = w0)
 case first =>
  go_wp2_with (first
   | (go_at_call 79;refine (H4.out w0).mono ?_;go_loud (rintro e w' ⟨rfl,rfl⟩))
   | (go_at_call 34;refine (H1.out w0).mono ?_;go_loud (rintro e w' ⟨rfl,rfl⟩;clear H1))
   | (go_at_call 34;refine (H2.out w0).mono ?_;go_loud (rintro e w' ⟨rfl,rfl⟩;clear H2))
   | (go_at_call 34;refine (H3.out w0).mono ?_;go_loud (rintro e w' ⟨rfl,rfl⟩;clear H3))
   | (go_at_call 34;refine (H5.out w0).mono ?_;go_loud (rintro e w' ⟨rfl,rfl⟩;clear H5)))
  · (try simp only [Bool.not_eq_true] at *);subst_vars;go_meet;case rel=>exact ⟨by first | (rw [HR.out];rfl) | rfl,rfl⟩
  all_goals (try simp only [Bool.not_eq_true] at *;subst_vars;go_meet;case rel=>exact ⟨by first | (rw [HR.out];rfl) | rfl,rfl⟩)
 case rest =>
 obtain ⟨rfl,rfl⟩:=hcut
 clear c0 c1 c2 c3 HR H1 H2 H3 H4 H5
 generalize wc = w0 at *
 have hA:(x8q f && z5q f.ways 0) = x8q f:=by unfold z5q;simp
 go_wp2_with fail
 clear c4
 go_loopw [3,33] (fun vo vi wr=>k2s f (.slice oa n ca) n w vo vi wr) (fun _ vi _=>n - z3e vi)
 case atStart=>exact ⟨0,rfl,by rw [hA],by omega,HC.out,HB.out⟩
 case round =>
  obtain ⟨i,rfl,rfl,hi,hc,hb⟩:=hrel
  have HCr:=hd_ hc;have HBr:=hd_ hb
  have c4:wr.cell? ⟨w.heap.size,4,none⟩ = some (.slice oa n ca):=hc.cell 4
  clear hc hb HC HB hA
  by_cases hlt:i < n
  case neg =>
   obtain rfl:i = n:=by omega
   have tj:decide ((i:Int) < (i:Int)) = false:=by simp
   have c5:wr.cell? ⟨w.heap.size,5,none⟩ = some (.int .i64 f.wf):=HCr.out.cell 5
   have c6:wr.cell? ⟨w.heap.size,6,none⟩ = some (.int .i64 f.wt):=HCr.out.cell 6
   obtain ⟨b0,h0⟩:∃ b,(x8q f && z5q f.ways i) = b:=⟨_,rfl⟩
   obtain ⟨b6,h6⟩:∃ b,decide (0 ≤ f.wf) = b:=⟨_,rfl⟩
   obtain ⟨b7,h7⟩:∃ b,decide (f.wf < f.wt) = b:=⟨_,rfl⟩
   obtain ⟨b8,h8⟩:∃ b,decide (f.wt ≤ 1440) = b:=⟨_,rfl⟩
   obtain ⟨b9,h9⟩:∃ b,decide (f.wt - f.wf ≤ 16) = b:=⟨_,rfl⟩
   have HR:Hid (y2w f = (b0 && (b6 && b7 && b8 && b9))):=by show _ = _;unfold y2w k2p;rw [HN.out,h0,h6,h7,h8,h9]
   rw [h0]
   by_cases hwin:0 ≤ f.wf∧f.wf < f.wt∧f.wt ≤ 1440
   case pos =>
    obtain ⟨w1,w2,w3⟩:=hwin
    obtain rfl:b6 = true:=by rw [← h6];exact decide_eq_true w1
    obtain rfl:b7 = true:=by rw [← h7];exact decide_eq_true w2
    obtain rfl:b8 = true:=by rw [← h8];exact decide_eq_true w3
    have hwr:IntKind.i64.wrap (f.wt - f.wf) = f.wt - f.wf:=IntWalk.i64_in _ (by omega)
    have hwr2:wrap64 (f.wt - f.wf) = f.wt - f.wf:=by first | (unfold wrap64;omega) | exact (IntKind.wrap_i64 _).symm.trans hwr
    clear h0 hlt hi
    go_wp2_with fail
    · (try clear h6 h7 h8 h9 hwr hwr2);(try simp only [Bool.not_eq_true] at *);subst_vars;go_ret;exact ⟨by first | (rw [HR.out];rfl) | rfl,HBr.out⟩
    all_goals (try clear h6 h7 h8 h9 hwr hwr2;try simp only [Bool.not_eq_true] at *;subst_vars;go_ret;exact ⟨by first | (rw [HR.out];rfl) | rfl,HBr.out⟩)
   case neg =>
    have hno:(b6 && b7 && b8) = false:=by
     rw [← h6,← h7,← h8]
     by_cases x1:0 ≤ f.wf
     · by_cases x2:f.wf < f.wt
       · have x3:¬ f.wt ≤ 1440:=fun h=>hwin ⟨x1,x2,h⟩
         simp [x3]
       · simp [x2]
     · simp [x1]
    have HFA:Hid (y2w f = false):=by show _ = _;rw [HR.out,hno];simp
    have HNO:=hd_ hno
    clear hno hwin h0 hlt hi HR h9
    go_wp2_with fail
    all_goals first
     | (go_ret;first | exact ⟨by rw [HFA.out];rfl,HBr.out⟩ | (exfalso;have h:=HNO.out;clear HFA;simp_all))
  case pos =>
  have tj:decide ((i:Int) < (n:Int)) = true:=by simp;omega
  have tj':decide (i < n) = true:=by simp;omega
  have kb:(i:Int) < (n:Int):=by omega
  obtain ⟨x,hx⟩:∃ x,f.ways[i]? = some x:=⟨_,gE (by rw [HN.out];exact hlt)⟩
  obtain ⟨ab,ao,rfl⟩:=z7e HL.out (k:=i) (by rw [HN.out];exact hlt)
  have c1:=z1a HBr.out (z3l HL.out hx)
  have hgd:f.ways.getD i 0 = x:=by rw [List.getD_eq_getElem?_getD,hx];rfl
  have htk:z9f nuK w.heap.size w (f.ways.take i) (.slice (some ⟨ab,ao,none⟩) i ca):=by
   by_cases h0:i = 0
   · subst h0;rw [List.take_zero];exact .inl ⟨rfl,_,_,rfl⟩
   · have hL:=HL.out
     rw [← HN.out] at hL
     exact k6i hL i (by intro e;rw [e] at hx;simp at hx) (by rw [HN.out];omega)
  have HC1:=hd_ (z1f x 0 63 wr);have HC2:=hd_ (y1w (f.ways.take i) x _ wr (htk.ext HBr.out))
  have hst:=y6j f.ways i
  obtain ⟨b1,h1⟩:∃ b,inB x 0 63 = b:=⟨_,rfl⟩
  obtain ⟨b2,h2⟩:∃ b,((f.ways.take i).any fun y=>x == y) = b:=⟨_,rfl⟩
  have hst2:(x8q f && z5q f.ways (i + 1)) = ((x8q f && z5q f.ways i) && (b1 && !b2)):=by
   rw [hst,show j5y f.ways i = (b1 && !b2) by unfold j5y;rw [hgd,h1,h2],Bool.and_assoc]
  rw [h1] at HC1;rw [h2] at HC2
  obtain ⟨b0,h0⟩:∃ b,(x8q f && z5q f.ways i) = b:=⟨_,rfl⟩
  rw [h0] at hst2 ⊢
  have HST:=hd_ hst2
  have n1:(i:Int) ≤ (ca:Int):=by omega
  have n2:i ≤ ca:=by omega
  have Hlt:=hd_ hlt
  clear hlt hx hgd htk hst hst2 h0 h1 h2 hi
  go_wp2_with (first
   | (go_at_call 34;refine HC1.out.mono ?_;go_loud (rintro e w' ⟨rfl,rfl⟩))
   | (go_at_call 153;refine HC2.out.mono ?_;go_loud (rintro e w' ⟨rfl,rfl⟩)))
  all_goals
   (go_roundw
    case rel=>exact ⟨i + 1,by go_num,by (have h:=HST.out;clear HC1 HC2 HST;simp_all),Hlt.out,HCr.out,HBr.out⟩
    case measure=>(simp [z3e];have:=Hlt.out;omega))
def k3s (l:List Int) (n:Nat) (w:World) (t:TypeId) (cs:List Value) (vi:Value) (wr:World):Prop:=∃ i:Nat,vi = .int .i64 (i:Int)∧i ≤ n∧(∀ j y,j < i→l[j]? = some y→inB y 0 15 = true)∧CB wr w.heap.size t cs∧Below w.heap.size w wr
theorem x6e (c:Chg) (v:Value) (w:World) (hl:z9f nuK w.heap.size w c.modes v):Calls Tryz.prog 108 #[.agg (c.cells v).toArray] w fun e w'=>e = .returned (.bool (x0m c))∧Below w.heap.size w w':=by
 obtain ⟨oa,ca,rfl,la⟩:=hl.shape
 have HL:=hd_ hl
 obtain ⟨n,hn⟩:∃ n,c.modes.length = n:=⟨_,rfl⟩
 rw [hn] at HL la ⊢
 have l1:(n:Int) ≤ 9223372036854775807:=by omega
 have HN:=hd_ hn
 have HB:=hd_ (z5b (w:=w) (.cells (c.cells (.slice oa n ca)).toArray 31))
 have hc:=z6a w (.cells (c.cells (.slice oa n ca)).toArray 31) 31 (c.cells (.slice oa n ca)) rfl
 have HC:=hd_ hc
 have H1:=hd_ (fun W=>z9d c.frm 0 1439 W);have H2:=hd_ (fun W=>z9d c.cfg 0 31 W)
 obtain ⟨b1,h1⟩:∃ b,inB c.frm 0 1439 = b:=⟨_,rfl⟩
 obtain ⟨b2,h2⟩:∃ b,inB c.cfg 0 31 = b:=⟨_,rfl⟩
 obtain ⟨b3,h3⟩:∃ b,decide (n ≤ 16) = b:=⟨_,rfl⟩
 have HR:Hid (x0m c = (b1 && b2 && b3 && !(c.modes.any fun y=>!inB y 0 15))):=by show _ = _;unfold x0m;rw [hn,h1,h2,h3]
 rw [h1] at H1;rw [h2] at H2
 have c0:_ = some (Value.int .i64 c.frm):=hc.cell 0
 have c1:_ = some (Value.int .i64 c.cfg):=hc.cell 1
 have c2:_ = some (Value.slice oa n ca):=hc.cell 2
 have u3:decide ((16:Int) < (n:Int)) = !b3:=by rw [← h3];by_cases h:n ≤ 16 <;> simp [h] <;> omega
 clear hc hl h1 h2 h3 la hn
 go_enter Tryz.func108,Tryz.ntmps108
 go_upto_region 1 with fail
 change Code.wp _ _ _ _ (w.alloc (.cells (c.cells (.slice oa n ca)).toArray 31))
 generalize w.alloc (.cells (c.cells (.slice oa n ca)).toArray 31) = w0 at *
 by_cases hall:(b1 && b2 && b3) = true
 case neg =>
  have hno:(b1 && b2 && b3) = false:=by simpa using hall
  have HNO:=hd_ hno
  have HFA:Hid (x0m c = false):=by show _ = _;rw [HR.out,hno];rfl
  clear hno hall HR
  go_wp2_with (first
   | (go_at_call 44;refine (H1.out w0).mono ?_;go_loud (rintro e w' ⟨rfl,rfl⟩;clear H1))
   | (go_at_call 44;refine (H2.out w0).mono ?_;go_loud (rintro e w' ⟨rfl,rfl⟩;clear H2)))
  all_goals first
   | (go_ret;exact ⟨by rw [HFA.out];rfl,HB.out⟩)
   | (exfalso;have h:=HNO.out;clear HFA;simp_all)
 case pos =>
 simp only [Bool.and_eq_true] at hall
 obtain ⟨⟨rfl,rfl⟩,rfl⟩:=hall
 have HR2:Hid (x0m c = !(c.modes.any fun y=>!inB y 0 15)):=by show _ = _;rw [HR.out];rfl
 clear HR
 go_wp2_with (first
  | (go_at_call 44;refine (H1.out w0).mono ?_;go_loud (rintro e w' ⟨rfl,rfl⟩;clear H1))
  | (go_at_call 44;refine (H2.out w0).mono ?_;go_loud (rintro e w' ⟨rfl,rfl⟩;clear H2)))
 clear c0 c1 c2 u3
 go_loopw [3] (fun vi wr=>k3s c.modes n w 31 (c.cells (.slice oa n ca)) vi wr) (fun vi _=>n - z3e vi)
 case atStart=>exact ⟨0,rfl,by omega,fun j y h=>by omega,HC.out,HB.out⟩
 case round =>
  obtain ⟨i,rfl,hi,hs,hc,hb⟩:=hrel
  have HS:=hd_ hs;have HCr:=hd_ hc;have HBr:=hd_ hb
  have c2:wr.cell? ⟨w.heap.size,2,none⟩ = some (.slice oa n ca):=hc.cell 2
  clear hs hc hb HC HB
  by_cases hlt:i < n
  case neg =>
   obtain rfl:i = n:=by omega
   have tj:decide ((i:Int) < (i:Int)) = false:=by simp
   have HE:Hid (x0m c = true):=by
    show _ = _
    rw [HR2.out]
    have:(c.modes.any fun y=>!inB y 0 15) = false:=by
     rw [List.any_eq_false]
     intro y hy
     obtain ⟨j,hj⟩:=List.mem_iff_getElem?.1 hy
     have hj':=HS.out j y (by have:=(gS.1 hj).1;have:=HN.out;omega) hj
     simpa using hj'
    rw [this];rfl
   go_wp2_with fail
   go_ret
   exact ⟨by rw [HE.out];rfl,HBr.out⟩
  case pos =>
  have tj:decide ((i:Int) < (n:Int)) = true:=by simp;omega
  have tj':decide (i < n) = true:=by simp;omega
  have kb:(i:Int) < (n:Int):=by omega
  obtain ⟨x,hx⟩:∃ x,c.modes[i]? = some x:=⟨_,gE (by rw [HN.out];exact hlt)⟩
  obtain ⟨ab,ao,rfl⟩:=z7e HL.out (k:=i) (by rw [HN.out];exact hlt)
  have c1:=z1a HBr.out (z3l HL.out hx)
  have HC1:=hd_ (z9d x 0 15 wr)
  obtain ⟨b,h⟩:∃ b,inB x 0 15 = b:=⟨_,rfl⟩
  rw [h] at HC1
  have Hlt:=hd_ hlt;have Hx:=hd_ hx;have Hb:=hd_ h
  clear hlt hx h hi
  cases b
  · go_wp2_with (go_at_call 44;refine HC1.out.mono ?_;go_loud (rintro e w' ⟨rfl,rfl⟩))
    go_ret
    exact ⟨by
     have:(c.modes.any fun y=>!inB y 0 15) = true:=List.any_eq_true.2 ⟨x,mG Hx.out,by rw [Hb.out];rfl⟩
     rw [HR2.out,this];rfl,HBr.out⟩
  · go_wp2_with (go_at_call 44;refine HC1.out.mono ?_;go_loud (rintro e w' ⟨rfl,rfl⟩))
    go_roundw
    case rel=>exact ⟨i + 1,by go_num,Hlt.out,fun j z hj hz=>by
     rcases Nat.lt_succ_iff_lt_or_eq.1 hj with h | h
     · exact HS.out j z h hz
     · subst h
       have:=Hx.out.symm.trans hz
       injection this with this
       rw [← this];exact Hb.out,HCr.out,HBr.out⟩
    case measure=>simp [z3e];have:=Hlt.out;omega
theorem x1m {l:List Int} {i n:Nat} (h:j5y l i = false) (hi:i < n):z5q l n = false:=by
 unfold z5q;rw [List.all_eq_false];exact ⟨i,List.mem_range.2 hi,by rw [h];simp⟩
def k4s (l:List Int) (n:Nat) (w:World) (cs:List Value) (vi:Value) (wr:World):Prop:=∃ i:Nat,vi = .int .i64 (i:Int)∧i ≤ n∧z5q l i = true∧CB wr w.heap.size 28 cs∧Below w.heap.size w wr
def k5s (l:List Int) (x:Int) (n:Nat) (w:World) (cs:List Value) (vi:Value) (wr:World):Prop:=∃ i:Nat,vi = .int .i64 (i:Int)∧i ≤ n∧(∀ j y,j < i→l[j]? = some y→x ≠ y)∧CB wr w.heap.size 28 cs∧Below w.heap.size w wr
theorem x7e (f:Flt) (v:Value) (w:World) (hl:z9f nuK w.heap.size w f.ways v) (hs:f.call.size ≤ 9223372036854775807):Calls Tryz.prog 106 #[.agg (f.cells v).toArray] w fun e w'=>e = .returned (.bool (y2w f))∧Below w.heap.size w w':=by
 obtain ⟨oa,ca,rfl,la⟩:=hl.shape
 have HL:=hd_ hl
 obtain ⟨n,hn⟩:∃ n,f.ways.length = n:=⟨_,rfl⟩
 rw [hn] at HL la ⊢
 have l1:(n:Int) ≤ 9223372036854775807:=by omega
 have HN:=hd_ hn
 have HB:=hd_ (z5b (w:=w) (.cells (f.cells (.slice oa n ca)).toArray 28))
 have hc:=z6a w (.cells (f.cells (.slice oa n ca)).toArray 28) 28 (f.cells (.slice oa n ca)) rfl
 have HC:=hd_ hc
 have H1:=hd_ (fun W=>z9d f.id 0 4095 W);have H2:=hd_ (fun W=>z9d f.air 0 7 W);have H3:=hd_ (fun W=>z9d f.cls 0 7 W);have H4:=hd_ (fun W=>y0t f.call hs W);have H5:=hd_ (fun W=>z9d (n:Int) 1 4 W)
 obtain ⟨b1,h1⟩:∃ b,inB f.id 0 4095 = b:=⟨_,rfl⟩
 obtain ⟨b2,h2⟩:∃ b,inB f.air 0 7 = b:=⟨_,rfl⟩
 obtain ⟨b3,h3⟩:∃ b,inB f.cls 0 7 = b:=⟨_,rfl⟩
 obtain ⟨b4,h4⟩:∃ b,z7o f.call.data.toList = b:=⟨_,rfl⟩
 obtain ⟨b5,h5⟩:∃ b,inB (n:Int) 1 4 = b:=⟨_,rfl⟩
 have HR:Hid (x8q f = (b1 && b2 && b3 && b4 && b5)):=by show _ = _;unfold x8q;rw [hn,h1,h2,h3,h4,h5]
 unfold z8o at H4
 rw [h1] at H1;rw [h2] at H2;rw [h3] at H3;rw [h4] at H4;rw [h5] at H5
 have c0:_ = some (Value.int .i64 f.id):=hc.cell 0
 have c1:_ = some (Value.int .i64 f.air):=hc.cell 1
 have c2:_ = some (Value.int .i64 f.cls):=hc.cell 2
 have c3:_ = some (Value.string f.call):=hc.cell 3
 have c4:_ = some (Value.slice oa n ca):=hc.cell 4
 clear hc hl h1 h2 h3 h4 h5 la hn hs
 go_enter Tryz.func106,Tryz.ntmps106
 go_upto_region 1 with fail
 change Code.wp _ _ _ _ (w.alloc (.cells (f.cells (.slice oa n ca)).toArray 28))
 generalize w.alloc (.cells (f.cells (.slice oa n ca)).toArray 28) = w0 at *
 by_cases hall:(b1 && b2 && b3 && b4 && b5) = true
 case neg =>
  have hno:(b1 && b2 && b3 && b4 && b5) = false:=by simpa using hall
  have HNO:=hd_ hno
  have HFA:Hid (y2w f = false):=by show _ = _;unfold y2w;rw [HR.out,hno];rfl
  clear hno hall HR
  go_wp2_with (first
   | (go_at_call 163;refine (H4.out w0).mono ?_;go_loud (rintro e w' ⟨rfl,rfl⟩))
   | (go_at_call 44;refine (H1.out w0).mono ?_;go_loud (rintro e w' ⟨rfl,rfl⟩;clear H1))
   | (go_at_call 44;refine (H2.out w0).mono ?_;go_loud (rintro e w' ⟨rfl,rfl⟩;clear H2))
   | (go_at_call 44;refine (H3.out w0).mono ?_;go_loud (rintro e w' ⟨rfl,rfl⟩;clear H3))
   | (go_at_call 44;refine (H5.out w0).mono ?_;go_loud (rintro e w' ⟨rfl,rfl⟩;clear H5)))
  all_goals first
   | (go_ret;exact ⟨by rw [HFA.out];rfl,HB.out⟩)
   | (exfalso;have h:=HNO.out;clear HFA;simp_all)
 case pos =>
 simp only [Bool.and_eq_true] at hall
 obtain ⟨⟨⟨⟨rfl,rfl⟩,rfl⟩,rfl⟩,rfl⟩:=hall
 have HR2:Hid (y2w f = (z5q f.ways n && k2p f)):=by show _ = _;unfold y2w;rw [HR.out,HN.out];rfl
 clear HR
 go_wp2_with (first
  | (go_at_call 163;refine (H4.out w0).mono ?_;go_loud (rintro e w' ⟨rfl,rfl⟩))
  | (go_at_call 44;refine (H1.out w0).mono ?_;go_loud (rintro e w' ⟨rfl,rfl⟩;clear H1))
  | (go_at_call 44;refine (H2.out w0).mono ?_;go_loud (rintro e w' ⟨rfl,rfl⟩;clear H2))
  | (go_at_call 44;refine (H3.out w0).mono ?_;go_loud (rintro e w' ⟨rfl,rfl⟩;clear H3))
  | (go_at_call 44;refine (H5.out w0).mono ?_;go_loud (rintro e w' ⟨rfl,rfl⟩;clear H5)))
 clear c0 c1 c2 c3 c4
 go_loopw [3] (fun vi wr=>k4s f.ways n w (f.cells (.slice oa n ca)) vi wr) (fun vi _=>n - z3e vi)
 case atStart=>exact ⟨0,rfl,by omega,by unfold z5q;simp,HC.out,HB.out⟩
 case round =>
  obtain ⟨i,rfl,hi,hs,hc,hb⟩:=hrel
  have HS:=hd_ hs;have HCr:=hd_ hc;have HBr:=hd_ hb
  have c4:wr.cell? ⟨w.heap.size,4,none⟩ = some (.slice oa n ca):=hc.cell 4
  clear hs hc hb HC HB
  by_cases hlt:i < n
  case neg =>
   obtain rfl:i = n:=by omega
   have tj:decide ((i:Int) < (i:Int)) = false:=by simp
   have c5:wr.cell? ⟨w.heap.size,5,none⟩ = some (.int .i64 f.wf):=HCr.out.cell 5
   have c6:wr.cell? ⟨w.heap.size,6,none⟩ = some (.int .i64 f.wt):=HCr.out.cell 6
   obtain ⟨b6,h6⟩:∃ b,decide (0 ≤ f.wf) = b:=⟨_,rfl⟩
   obtain ⟨b7,h7⟩:∃ b,decide (f.wf < f.wt) = b:=⟨_,rfl⟩
   obtain ⟨b8,h8⟩:∃ b,decide (f.wt ≤ 1440) = b:=⟨_,rfl⟩
   obtain ⟨b9,h9⟩:∃ b,decide (f.wt - f.wf ≤ 16) = b:=⟨_,rfl⟩
   have HR:Hid (y2w f = (b6 && b7 && b8 && b9)):=by show _ = _;rw [HR2.out,HS.out];unfold k2p;rw [h6,h7,h8,h9];rfl
   by_cases hwin:0 ≤ f.wf∧f.wf < f.wt∧f.wt ≤ 1440
   case pos =>
    obtain ⟨w1,w2,w3⟩:=hwin
    obtain rfl:b6 = true:=by rw [← h6];exact decide_eq_true w1
    obtain rfl:b7 = true:=by rw [← h7];exact decide_eq_true w2
    obtain rfl:b8 = true:=by rw [← h8];exact decide_eq_true w3
    have hwr:IntKind.i64.wrap (f.wt - f.wf) = f.wt - f.wf:=IntWalk.i64_in _ (by omega)
    have hwr2:wrap64 (f.wt - f.wf) = f.wt - f.wf:=by first | (unfold wrap64;omega) | exact (IntKind.wrap_i64 _).symm.trans hwr
    clear hlt hi
    go_wp2_with fail
    · (try clear h6 h7 h8 h9 hwr hwr2);(try simp only [Bool.not_eq_true] at *);subst_vars;go_ret;exact ⟨by first | (rw [HR.out];rfl) | rfl,HBr.out⟩
    all_goals (try clear h6 h7 h8 h9 hwr hwr2;try simp only [Bool.not_eq_true] at *;subst_vars;go_ret;exact ⟨by first | (rw [HR.out];rfl) | rfl,HBr.out⟩)
   case neg =>
    have hno:(b6 && b7 && b8) = false:=by
     rw [← h6,← h7,← h8]
     by_cases x1:0 ≤ f.wf
     · by_cases x2:f.wf < f.wt
       · have x3:¬ f.wt ≤ 1440:=fun h=>hwin ⟨x1,x2,h⟩
         simp [x3]
       · simp [x2]
     · simp [x1]
    have HFA:Hid (y2w f = false):=by show _ = _;rw [HR.out,hno];simp
    have HNO:=hd_ hno
    clear hno hwin hlt hi HR h9
    go_wp2_with fail
    all_goals first
     | (go_ret;first | exact ⟨by rw [HFA.out];rfl,HBr.out⟩ | (exfalso;have h:=HNO.out;clear HFA;simp_all))
  case pos =>
  have tj:decide ((i:Int) < (n:Int)) = true:=by simp;omega
  have tj':decide (i < n) = true:=by simp;omega
  have kb:(i:Int) < (n:Int):=by omega
  obtain ⟨x,hx⟩:∃ x,f.ways[i]? = some x:=⟨_,gE (by rw [HN.out];exact hlt)⟩
  obtain ⟨ab,ao,rfl⟩:=z7e HL.out (k:=i) (by rw [HN.out];exact hlt)
  have c1:=z1a HBr.out (z3l HL.out hx)
  have hgd:f.ways.getD i 0 = x:=by rw [List.getD_eq_getElem?_getD,hx];rfl
  have HC1:=hd_ (z9d x 0 63 wr)
  obtain ⟨b,h⟩:∃ b,inB x 0 63 = b:=⟨_,rfl⟩
  have HWy:Hid (j5y f.ways i = (b && !((f.ways.take i).any fun y=>x == y))):=by show _ = _;unfold j5y;rw [hgd,h]
  rw [h] at HC1
  have Hlt:=Lib.hid hlt;have Hx:=Lib.hid hx;have Hi:Hid ((i:Int) ≤ (n:Int)):=by show _ ≤ _;omega
  clear hlt hx h hi hgd
  cases b
  · go_wp2_with (go_at_call 44;refine HC1.out.mono ?_;go_loud (rintro e w' ⟨rfl,rfl⟩))
    go_ret
    exact ⟨by rw [HR2.out,x1m (by rw [HWy.out];rfl) Hlt.out];rfl,HBr.out⟩
  · go_wp2_with (go_at_call 44;refine HC1.out.mono ?_;go_loud (rintro e w' ⟨rfl,rfl⟩))
    clear c1 c4 HC1
    generalize wr = wr0 at *
    go_loopw [4] (fun vi wr=>k5s f.ways x i w (f.cells (.slice (some ⟨ab,ao,none⟩) n ca)) vi wr) (fun vi _=>i - z3e vi)
    case atStart=>exact ⟨0,rfl,by omega,fun j y h=>by omega,HCr.out,HBr.out⟩
    case round =>
     obtain ⟨k,rfl,hk,hs,hc,hb⟩:=hrel
     have HQ:=hd_ hs;have HCi:=hd_ hc;have HBi:=hd_ hb
     have c4:wr.cell? ⟨w.heap.size,4,none⟩ = some (.slice (some ⟨ab,ao,none⟩) n ca):=hc.cell 4
     clear hs hc hb HCr HBr
     by_cases hki:k < i
     case neg =>
      obtain rfl:k = i:=by omega
      have tk:decide ((k:Int) < (k:Int)) = false:=by simp
      have HE:Hid (z5q f.ways (k + 1) = true):=by
       show _ = _
       have hany:((f.ways.take k).any fun y=>x == y) = false:=by
        rw [List.any_eq_false]
        intro y hy
        obtain ⟨j,hj⟩:=List.mem_iff_getElem?.1 hy
        have hjk:j < k:=by have:=(gS.1 hj).1;rw [List.length_take] at this;omega
        rw [List.getElem?_take_of_lt hjk] at hj
        have:=HQ.out j y hjk hj
        simpa using this
       rw [y6j,HS.out,HWy.out,hany];rfl
      go_wp2_with fail
      go_roundw
      case rel=>exact ⟨k + 1,by go_num,Hlt.out,HE.out,HCi.out,HBi.out⟩
      case measure=>simp [z3e];have:=Hlt.out;omega
     case pos =>
     have tk:decide ((k:Int) < (i:Int)) = true:=by simp;omega
     have tk':decide (k < i) = true:=by simp;omega
     have kk:(k:Int) < (n:Int):=by have:=Hi.out;omega
     obtain ⟨y,hy⟩:∃ y,f.ways[k]? = some y:=⟨_,gE (by rw [HN.out];omega)⟩
     have c1:=z1a HBi.out (z3l HL.out Hx.out);have c2:=z1a HBi.out (z3l HL.out hy)
     have Hki:=hd_ hki;have Hy:=hd_ hy
     clear hki hy hk
     go_upto_region 11 with fail
     by_cases hxy:y = x
     · subst hxy
       have HE:Hid (y2w f = false):=by
        show _ = _
        have:((f.ways.take i).any fun z=>y == z) = true:=List.any_eq_true.2 ⟨y,by
         rw [List.mem_iff_getElem?];exact ⟨k,by rw [List.getElem?_take_of_lt Hki.out];exact Hy.out⟩,by simp⟩
        rw [HR2.out,x1m (by rw [HWy.out,this];rfl) Hlt.out];rfl
       go_quiet (fail)
       have K:Hid (Below w.heap.size w (wr.drewN nq)):=z1c HBi.out nq
       clear c1 c2 c4 HBi HCi
       generalize wr.drewN nq = wA at *
       go_wp2_with fail
       go_ret
       exact ⟨by rw [HE.out];rfl,K.out⟩
     · have u1:decide (y = x) = false:=decide_eq_false hxy
       have u2:(y == x) = false:=beq_false_of_ne hxy
       have HNX:Hid (x ≠ y):=fun e=>hxy e.symm
       clear hxy
       go_quiet (fail)
       have K:Hid (Below w.heap.size w (wr.drewN nq)):=z1c HBi.out nq
       have KC:Hid (CB (wr.drewN nq) w.heap.size 28 (f.cells (.slice (some ⟨ab,ao,none⟩) n ca))):=HCi.out
       clear c1 c2 c4 HBi HCi
       generalize wr.drewN nq = wA at *
       go_wp2_with fail
       go_roundw
       case rel=>exact ⟨k + 1,by go_num,Hki.out,fun j z hj hz=>by
        rcases Nat.lt_succ_iff_lt_or_eq.1 hj with h | h
        · exact HQ.out j z h hz
        · subst h
          have:=Hy.out.symm.trans hz
          injection this with this
          rw [← this];exact HNX.out,KC.out,K.out⟩
       case measure=>simp [z3e];have:=Hki.out;omega
def z6x (frm:Int) (c:Cut):Bool:=inB c.ix 0 (if c.ap then 15 else 63) && inB c.less 0 64 && decide (frm ≤ c.mf) && decide (c.mf < c.mt) && decide (c.mt ≤ 1440)
theorem x0r (c:Cut) (frm:Int) (g:Nat) (w:World) (hg:w.cell? ⟨g,1,none⟩ = some (.int .i64 frm)) :
 Calls Tryz.prog 77 #[.agg c.cells.toArray,.pointer (some ⟨g,0,none⟩)] w fun e w'=>e = .returned (.bool (!z6x frm c))∧Below w.heap.size w w':=by
 obtain ⟨ca,ci,cf,ct,cl⟩:=c
 have hb0:=z5b (w:=w) (.cells #[.bool ca,.int .i64 ci,.int .i64 cf,.int .i64 ct,.int .i64 cl] 88)
 have HB:=hd_ hb0
 have g1:=z1a hb0 hg
 have HR:Hid (z6x frm ⟨ca,ci,cf,ct,cl⟩ = (inB ci 0 (if ca then 15 else 63) && inB cl 0 64 && decide (frm ≤ cf) && decide (cf < ct) && decide (ct ≤ 1440))):=rfl
 have H1:=hd_ (fun (m:Int) W=>y7n ci 0 m W);have H2:=hd_ (fun W=>y7n cl 0 64 W)
 obtain ⟨b2,h2⟩:∃ b,inB cl 0 64 = b:=⟨_,rfl⟩
 obtain ⟨b3,h3⟩:∃ b,decide (frm ≤ cf) = b:=⟨_,rfl⟩
 obtain ⟨b4,h4⟩:∃ b,decide (cf < ct) = b:=⟨_,rfl⟩
 obtain ⟨b5,h5⟩:∃ b,decide (ct ≤ 1440) = b:=⟨_,rfl⟩
 have HR:Hid (z6x frm ⟨ca,ci,cf,ct,cl⟩ = (inB ci 0 (if ca then 15 else 63) && b2 && b3 && b4 && b5)):=by have:=HR.out;rw [h2,h3,h4,h5] at this;exact this
 rw [h2] at H2
 have u3:decide (cf < frm) = !b3:=by rw [← h3];by_cases h:frm ≤ cf <;> simp [h] <;> omega
 have u4:decide (ct ≤ cf) = !b4:=by rw [← h4];by_cases h:cf < ct <;> simp [h] <;> omega
 have u5:decide (1440 < ct) = !b5:=by rw [← h5];by_cases h:ct ≤ 1440 <;> simp [h] <;> omega
 clear hb0 hg h2 h3 h4 h5
 change Calls Tryz.prog 77 #[.agg #[.bool ca,.int .i64 ci,.int .i64 cf,.int .i64 ct,.int .i64 cl],_] w _
 cases ca
 · obtain ⟨b1,h1⟩:∃ b,inB ci 0 63 = b:=⟨_,rfl⟩
   have HR:Hid (z6x frm ⟨false,ci,cf,ct,cl⟩ = (b1 && b2 && b3 && b4 && b5)):=by have:=HR.out;show _ = _;rw [this,← h1];rfl
   have H1:=hd_ (fun W=>H1.out 63 W)
   rw [h1] at H1
   clear h1
   go_enter Tryz.func77,Tryz.ntmps77
   by_cases hall:(b1 && b2 && b3 && b4 && b5) = true
   case neg =>
    have hno:(b1 && b2 && b3 && b4 && b5) = false:=by simpa using hall
    have HNO:=hd_ hno
    have HFA:Hid (z6x frm ⟨false,ci,cf,ct,cl⟩ = false):=by show _ = _;rw [HR.out,hno]
    clear hno hall HR
    go_wp2_with (first
    | (go_at_call 75;refine (H1.out _).mono ?_;go_loud (rintro e w' ⟨rfl,rfl⟩;clear H1))
    | (go_at_call 75;refine (H2.out _).mono ?_;go_loud (rintro e w' ⟨rfl,rfl⟩;clear H2)))
    all_goals first
     | (go_ret;exact ⟨by rw [HFA.out];rfl,HB.out⟩)
     | (have h:=HNO.out
        have h5:b5 = false:=by
         cases b5
         · rfl
         · exfalso;clear HFA;simp_all
        subst h5
        go_ret;exact ⟨by rw [HFA.out];rfl,HB.out⟩)
   case pos =>
    have HFA:Hid (z6x frm ⟨false,ci,cf,ct,cl⟩ = true):=by show _ = _;rw [HR.out,hall]
    simp only [Bool.and_eq_true] at hall
    obtain ⟨⟨⟨⟨rfl,rfl⟩,rfl⟩,rfl⟩,rfl⟩:=hall
    clear HR
    go_wp2_with (first
    | (go_at_call 75;refine (H1.out _).mono ?_;go_loud (rintro e w' ⟨rfl,rfl⟩;clear H1))
    | (go_at_call 75;refine (H2.out _).mono ?_;go_loud (rintro e w' ⟨rfl,rfl⟩;clear H2)))
    go_ret
    exact ⟨by rw [HFA.out];rfl,HB.out⟩
 · obtain ⟨b1,h1⟩:∃ b,inB ci 0 15 = b:=⟨_,rfl⟩
   have HR:Hid (z6x frm ⟨true,ci,cf,ct,cl⟩ = (b1 && b2 && b3 && b4 && b5)):=by have:=HR.out;show _ = _;rw [this,← h1];rfl
   have H1:=hd_ (fun W=>H1.out 15 W)
   rw [h1] at H1
   clear h1
   go_enter Tryz.func77,Tryz.ntmps77
   by_cases hall:(b1 && b2 && b3 && b4 && b5) = true
   case neg =>
    have hno:(b1 && b2 && b3 && b4 && b5) = false:=by simpa using hall
    have HNO:=hd_ hno
    have HFA:Hid (z6x frm ⟨true,ci,cf,ct,cl⟩ = false):=by show _ = _;rw [HR.out,hno]
    clear hno hall HR
    go_wp2_with (first
    | (go_at_call 75;refine (H1.out _).mono ?_;go_loud (rintro e w' ⟨rfl,rfl⟩;clear H1))
    | (go_at_call 75;refine (H2.out _).mono ?_;go_loud (rintro e w' ⟨rfl,rfl⟩;clear H2)))
    all_goals first
     | (go_ret;exact ⟨by rw [HFA.out];rfl,HB.out⟩)
     | (have h:=HNO.out
        have h5:b5 = false:=by
         cases b5
         · rfl
         · exfalso;clear HFA;simp_all
        subst h5
        go_ret;exact ⟨by rw [HFA.out];rfl,HB.out⟩)
   case pos =>
    have HFA:Hid (z6x frm ⟨true,ci,cf,ct,cl⟩ = true):=by show _ = _;rw [HR.out,hall]
    simp only [Bool.and_eq_true] at hall
    obtain ⟨⟨⟨⟨rfl,rfl⟩,rfl⟩,rfl⟩,rfl⟩:=hall
    clear HR
    go_wp2_with (first
    | (go_at_call 75;refine (H1.out _).mono ?_;go_loud (rintro e w' ⟨rfl,rfl⟩;clear H1))
    | (go_at_call 75;refine (H2.out _).mono ?_;go_loud (rintro e w' ⟨rfl,rfl⟩;clear H2)))
    go_ret
    exact ⟨by rw [HFA.out];rfl,HB.out⟩
theorem x1r (l:List Cut) (frm:Int) (g:Nat) (v:Value) (w:World) (hl:z9f cuK w.heap.size w l v) (hg:w.cell? ⟨g,1,none⟩ = some (.int .i64 frm)) :
 Calls Tryz.prog 149 #[v,.func (.func 77) #[] #[.pointer (some ⟨g,0,none⟩)]] w fun e w'=>(∃ r:Int,e = .returned (.int .i64 r)∧decide (0 ≤ r) = l.any (fun c=>!z6x frm c))∧Below w.heap.size w w':=by
 obtain ⟨oa,ca,rfl,la⟩:=hl.shape
 have HL:=hd_ hl;have HG:=hd_ hg
 obtain ⟨n,hn⟩:∃ n,l.length = n:=⟨_,rfl⟩
 rw [hn] at HL la ⊢
 have l1:(n:Int) ≤ 9223372036854775807:=by omega
 have HN:=hd_ hn
 clear hl hn la hg
 go_enter Tryz.func149,Tryz.ntmps149
 go_wp2_with fail
 go_loopw [8] (fun vi wr=>(∃ i:Nat,vi = .int .i64 (i:Int)∧i ≤ n∧∀ j y,j < i→l[j]? = some y→(!z6x frm y) = false)∧Below w.heap.size w wr) (fun vi _=>n - z3e vi)
 case atStart=>exact ⟨⟨0,rfl,by omega,fun j y h=>by omega⟩,Below.refl _ _⟩
 case round =>
  obtain ⟨⟨i,rfl,hi,hs⟩,hb⟩:=hrel
  have HS:=hd_ hs;have HBr:=hd_ hb
  clear hs hb
  by_cases hlt:i < n
  case neg =>
   obtain rfl:i = n:=by omega
   have tj:decide ((i:Int) < (i:Int)) = false:=by simp
   have HE:Hid (l.any (fun c=>!z6x frm c) = false):=by
    show _ = _
    rw [List.any_eq_false]
    intro y hy
    obtain ⟨j,hj⟩:=List.mem_iff_getElem?.1 hy
    have hj':=HS.out j y (by have:=(gS.1 hj).1;have:=HN.out;omega) hj
    rw [hj'];simp
   go_wp2_with fail
   go_ret
   exact ⟨⟨-1,rfl,by rw [HE.out];rfl⟩,HBr.out⟩
  case pos =>
  have tj:decide ((i:Int) < (n:Int)) = true:=by simp;omega
  have tj':decide (i < n) = true:=by simp;omega
  have kb:(i:Int) < (n:Int):=by omega
  obtain ⟨y,hy⟩:∃ y,l[i]? = some y:=⟨_,gE (by rw [HN.out];exact hlt)⟩
  obtain ⟨ab,ao,rfl⟩:=z7e HL.out (k:=i) (by rw [HN.out];exact hlt)
  have HR:=hd_ (z2l (z3u HL.out hy) HBr.out)
  have HC1:=hd_ (x0r y frm g wr (z1a HBr.out HG.out))
  have Hlt:=hd_ hlt;have Hy:=hd_ hy
  obtain ⟨b,hb⟩:∃ b,(!z6x frm y) = b:=⟨_,rfl⟩
  have HBb:=hd_ hb
  rw [hb] at HC1
  clear hlt hy hi hb
  cases b
  · go_wp2_with (first
     | (have _g:=HR.out;refine z7a (by rfl) 88 (.tmp 14) rfl ab (ao + i * 5) rfl y.cells _ HR.out Tryz.underlying88 rfl (by kernel_rfl) ?_)
     | (go_at_call 77;refine HC1.out.mono ?_;go_loud (rintro e w2 ⟨rfl,hb⟩;have HB2:=hd_ (z0a HBr.out hb);clear hb)))
    go_roundw
    case rel=>exact ⟨⟨i + 1,by go_num,Hlt.out,fun j z hj hz=>by
     rcases Nat.lt_succ_iff_lt_or_eq.1 hj with h | h
     · exact HS.out j z h hz
     · subst h
       have:=Hy.out.symm.trans hz
       injection this with this
       rw [← this];exact HBb.out⟩,HB2.out⟩
    case measure=>simp [z3e];have:=Hlt.out;omega
  · go_wp2_with (first
     | (have _g:=HR.out;refine z7a (by rfl) 88 (.tmp 14) rfl ab (ao + i * 5) rfl y.cells _ HR.out Tryz.underlying88 rfl (by kernel_rfl) ?_)
     | (go_at_call 77;refine HC1.out.mono ?_;go_loud (rintro e w2 ⟨rfl,hb⟩;have HB2:=hd_ (z0a HBr.out hb);clear hb)))
    go_ret
    exact ⟨⟨(i:Int),rfl,by
     have:l.any (fun c=>!z6x frm c) = true:=List.any_eq_true.2 ⟨y,mG Hy.out,HBb.out⟩
     rw [this];simp⟩,HB2.out⟩
theorem y9n (l:List Cut) (frm:Int) (g:Nat) (v:Value) (w:World) (hl:z9f cuK w.heap.size w l v) (hg:w.cell? ⟨g,1,none⟩ = some (.int .i64 frm)) :
 Calls Tryz.prog 76 #[v,.func (.func 77) #[] #[.pointer (some ⟨g,0,none⟩)]] w fun e w'=>e = .returned (.bool (l.any fun c=>!z6x frm c))∧Below w.heap.size w w':=by
 have HC:=hd_ (x1r l frm g v w hl hg)
 obtain ⟨oa,ca,rfl,-⟩:=hl.shape
 clear hl hg
 go_enter Tryz.func76,Tryz.ntmps76
 go_wp2_with (go_at_call 149;refine HC.out.mono ?_;rintro e w2 ⟨⟨r,rfl,hr⟩,hb⟩)
 go_ret
 exact ⟨by rw [← hr];rfl,hb⟩
theorem y3w (c:Cut) (frm:Int) (w:World):Calls Tryz.prog 197 #[.agg c.cells.toArray,.int .i64 frm] w fun e w'=>e = .returned (.bool (z6x frm c))∧Below w.heap.size w w':=by
 obtain ⟨ca,ci,cf,ct,cl⟩:=c
 have HB:=hd_ (z5b (w:=w) (.cells #[.bool ca,.int .i64 ci,.int .i64 cf,.int .i64 ct,.int .i64 cl] 88))
 obtain ⟨b1,h1⟩:∃ b,decide (0 ≤ ci) = b:=⟨_,rfl⟩
 obtain ⟨b3,h3⟩:∃ b,decide (frm ≤ cf) = b:=⟨_,rfl⟩
 obtain ⟨b4,h4⟩:∃ b,decide (cf < ct) = b:=⟨_,rfl⟩
 obtain ⟨b5,h5⟩:∃ b,decide (ct ≤ 1440) = b:=⟨_,rfl⟩
 obtain ⟨b6,h6⟩:∃ b,decide (0 ≤ cl) = b:=⟨_,rfl⟩
 obtain ⟨b7,h7⟩:∃ b,decide (cl ≤ 64) = b:=⟨_,rfl⟩
 change Calls Tryz.prog 197 #[.agg #[.bool ca,.int .i64 ci,.int .i64 cf,.int .i64 ct,.int .i64 cl],_] w _
 cases ca
 · obtain ⟨b2,h2⟩:∃ b,decide (ci < 64) = b:=⟨_,rfl⟩
   have HR:Hid (z6x frm ⟨false,ci,cf,ct,cl⟩ = (b1 && b2 && b3 && b4 && b5 && b6 && b7)):=by
    show (inB ci 0 63 && inB cl 0 64 && decide (frm ≤ cf) && decide (cf < ct) && decide (ct ≤ 1440)) = _
    have e2:decide (ci ≤ 63) = b2:=by rw [← h2];by_cases h:ci < 64 <;> simp [h] <;> omega
    unfold inB
    rw [h1,e2,h3,h4,h5,h6,h7]
    cases b1 <;> cases b2 <;> cases b3 <;> cases b4 <;> cases b5 <;> cases b6 <;> cases b7 <;> rfl
   go_enter Tryz.func197,Tryz.ntmps197
   go_wp2_with fail
   · (try clear h1 h2 h3 h4 h5 h6 h7);(try simp only [Bool.not_eq_true] at *);subst_vars;go_ret;exact ⟨by first | (rw [HR.out];rfl) | rfl,HB.out⟩
   all_goals (try clear h1 h2 h3 h4 h5 h6 h7;try simp only [Bool.not_eq_true] at *;subst_vars;go_ret;exact ⟨by first | (rw [HR.out];rfl) | rfl,HB.out⟩)
 · obtain ⟨b2,h2⟩:∃ b,decide (ci < 16) = b:=⟨_,rfl⟩
   have HR:Hid (z6x frm ⟨true,ci,cf,ct,cl⟩ = (b1 && b2 && b3 && b4 && b5 && b6 && b7)):=by
    show (inB ci 0 15 && inB cl 0 64 && decide (frm ≤ cf) && decide (cf < ct) && decide (ct ≤ 1440)) = _
    have e2:decide (ci ≤ 15) = b2:=by rw [← h2];by_cases h:ci < 16 <;> simp [h] <;> omega
    unfold inB
    rw [h1,e2,h3,h4,h5,h6,h7]
    cases b1 <;> cases b2 <;> cases b3 <;> cases b4 <;> cases b5 <;> cases b6 <;> cases b7 <;> rfl
   go_enter Tryz.func197,Tryz.ntmps197
   go_wp2_with fail
   · (try clear h1 h2 h3 h4 h5 h6 h7);(try simp only [Bool.not_eq_true] at *);subst_vars;go_ret;exact ⟨by first | (rw [HR.out];rfl) | rfl,HB.out⟩
   all_goals (try clear h1 h2 h3 h4 h5 h6 h7;try simp only [Bool.not_eq_true] at *;subst_vars;go_ret;exact ⟨by first | (rw [HR.out];rfl) | rfl,HB.out⟩)
open Go.Maps (Keyed)
theorem y4w:Keyed Tryz.prog 3:=Maps.int_keyed Tryz.underlying3
theorem j9b {a:Int} (h:(Lit.int .i64 a).wf = true):keyOf Tryz.prog 3 (.int .i64 a) = some (.int .i64 a):=Maps.keyOf_int_mk Tryz.underlying3 h
theorem j0n (w:World):(zeroValue 3).run Tryz.prog w = .ok (.int .i64 0) w:=by kernel_rfl
theorem j0c (a:Int):WideAt.IsKeyLit (.int .i64 a):=trivial
theorem j8s {a b:Int} (h:a ≠ b):(Lit.int .i64 a) ≠ (Lit.int .i64 b):=fun e=>h (by injection e)
def unI:DataW Nat→Int
 | .lit (.int _ n)=>n
 | _=>0
def j1n (w:World) (b n:Nat) (T:Int→Option Int):Prop :=
 ∃ D:DataW Nat,w.ownsMap Tryz.prog 3 (plainElem Tryz.prog 3) b n D∧(∀ t:Int,Maps.has D (.int .i64 t) = (T t).isSome)∧∀ t:Int,(Lit.int .i64 t).wf = true→D.atKey (.int .i64 t) (.lit (.int .i64 0)) = .lit (.int .i64 ((T t).getD 0))
theorem j1n.made (w:World):j1n (w.alloc (.map #[] 0)) w.heap.size 0 (fun _=>none):=⟨_,World.ownsMap_made w _ _ _,fun _=>rfl,fun _ _=>rfl⟩
theorem j1n.lt {w:World} {b n:Nat} {T:Int→Option Int} (h:j1n w b n T):b < w.heap.size:=by obtain ⟨D,h,_⟩:=h;exact h.lt
theorem j1n.ext {w w':World} {b n:Nat} {T:Int→Option Int} (h:j1n w b n T) (hb:Below w.heap.size w w'):j1n w' b n T:=by
 obtain ⟨D,⟨es,clock,h1,F,hs,hD⟩,q⟩:=h
 have hlt:b < w.heap.size:=(Array.getElem?_eq_some_iff.1 h1).1
 exact ⟨D,⟨es,clock,(hb.block b hlt).trans h1,F,hs,hD⟩,q⟩
theorem j1n.look {w:World} {b n:Nat} {T:Int→Option Int} (h:j1n w b n T) {t:Int} (ht:(Lit.int .i64 t).wf = true) :
 (Instr.lookup 117 (.map (some b)) (.int .i64 t) true).run Tryz.prog w = .ok (.tuple #[.int .i64 ((T t).getD 0),.bool (T t).isSome]) w:=by
 obtain ⟨D,h,q1,q2⟩:=h
 obtain ⟨v,ps,hrun,hv⟩:=h.look_ok y4w Tryz.underlying117 (j0n w) (plainElem_int Tryz.underlying3 (by decide)) (j9b ht)
 rw [q1 t] at hrun
 obtain ⟨c,rfl,hc,hwc⟩:=plainElem_int_inv Tryz.underlying3 hv
 rw [q2 t ht] at hc
 simp only [Prod.mk.injEq] at hc
 have h2:(T t).getD 0 = c:=congrArg unI hc.1
 rw [h2];exact hrun
theorem j1n.update {w:World} {b n:Nat} {T:Int→Option Int} (h:j1n w b n T) (hn:n < maxLen) {t v:Int} (ht:(Lit.int .i64 t).wf = true) (hv:(Lit.int .i64 v).wf = true) :
 ∃ w',(Instr.mapUpdate 117 (.map (some b)) (.int .i64 t) (.int .i64 v)).run Tryz.prog w = .ok () w'∧j1n w' b (n + 1) (fun s=>if s = t then some v else T s)∧w.grownBy w' (some b):=by
 obtain ⟨D,h,q1,q2⟩:=h
 obtain ⟨w',h1,h2,h3⟩:=h.update y4w Tryz.underlying117 hn (j9b ht) (plainElem_int (H:=Nat) Tryz.underlying3 hv)
 refine ⟨w',h1,⟨_,h2,fun s=>?_,fun s hs=>?_⟩,h3⟩
 · by_cases he:s = t
   · subst he
     rw [Maps.has_put_same h.isMap (j0c _)];simp
   · rw [Maps.has_put_other (j8s he),q1 s];simp [he]
 · by_cases he:s = t
   · subst he
     rw [Maps.atKey_put_same h.isMap (j0c _)];simp
   · rw [Maps.atKey_put_other (j8s he),q2 s hs];simp [he]
end Go.Proofs.YtdblnbnofjggnaaGreatDoor
