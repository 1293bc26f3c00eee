/- Parts of the proofs of chapter 49's laws: Rdl Rdv Rdw Rdx. -/
import Derived.Test.YtdblnbnofjggnaaGreatDoorM20
import Derived.Laws.DeepNot64
import Derived.Test.YtdblnbnofjggnaaGreatDoorM11
import Derived.Deep.RegionHeld3
set_option maxHeartbeats 1000000
set_option maxRecDepth 100000
open Go
open Lib renaming hid → hd_
open Nat renaming le_refl → lR
namespace Go.Proofs.YtdblnbnofjggnaaGreatDoor
open Go.RowKit
def z2k (l:List UInt8):Option (Nat × List UInt8) :=
 match z7f 0 0 l with
 | some (n,r)=>if n ≤ r.length then some (n,r) else none
 | none=>none
theorem z2q:∀ (l:List UInt8) (k x n:Nat) (r:List UInt8),z7f k x l = some (n,r)→r.length < l.length
 | [],_,_,_,_,h=>by simp [z7f] at h
 | c :: t,k,x,n,r,h=>by
  rw [z7f] at h
  split at h
  · split at h
    · simp at h;obtain ⟨_,rfl⟩:=h;simp
    · have:=z2q t _ _ n r h;simp;omega
  · cases h
theorem y5m:∀ (l:List UInt8) (k x n:Nat) (r:List UInt8),k ≤ 9→x < 2 ^ (7 * k)→z7f k x l = some (n,r)→n < 18446744073709551616
 | [],_,_,_,_,_,_,h=>by simp [z7f] at h
 | c :: t,k,x,n,r,hk,hx,h=>by
  rw [z7f] at h
  split at h
  · rename_i hg
    split at h
    · simp at h;obtain ⟨rfl,_⟩:=h
      by_cases h9:k = 9
      · subst h9;have:=hg.2;have h1:c.toNat ≤ 1:=by omega
        have h2:c.toNat * 2 ^ (7 * 9) ≤ 1 * 2 ^ (7 * 9):=Nat.mul_le_mul_right _ h1
        simp at hx h2 ⊢;omega
      · have h2:(2:Nat) ^ (7 * k) ≤ 2 ^ 56:=Nat.pow_le_pow_right (by decide) (by omega)
        have h3:c.toNat * 2 ^ (7 * k) ≤ 255 * 2 ^ 56:=Nat.mul_le_mul (by have:=c.toNat_lt;omega) h2
        omega
    · rename_i hc
      have:=c.toNat_lt
      have h1:(c.toNat - 128) * 2 ^ (7 * k) ≤ 127 * 2 ^ (7 * k):=Nat.mul_le_mul_right _ (by omega)
      have h2:(2:Nat) ^ (7 * (k + 1)) = 128 * 2 ^ (7 * k):=by rw [show 7 * (k + 1) = 7 + 7 * k from by omega,Nat.pow_add]
      exact y5m t (k + 1) _ n r (by have:=hg.2;omega) (by omega) h
  · cases h
theorem z9r (B R:Nat) (l:List UInt8) (hl:l.length ≤ 1000000) (w:World) (hr:RdrAt B w R l) :
 Calls Tryz.prog 172 #[.pointer (some ⟨R,0,none⟩)] w (x9k B R ((z2k l).map fun p=>(.int .i64 (p.1:Int),p.2)) w):=by
 cases hN:z7f 0 0 l with
 | none =>
  have hn:Hid (z2k l = none):=by show _ = _;unfold z2k;rw [hN]
  have HN:=hd_ hN;clear hN
  go_enter Tryz.func172,Tryz.ntmps172
  go_wp2_with fail
  refine (z4n B R l hl w hr).mono ?_
  rw [HN.out]
  rintro e w1 ⟨rfl,hg⟩
  exact ⟨rfl,by rw [hn.out];exact And.intro rfl hg⟩
 | some p =>
  obtain ⟨n,r⟩:=p
  have hn64:=hd_ (y5m l 0 0 n r (by decide) (by simp) hN)
  have hlen:=z2q l 0 0 n r hN
  have HN:=hd_ hN;clear hN
  have hwr:IntKind.u64.wrap (r.length:Int) = (r.length:Int):=by rw [IntKind.wrap_u64];omega
  by_cases hnr:n ≤ r.length
  · have hn:Hid (z2k l = some (n,r)):=by show _ = _;unfold z2k;rw [HN.out];simp [hnr]
    go_enter Tryz.func172,Tryz.ntmps172
    go_wp2_with fail
    refine (z4n B R l hl w hr).mono ?_
    rw [HN.out]
    rintro e w1 ⟨rfl,hrd,hg⟩
    obtain ⟨hle,hfr,v,hv,hb⟩:=id hrd
    obtain ⟨oa,cap,rfl,hlc,hcm⟩:=hb.form
    clear hb hlc hcm
    go_wp2_with (go_at_call 118;refine (z5j _ _).mono ?_;rintro e w' ⟨rfl,rfl⟩)
    go_ret
    rw [hn.out]
    exact And.intro rfl (And.intro hrd hg)
  · have hn:Hid (z2k l = none):=by show _ = _;unfold z2k;rw [HN.out];simp [hnr]
    have hd:decide (n ≤ r.length) = false:=by simpa using hnr
    go_enter Tryz.func172,Tryz.ntmps172
    go_wp2_with fail
    refine (z4n B R l hl w hr).mono ?_
    rw [HN.out]
    rintro e w1 ⟨rfl,hrd,hg⟩
    obtain ⟨hle,hfr,v,hv,hb⟩:=id hrd
    obtain ⟨oa,cap,rfl,hlc,hcm⟩:=hb.form
    clear hb hlc hcm
    go_wp2_with (go_at_call 118;refine (z8k _ _).mono ?_;rintro e w' ⟨rfl,rfl⟩)
    exact ⟨rfl,by rw [hn.out];exact And.intro rfl hg⟩
def sgn (u:Nat):Int:=if u % 2 = 0 then ((u / 2:Nat):Int) else -((u / 2:Nat):Int) - 1
theorem y9t (x y:Int):bits BinOp.xor IntKind.i64 x y = bits BinOp.xor IntKind.i64 y x:=by
 show IntKind.i64.wrap _ = IntKind.i64.wrap _
 simp only [BitVec.xor_comm]
theorem y0u (a:Nat) (ha:a < 9223372036854775808):bits BinOp.xor IntKind.i64 (a:Int) 0 = (a:Int):=by
 show IntKind.i64.wrap ((BitVec.ofInt 64 (a:Int) ^^^ BitVec.ofInt 64 0).toNat:Int) = _
 have h1:(BitVec.ofInt 64 (a:Int)).toNat = a:=by
  rw [BitVec.ofInt_natCast,BitVec.toNat_ofNat];exact Nat.mod_eq_of_lt (by omega)
 have h2:BitVec.ofInt 64 0 = 0#64:=by decide
 rw [h2,BitVec.xor_zero,h1,IntKind.wrap_i64];omega
theorem k8h (u:Nat) (hu:u < 18446744073709551616):bits BinOp.xor IntKind.i64 (wrap64 ((u:Int) / 2)) (wrap64 (-wrap64 (bits BinOp.and IntKind.u64 (u:Int) 1))) = sgn u:=by
 have h1:bits BinOp.and IntKind.u64 (u:Int) 1 = ((u % 2:Nat):Int):=by
  have:=bits_and_u64_nat u 1 hu (by omega)
  rw [show ((1:Nat):Int) = 1 from rfl] at this
  rw [this,Nat.and_one_is_mod]
 have h2:wrap64 ((u:Int) / 2) = ((u / 2:Nat):Int):=by unfold wrap64;omega
 rw [h1,h2]
 unfold sgn
 rcases Nat.mod_two_eq_zero_or_one u with h | h
 · rw [h,if_pos rfl]
   rw [show wrap64 (-wrap64 ((0:Nat):Int)) = 0 from by unfold wrap64;omega]
   exact y0u _ (by omega)
 · rw [h,if_neg (by omega)]
   rw [show wrap64 (-wrap64 ((1:Nat):Int)) = -1 from by unfold wrap64;omega,y9t,i64_not _ (by omega)]
   omega
theorem x4p (u:Nat) (hu:Hid (u < 18446744073709551616)) (w:World):Calls Tryz.prog 170 #[.int .u64 u] w fun e w'=>e = .returned (.int .i64 (sgn u))∧w = w':=by
 go_enter Tryz.func170,Tryz.ntmps170
 go_wp2
 go_ret
 refine ⟨congrArg (fun z=>Ending.returned (.int .i64 z)) (k8h u hu.out),rfl⟩
def z3x (f:List UInt8→Option (V × List UInt8)):Nat→List UInt8→Option (List V × List UInt8)
 | 0,l=>some ([],l)
 | n + 1,l=>match z3x f n l with
  | some (xs,r)=>(match f r with | some (x,r')=>some (xs ++ [x],r') | none=>none)
  | none=>none
def rdV:Nat→List UInt8→Option (V × List UInt8)
 | d,l=>match l with
  | []=>none
  | c :: r =>
   if c = 1 then (match z7f 0 0 r with | some (u,r')=>some (.mk 1 (sgn u) ⟨#[]⟩ [],r') | none=>none)
   else if c = 2 then (match z2k r with | some (n,r')=>some (.mk 2 0 ⟨(r'.take n).toArray⟩ [],r'.drop n) | none=>none)
   else if c = 3 then (match d with
    | 0=>none
    | d + 1=>(match z2k r with | some (n,r')=>(match z3x (rdV d) n r' with | some (xs,r'')=>some (.mk 3 0 ⟨#[]⟩ xs,r'') | none=>none) | none=>none))
   else none
def z4x (B R:Nat) (o:Option (V × List UInt8)) (w:World) (e:Ending) (w':World):Prop :=
 match o with
 | some (x,r)=>∃ v,e = .returned v∧x0x (fun k=>w.heap.size ≤ k∧k < w'.heap.size) w' x v∧RdrAt B w' R r∧w.grownBy w' (some R)
 | none=>e = .panicked z8r∧w.grownBy w' (some R)
def x6y (d:Nat):Prop:=∀ (B R:Nat) (l:List UInt8) (di:Int) (_:di = 16 - (d:Int)) (_:l.length ≤ 1000000) (w:World) (_:RdrAt B w R l) (_:R < w.heap.size),
 Calls Tryz.prog 117 #[.pointer (some ⟨R,0,none⟩),.int .i64 di] w (z4x B R (rdV d l) w)
theorem RdrAt.keep {B R:Nat} {w w':World} {l:List UInt8} (h:RdrAt B w R l) (hs:∀ k,k ≤ R→w'.heap[k]? = w.heap[k]?):RdrAt B w' R l:=by
 obtain ⟨hle,hfr,v,hv,hb⟩:=h
 exact ⟨hle,by rw [World.frozen?_of_block (w:=w) (hs R (lR _))];exact hfr,v,by rw [World.cell?_of_block (w:=w) (hs R (lR _))];exact hv,hb.keep (lR _) fun k hk=>hs k (by omega)⟩
structure BoxAt (w:World) (T:Nat) (a b c d:Value):Prop where
 c0:w.cell? ⟨T,0,none⟩ = some a
 c1:w.cell? ⟨T,1,none⟩ = some b
 c2:w.cell? ⟨T,2,none⟩ = some c
 c3:w.cell? ⟨T,3,none⟩ = some d
 fr:∀ o,w.frozen? ⟨T,o,none⟩ = false
theorem BoxAt.grown {w w2:World} {T R:Nat} {a b c d:Value} (h:BoxAt w T a b c d) (hg:w.grownBy w2 (some R)) (hR:R ≠ T):BoxAt w2 T a b c d:=by
 have hne:some T ≠ some R:=fun e=>hR (by injection e with e;exact e.symm)
 have hlt:=World.block_lt_of_cell? w _ h.c0
 exact ⟨hg.cell h.c0 hne,hg.cell h.c1 hne,hg.cell h.c2 hne,hg.cell h.c3 hne,fun o=>by rw [World.frozen?_of_block (w:=w) (hg.block T hlt hne)];exact h.fr o⟩
theorem BoxAt.made (w:World) (t:TypeId) (a b c d:Value):BoxAt (w.alloc (.cells #[a,b,c,d] t)) w.heap.size a b c d :=
 ⟨by simp,by simp,by simp,by simp,fun o=>World.frozen?_alloc_at _ _ _ _ rfl⟩
theorem RdrAt.set {B R T i:Nat} {w:World} {l:List UInt8} {v:Value} (h:RdrAt B w R l) (hT:R < T):RdrAt B (w.setCell ⟨T,i,none⟩ v) R l :=
 h.keep fun k hk=>Below.heap_setCell _ _ _ _ (by show k ≠ T;omega)
theorem y0d (d:Nat):rdV d [] = none:=by cases d <;> simp [rdV]
theorem x5p (d:Nat) (r:List UInt8):rdV d (1 :: r) = match z7f 0 0 r with | some (u,r')=>some (.mk 1 (sgn u) ⟨#[]⟩ [],r') | none=>none:=by cases d <;> simp [rdV]
theorem x6p (d:Nat) (r:List UInt8):rdV d (2 :: r) = match z2k r with | some (n,r')=>some (.mk 2 0 ⟨(r'.take n).toArray⟩ [],r'.drop n) | none=>none:=by cases d <;> simp [rdV]
theorem x7y (r:List UInt8):rdV 0 (3 :: r) = none:=by simp [rdV]
theorem j6m (d:Nat) (r:List UInt8):rdV (d + 1) (3 :: r) = match z2k r with | some (n,r')=>(match z3x (rdV d) n r' with | some (xs,r'')=>some (.mk 3 0 ⟨#[]⟩ xs,r'') | none=>none) | none=>none:=by simp [rdV]
theorem y6m (d:Nat) (c:UInt8) (r:List UInt8) (h1:c ≠ 1) (h2:c ≠ 2) (h3:c ≠ 3):rdV d (c :: r) = none:=by cases d <;> simp [rdV,h1,h2,h3]
theorem z1h (B R:Nat) (c:UInt8) (r:List UInt8) (hl:(c :: r).length ≤ 1000000) (w:World) (hr:RdrAt B w R (c :: r)) (hRw:R < w.heap.size) (ob:Obj) :
 Calls Tryz.prog 169 #[.pointer (some ⟨R,0,none⟩),.int .i64 1] (w.alloc ob) fun e w1 =>
  ∃ b off cap v',e = .returned (.slice (some ⟨b,off,none⟩) 1 cap)∧w1 = (w.alloc ob).setCell ⟨R,0,none⟩ v'∧R ≠ b∧b < w.heap.size∧w.cell? ⟨b,off,none⟩ = some (.int .u8 (c.toNat:Int))∧RdrAt B (w.setCell ⟨R,0,none⟩ v') R r:=by
 have hrA:RdrAt B (w.alloc ob) R (c :: r):=hr.keep fun k hk=>Below.heap_alloc w _ k (by omega)
 refine (y9c B R (c :: r) 1 1 rfl _ hrA (by simp) hl).mono ?_
 rintro e w1 ⟨v,v',rfl,hv,hv',rfl⟩
 have hBR:=hr.le
 have hback:∀ k,k < B→w.heap[k]? = (w.alloc ob).heap[k]?:=fun k hk=>(Below.heap_alloc w _ k (by omega)).symm
 have hv2:=hv'.keep (w':=w) (lR B) hback
 have hv1:=hv.keep (w':=w) (lR B) hback
 rcases hv1 with ⟨h,_⟩ | ⟨_,b,off,cap,rfl,_,_,h4,h5⟩
 · cases h
 · exact ⟨b,off,cap,v',rfl,rfl,by omega,by omega,by simpa using h5 0 c rfl,hr.took (by simpa using hv2)⟩
theorem z3q {l r:List UInt8} {n:Nat} (h:z2k l = some (n,r)):n ≤ r.length∧r.length < l.length:=by
 unfold z2k at h
 cases hN:z7f 0 0 l with
 | none=>rw [hN] at h;cases h
 | some p =>
  obtain ⟨m,t⟩:=p
  rw [hN] at h
  simp only at h
  split at h
  · rename_i hm
    simp at h;obtain ⟨rfl,rfl⟩:=h
    exact ⟨hm,z2q l 0 0 _ _ hN⟩
  · cases h
theorem x8y (u:Nat) (h:u < 18446744073709551616):I64 (sgn u):=by unfold I64 sgn;split <;> omega
theorem x9y (d:Nat) (B R:Nat) (r:List UInt8) (di:Int) (hl:(1 :: r).length ≤ 1000000) (w:World) (hr:RdrAt B w R (1 :: r)) (hRw:R < w.heap.size) :
 Calls Tryz.prog 117 #[.pointer (some ⟨R,0,none⟩),.int .i64 di] w (z4x B R (rdV d (1 :: r)) w):=by
 have HR:=hd_ hr;clear hr
 have hrl:r.length ≤ 1000000:=by simp at hl;omega
 have hv:=hd_ (x5p d r)
 cases hN:z7f 0 0 r with
 | none =>
  have hn:Hid (rdV d (1 :: r) = none):=by show _ = _;rw [hv.out,hN]
  have HN:=hd_ hN;clear hN
  go_enter Tryz.func117,Tryz.ntmps117
  go_wp2_with (first
   | (go_at_call 169;refine (z1h B R 1 r hl w HR.out hRw _).mono ?_;rintro e w1 ⟨b,off,cap,v',rfl,rfl,hbR,hbw,hc,hrd⟩))
  have hszw:(w.setCell ⟨R,0,none⟩ v').heap.size = w.heap.size:=by simp [World.setCell]
  refine (z4n B R r hrl _ (hrd.keep fun k hk=>Below.heap_alloc _ _ k (by omega))).mono ?_
  rw [HN.out]
  rintro e w2 ⟨rfl,hg⟩
  exact ⟨rfl,by rw [hn.out];exact And.intro rfl (z2a (z8a (z5c w R v') _) hg (.inl rfl))⟩
 | some p =>
  obtain ⟨u,r'⟩:=p
  have hn:Hid (rdV d (1 :: r) = some (.mk 1 (sgn u) ⟨#[]⟩ [],r')):=by show _ = _;rw [hv.out,hN]
  have hu64:=hd_ (y5m r 0 0 u r' (by decide) (by simp) hN)
  have HN:=hd_ hN;clear hN
  go_enter Tryz.func117,Tryz.ntmps117
  go_wp2_with (first
   | (go_at_call 169;refine (z1h B R 1 r hl w HR.out hRw _).mono ?_;rintro e w1 ⟨b,off,cap,v',rfl,rfl,hbR,hbw,hc,hrd⟩))
  have hszw:(w.setCell ⟨R,0,none⟩ v').heap.size = w.heap.size:=by simp [World.setCell]
  refine (z4n B R r hrl _ (hrd.keep fun k hk=>Below.heap_alloc _ _ k (by omega))).mono ?_
  rw [HN.out]
  rintro e w2 ⟨rfl,hrd2,hg⟩
  have hbx:=(BoxAt.made (w.setCell ⟨R,0,none⟩ v') 80 (.int .i64 1) (.int .i64 0) (.string ⟨#[]⟩) (.slice none 0 0)).grown hg (by omega)
  rw [hszw] at hbx
  obtain ⟨x0,x1,x2,x3,xf⟩:=hbx
  have hgw:w.grownBy w2 (some R):=z2a (z8a (z5c w R v') _) hg (.inl rfl)
  have hszw2:=hgw.size
  clear hg
  go_wp2_with (first | (go_at_call 170;refine (x4p u hu64 _).mono ?_;rintro e w' ⟨rfl,rfl⟩))
  have hI:=hd_ (x8y u hu64.out)
  refine bodyPost_ret (v:=.agg #[.int .i64 1,.int .i64 (sgn u),.string ⟨#[]⟩,.slice none 0 0]) (by simp [results,Tryz.results117,go_sem,x0,x1,x2,x3]) rfl ?_
  rw [hn.out]
  exact ⟨_,rfl,⟨by show I64 1;unfold I64;omega,hI.out,Nat.zero_le maxLen,_,rfl,.inl ⟨rfl,none,0,rfl⟩⟩,by repeat (first | exact hrd2 | refine RdrAt.set ?_ hRw),by repeat (first | exact hgw | refine z1b ?_ (lR _))⟩
theorem x0z (d:Nat) (B R:Nat) (r:List UInt8) (di:Int) (hl:(2 :: r).length ≤ 1000000) (w:World) (hr:RdrAt B w R (2 :: r)) (hRw:R < w.heap.size) :
 Calls Tryz.prog 117 #[.pointer (some ⟨R,0,none⟩),.int .i64 di] w (z4x B R (rdV d (2 :: r)) w):=by
 have HR:=hd_ hr;clear hr
 have hrl:r.length ≤ 1000000:=by simp at hl;omega
 have hv:=hd_ (x6p d r)
 cases hN:z2k r with
 | none =>
  have hn:Hid (rdV d (2 :: r) = none):=by show _ = _;rw [hv.out,hN]
  have HN:=hd_ hN;clear hN
  go_enter Tryz.func117,Tryz.ntmps117
  go_wp2_with (first
   | (go_at_call 169;refine (z1h B R 2 r hl w HR.out hRw _).mono ?_;rintro e w1 ⟨b,off,cap,v',rfl,rfl,hbR,hbw,hc,hrd⟩))
  have hszw:(w.setCell ⟨R,0,none⟩ v').heap.size = w.heap.size:=by simp [World.setCell]
  refine (z9r B R r hrl _ (hrd.keep fun k hk=>Below.heap_alloc _ _ k (by omega))).mono ?_
  rw [HN.out]
  rintro e w2 ⟨rfl,hg⟩
  exact ⟨rfl,by rw [hn.out];exact And.intro rfl (z2a (z8a (z5c w R v') _) hg (.inl rfl))⟩
 | some p =>
  obtain ⟨n,r'⟩:=p
  have hn:Hid (rdV d (2 :: r) = some (.mk 2 0 ⟨(r'.take n).toArray⟩ [],r'.drop n)):=by show _ = _;rw [hv.out,hN]
  have hlen:=z3q hN
  have HN:=hd_ hN;clear hN
  go_enter Tryz.func117,Tryz.ntmps117
  go_wp2_with (first
   | (go_at_call 169;refine (z1h B R 2 r hl w HR.out hRw _).mono ?_;rintro e w1 ⟨b,off,cap,v',rfl,rfl,hbR,hbw,hc,hrd⟩))
  have hszw:(w.setCell ⟨R,0,none⟩ v').heap.size = w.heap.size:=by simp [World.setCell]
  refine (z9r B R r hrl _ (hrd.keep fun k hk=>Below.heap_alloc _ _ k (by omega))).mono ?_
  rw [HN.out]
  rintro e w2 ⟨rfl,hrd2,hg⟩
  have hbx:=(BoxAt.made (w.setCell ⟨R,0,none⟩ v') 80 (.int .i64 2) (.int .i64 0) (.string ⟨#[]⟩) (.slice none 0 0)).grown hg (by omega)
  rw [hszw] at hbx
  have hgw:w.grownBy w2 (some R):=z2a (z8a (z5c w R v') _) hg (.inl rfl)
  clear hg hc hrd
  go_wp2_with (first | (go_at_call 169;refine (y9c B R r' n _ rfl _ hrd2 hlen.1 (by omega)).mono ?_;rintro e w3 ⟨v3,v4,rfl,hv3,hv4,rfl⟩))
  have hcv:=z1y (P:=Tryz.prog) Tryz.underlying50 Tryz.underlying5 Tryz.underlying9 (hv3.keep (w':=w2.setCell ⟨R,0,none⟩ v4) (lR B) fun k hk=>Below.heap_setCell _ _ _ _ (by have:=hrd2.le;show k ≠ R;omega))
  obtain ⟨x0,x1,x2,x3,xf⟩:=hbx.grown (z5c w2 R v4) (by omega)
  have hrd3:=hrd2.took hv4
  have hgw3:=z2a hgw (z5c w2 R v4) (.inl rfl)
  clear hv3 hv4 hbx hgw hrd2
  rw [hcv]
  clear hcv
  generalize w2.setCell ⟨R,0,none⟩ v4 = w3 at *
  have hsz3:=hgw3.size
  go_wp2
  refine bodyPost_ret (v:=.agg #[.int .i64 2,.int .i64 0,.string ⟨(List.take n r').toArray⟩,.slice none 0 0]) (by simp [results,Tryz.results117,go_sem,x0,x1,x2,x3]) rfl ?_
  rw [hn.out]
  exact ⟨_,rfl,⟨by show I64 2;unfold I64;omega,by show I64 0;unfold I64;omega,by show (List.take n r').toArray.size ≤ maxLen;simp;unfold maxLen;omega,_,rfl,.inl ⟨rfl,none,0,rfl⟩⟩,by repeat (first | exact hrd3 | refine RdrAt.set ?_ hRw),by repeat (first | exact hgw3 | refine z1b ?_ (lR _))⟩
theorem x1z (d:Nat) (B R:Nat) (c:UInt8) (r:List UInt8) (di:Int) (hl:(c :: r).length ≤ 1000000) (w:World) (hr:RdrAt B w R (c :: r)) (hRw:R < w.heap.size) (h1:c ≠ 1) (h2:c ≠ 2) (h3:c ≠ 3) :
 Calls Tryz.prog 117 #[.pointer (some ⟨R,0,none⟩),.int .i64 di] w (z4x B R (rdV d (c :: r)) w):=by
 have HR:=hd_ hr;clear hr
 have hn:=hd_ (y6m d c r h1 h2 h3)
 have n1:((c.toNat:Int) == 1) = false:=by rw [beq_eq_false_iff_ne];intro h;exact h1 (UInt8.toNat_inj.1 (by simpa using (by omega:c.toNat = 1)))
 have n2:((c.toNat:Int) == 2) = false:=by rw [beq_eq_false_iff_ne];intro h;exact h2 (UInt8.toNat_inj.1 (by simpa using (by omega:c.toNat = 2)))
 have n3:((c.toNat:Int) == 3) = false:=by rw [beq_eq_false_iff_ne];intro h;exact h3 (UInt8.toNat_inj.1 (by simpa using (by omega:c.toNat = 3)))
 clear h1 h2 h3
 have hcb:(c.toNat:Int) ≤ 255:=by have:=c.toNat_lt;omega
 go_enter Tryz.func117,Tryz.ntmps117
 go_wp2_with (first
  | (go_at_call 169;refine (z1h B R c r hl w HR.out hRw _).mono ?_;rintro e w1 ⟨b,off,cap,v',rfl,rfl,hbR,hbw,hc,hrd⟩))
 refine (z8k _ _).mono ?_
 rintro e w' ⟨rfl,rfl⟩
 exact ⟨rfl,by rw [hn.out];exact And.intro rfl (z8a (z5c w R v') _)⟩
end Go.Proofs.YtdblnbnofjggnaaGreatDoor
