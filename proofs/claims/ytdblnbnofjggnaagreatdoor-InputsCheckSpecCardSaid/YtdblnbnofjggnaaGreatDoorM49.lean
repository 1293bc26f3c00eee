/- Parts of the proofs of chapter 49's laws: Fre Frs Fsc Shs Fsp Rpo Spu. -/
import Derived.Test.YtdblnbnofjggnaaGreatDoorM27
import Derived.Test.YtdblnbnofjggnaaGreatDoorM48
import Derived.StillTailTactics
import Derived.Deep.QuietTactic
import Derived.BigQuiet
import Derived.Test.YtdblnbnofjggnaaGreatDoorM23
set_option maxHeartbeats 2000000
set_option maxRecDepth 100000
open Go
open Lib renaming hid → hd_
open List renaming getElem?_eq_getElem → gE
open Nat renaming le_refl → lR
namespace Go.Proofs.YtdblnbnofjggnaaGreatDoor
open Go.RowKit
def cM:Nat:=2305843009213688668
theorem j0p:Lib.bitLen cM + 3 = 64:=by decide +kernel
def y1h (n:Nat) (b:UInt8):Nat:=(256 * n + b.toNat) % cM
theorem k6t (n:Nat) (b:UInt8):bits BinOp.or .u64 (IntKind.u64.wrap ((n:Int) * 256)) (IntKind.u64.wrap (b.toNat:Int)) = ((n * 256 % 18446744073709551616 + b.toNat:Nat):Int):=by
 have hb:=b.toNat_lt
 have e1:IntKind.u64.wrap ((n:Int) * 256) = ((n * 256 % 18446744073709551616:Nat):Int):=by
  have:=y0a (n * 256)
  rw [Int.natCast_mul] at this;exact this
 have e2:IntKind.u64.wrap (b.toNat:Int) = ((b.toNat:Nat):Int):=Go.Proofs.Mul64.wrapN _ (by omega)
 rw [e1,e2]
 have hA:n * 256 % 18446744073709551616 = (n % 72057594037927936) * 2 ^ 8:=by omega
 have ho:=j0r (n * 256 % 18446744073709551616) b.toNat 8 (n % 72057594037927936) hA (by omega)
 have hbo:=bits_or_u64_nat (n * 256 % 18446744073709551616) b.toNat (Nat.mod_lt _ (by decide)) (by omega)
 rw [hbo,ho]
theorem j1p (n:Nat) (b:UInt8) (hn:n < cM):n / 72057594037927936 < cM∧n * 256 % 18446744073709551616 + b.toNat < 18446744073709551616∧(n / 72057594037927936 * 18446744073709551616 + (n * 256 % 18446744073709551616 + b.toNat)) % cM = y1h n b:=by
 have hb:=b.toNat_lt
 unfold cM at *
 refine ⟨by omega,by omega,?_⟩
 unfold y1h cM
 congr 1;omega
theorem j2p (b:UInt8) (N M n:Nat) (w:World) (hn:n < cM) (hN:w.cell? ⟨N,0,none⟩ = some (.int .u64 n)) (hM:w.cell? ⟨M,0,none⟩ = some (.int .u64 (cM:Int))) (hf:w.frozen? ⟨N,0,none⟩ = false) :
 Calls Tryz.prog 208 #[.int .u8 b.toNat,.pointer (some ⟨N,0,none⟩),.pointer (some ⟨M,0,none⟩)] w fun e w'=>e = .returned (.tuple #[])∧w'.cell? ⟨N,0,none⟩ = some (.int .u64 (y1h n b:Nat))∧w'.frozen? ⟨N,0,none⟩ = false∧w.grownBy w' (some N):=by
 obtain ⟨h1,h2,h3⟩:=j1p n b hn
 have e0:(n:Int) / 72057594037927936 = ((n / 72057594037927936:Nat):Int):=by omega
 have e1:=k6t n b
 obtain ⟨hi,hhi⟩:∃ hi,n / 72057594037927936 = hi:=⟨_,rfl⟩
 obtain ⟨lo,hlo⟩:∃ lo,n * 256 % 18446744073709551616 + b.toNat = lo:=⟨_,rfl⟩
 obtain ⟨m,hm⟩:∃ m,cM = m:=⟨_,rfl⟩
 obtain ⟨r,hr⟩:∃ r,y1h n b = r:=⟨_,rfl⟩
 rw [hhi] at h1 h3 e0;rw [hlo] at h2 h3 e1;rw [hr] at h3 ⊢
 have H1:=hd_ h1;have H2:=hd_ h2;have H3:=hd_ h3
 have hcont:=hd_ (y2b hi lo cM 3 j0p (by decide) (by decide) (by decide) (by decide) h1 h2)
 rw [hm] at hM hcont H3
 clear h1 h2 h3 hhi hlo hr hm H1 H2 hn
 go_enter Tryz.func208,Tryz.ntmps208
 go_wp2_with fail
 refine (hcont.out _).mono ?_
 rw [H3.out]
 generalize (hi * 18446744073709551616 + lo) / m = qq
 rintro e w1 ⟨rfl,hb1⟩
 have hNl:=World.block_lt_of_cell? w _ hN
 have c1:=(hb1.cell (p:=⟨N,0,none⟩) hNl).trans hN
 have f1:=(hb1.frozen (p:=⟨N,0,none⟩) hNl).trans hf
 have HB1:=hd_ hb1
 clear hb1
 go_wp2
 go_end0
 refine ⟨rfl,World.cell?_setCell_same _ _ _ c1,by rw [World.frozen?_setCell];exact f1,?_⟩
 exact z5d ⟨HB1.out.os,HB1.out.tape,HB1.out.output,HB1.out.size,fun k hk _=>HB1.out.block k hk⟩
theorem k7t (l:List UInt8) (hl:l.length = 32) (k:Nat) (c:UInt8) (hc:l[k]? = some c) (w:World):(Instr.index 165 (dv l) (.int .i64 (k:Int))).run Tryz.prog w = .ok (.int .u8 (c.toNat:Int)) w:=by
 obtain ⟨i,hi,hz,hs,hby⟩:=info_parts (P:=Tryz.prog) (e:=5) (z:=.int .u8 0) (size:=1) (bytes:=1) (by kernel_rfl)
 have hk:k < 32:=by have:=(List.getElem?_eq_some_iff.1 hc).1;omega
 have hu:=Tryz.underlying165
 have hcc:(z5a l)[k]? = some (.int .u8 (c.toNat:Int)):=by simp [z5a,hc]
 have hk2:((k:Int) < 32):=by omega
 unfold dv
 simp [Instr.index,asIntOf,run_underlying hu,sizeOf,typeInfo,hi,hs,hk,part,hcc]
def z6u (l:List UInt8):Nat:=l.foldl y1h 0
theorem j3p (n:Nat) (b:UInt8):y1h n b < cM:=Nat.mod_lt _ (by decide)
theorem z5w (l:List UInt8):z6u l < cM:=by
 unfold z6u
 rcases List.eq_nil_or_concat l with rfl | ⟨p,c,rfl⟩
 · decide
 · rw [List.concat_eq_append,List.foldl_append];exact j3p _ _
theorem y5k (l:List UInt8) (k:Nat) (c:UInt8) (hc:l[k]? = some c):z6u (l.take (k + 1)) = y1h (z6u (l.take k)) c:=by
 unfold z6u
 obtain ⟨h1,h2⟩:=List.getElem?_eq_some_iff.1 hc
 rw [List.take_succ_eq_append_getElem h1,h2,List.foldl_append];rfl
def k3c (l:List UInt8) (N:Nat) (w:World) (i:Value) (wr:World):Prop :=
 ∃ k:Nat,k ≤ 32∧i = .int .i64 k∧wr.cell? ⟨N,0,none⟩ = some (.int .u64 (z6u (l.take k):Nat))∧wr.frozen? ⟨N,0,none⟩ = false∧w.grownBy wr (some N)
theorem j8h (l:List UInt8) (hl:l.length = 32) (mi:Int) (hmi:mi = (cM:Int)) (w:World) :
 Calls Tryz.prog 198 #[dv l,.int .u64 mi] w fun e w'=>e = .returned (.int .u64 (z6u l:Nat))∧Below w.heap.size w w':=by
 have hmf:∀ (fn:Fn) (first cap:Array Value) (w:World),(Instr.makeFunc fn first cap).run Tryz.prog w = .ok (.func fn first cap) w:=fun _ _ _ _=>rfl
 have hl':=hd_ hl
 obtain ⟨m,hm⟩:∃ m,cM = m:=⟨_,rfl⟩
 rw [hm] at hmi
 subst hmi
 have Hm:=hd_ hm
 clear hl hm
 have hA:Hid (CB (((w.alloc (.cells (z5a l).toArray 165)).alloc (.cells #[.int .u64 m] 183)).alloc (.cells #[.int .u64 0] 183)) w.heap.size 165 (z5a l)):=(Below.heap_alloc _ _ _ (by simp;omega)).trans ((Below.heap_alloc _ _ _ (by simp)).trans (heap_alloc_new w _))
 have hG:=hd_ (z8a (G:=none) (z8a (z8a (z7b w _) (.cells (z5a l).toArray 165)) (.cells #[.int .u64 m] 183)) (.cells #[.int .u64 0] 183))
 have cM':(((w.alloc (.cells (z5a l).toArray 165)).alloc (.cells #[.int .u64 m] 183)).alloc (.cells #[.int .u64 0] 183)).cell? ⟨w.heap.size + 1,0,none⟩ = some (.int .u64 m):=by
  have h:=heap_alloc_new (w.alloc (.cells (z5a l).toArray 165)) (.cells #[.int .u64 m] 183)
  rw [World.size_alloc] at h
  have hcb:CB (((w.alloc (.cells (z5a l).toArray 165)).alloc (.cells #[.int .u64 m] 183)).alloc (.cells #[.int .u64 0] 183)) (w.heap.size + 1) 183 [.int .u64 m]:=(Below.heap_alloc _ _ _ (by simp)).trans h
  exact hcb.cell 0
 have cN:(((w.alloc (.cells (z5a l).toArray 165)).alloc (.cells #[.int .u64 m] 183)).alloc (.cells #[.int .u64 0] 183)).cell? ⟨w.heap.size + 1 + 1,0,none⟩ = some (.int .u64 0)∧(((w.alloc (.cells (z5a l).toArray 165)).alloc (.cells #[.int .u64 m] 183)).alloc (.cells #[.int .u64 0] 183)).frozen? ⟨w.heap.size + 1 + 1,0,none⟩ = false:=by
  have h:=heap_alloc_new ((w.alloc (.cells (z5a l).toArray 165)).alloc (.cells #[.int .u64 m] 183)) (.cells #[.int .u64 0] 183)
  rw [World.size_alloc,World.size_alloc] at h
  have hcb:CB (((w.alloc (.cells (z5a l).toArray 165)).alloc (.cells #[.int .u64 m] 183)).alloc (.cells #[.int .u64 0] 183)) (w.heap.size + 1 + 1) 183 [.int .u64 0]:=h
  exact ⟨hcb.cell 0,hcb.frozen 0⟩
 have HcM:=hd_ cM';have HcN:=hd_ cN
 clear cM' cN
 change Calls Tryz.prog 198 #[.agg (z5a l).toArray,.int .u64 m] w _
 go_enter Tryz.func198,Tryz.ntmps198
 go_wp2_with (with_reducible refine z8v (hgd:=rfl) 165 (.tmp 2) rfl w.heap.size l hl'.out rfl 165 _ hA.out Tryz.underlying165 rfl z3n ?_)
 generalize (((w.alloc (.cells (z5a l).toArray 165)).alloc (.cells #[.int .u64 m] 183)).alloc (.cells #[.int .u64 0] 183)) = w0 at *
 obtain ⟨d,hd⟩:∃ d,dv l = d:=⟨_,rfl⟩
 rw [hd]
 have hidx:=hd_ (fun k c hc w=>k7t l hl'.out k c hc w)
 rw [hd] at hidx
 clear hd
 go_loopw [10] (fun i wr=>k3c l (w.heap.size + 1 + 1) w0 i wr) (fun i _=>32 - (intOf i).toNat)
 case atStart=>exact ⟨0,by omega,rfl,HcN.out.1,HcN.out.2,z7b _ _⟩
 case round =>
  obtain ⟨k,hk,rfl,hc,hf,hg⟩:=hrel
  have HG:=hd_ hg
  by_cases hlt:k < 32
  · have tk:decide ((k:Int) < 32) = true:=by simp;omega
    obtain ⟨c,hck⟩:∃ c,l[k]? = some c:=⟨_,gE (by rw [hl'.out];exact hlt)⟩
    have hix:=hidx.out k c hck
    have hst:=hd_ (y5k l k c hck)
    obtain ⟨n,hn⟩:∃ n,z6u (l.take k) = n:=⟨_,rfl⟩
    have hnl:n < cM:=by rw [← hn];exact z5w _
    rw [hn] at hc hst
    have hMr:wr.cell? ⟨w.heap.size + 1,0,none⟩ = some (.int .u64 (cM:Int)):=by rw [Hm.out];exact hg.cell (a:=⟨w.heap.size + 1,0,none⟩) HcM.out (by simp)
    have HMr:=hd_ hMr;have Hnl:=hd_ hnl
    clear hg hck hn hMr hnl
    go_wp2_with fail
    refine (j2p c (w.heap.size + 1 + 1) (w.heap.size + 1) n wr Hnl.out hc HMr.out hf).mono ?_
    rintro e w1 ⟨rfl,hc1,hf1,hg1⟩
    have HC1:=hd_ hc1;have HF1:=hd_ hf1;have HG1:=hd_ hg1
    clear hc1 hf1 hg1
    go_wp2_with fail
    go_roundw
    case rel=>exact ⟨k + 1,by omega,by go_num,by rw [hst.out];exact HC1.out,HF1.out,z2a HG.out HG1.out (.inl rfl)⟩
    case measure=>simp [intOf];omega
  · have hk32:k = 32:=by omega
    have tk:decide ((k:Int) < 32) = false:=by simp;omega
    rw [hk32,List.take_of_length_le (by rw [hl'.out];exact lR _)] at hc
    obtain ⟨n,hn⟩:∃ n,z6u l = n:=⟨_,rfl⟩
    rw [hn] at hc
    have Hn:=hd_ hn
    have hgw:=hd_ (z2a hG.out hg (.inr fun g hg=>by injection hg;omega))
    clear hg hn hk32
    go_wp2
    refine bodyPost_ret (v:=.int .u64 n) (by simp [results,Tryz.results198,go_sem,hc]) rfl ?_
    exact ⟨by rw [Hn.out],(z5i hgw.out).setCell (by simp;omega) _⟩
def z2p (t l:List UInt8):Nat:=1 + z6u (z0q t l)
theorem x4u (s:ByteArray) (v:Value) (l:List UInt8) (w:World) (hs:s.size ≤ 100000) (hl:l.length ≤ 100000) (hb:z9c w.heap.size w l v) (hL:Laid w) :
 Calls Tryz.prog 176 #[.string s,v] w fun e w'=>e = .returned (.int .i64 (z2p s.data.toList l:Nat))∧Below w.heap.size w w':=by
 have HB:=hd_ hb;have HL:=hd_ hL
 obtain ⟨oa,cap,rfl⟩:=hb.shape
 clear hb hL
 obtain ⟨d,hd⟩:∃ d,z0q s.data.toList l = d:=⟨_,rfl⟩
 have hdl:=hd_ (z6i s.data.toList l)
 rw [hd] at hdl
 have Hd:=hd_ hd
 obtain ⟨n,hn⟩:∃ n,z6u d = n:=⟨_,rfl⟩
 have hnl:n < 2305843009213688668:=by rw [← hn];exact z5w d
 have e1:wrap64 (n:Int) = (n:Int):=by unfold wrap64;omega
 have e3:wrap64 (1 + (n:Int)) = ((1 + n:Nat):Int):=by unfold wrap64;omega
 have Hn:=hd_ hn;have Hnl:=hd_ hnl
 have hfin:Hid (z2p s.data.toList l = 1 + n):=by show z2p s.data.toList l = 1 + n;unfold z2p;rw [hd,hn]
 clear hd hn hnl
 go_enter Tryz.func176,Tryz.ntmps176
 go_wp2_with fail
 refine (y8i s _ l _ hs hl HB.out HL.out).mono ?_
 rw [Hd.out]
 rintro e w1 ⟨rfl,hb1⟩
 go_wp2_with fail
 refine (j8h d hdl.out _ rfl _).mono ?_
 rw [Hn.out]
 rintro e w2 ⟨rfl,hb2⟩
 have HB2:=hd_ (z0a hb1 hb2)
 clear hb1 hb2
 go_wp2
 go_ret
 refine ⟨?_,HB2.out⟩
 show Ending.returned (.int .i64 (wrap64 (1 + (n:Int)))) = _
 rw [e3,hfin.out]
def j4p (l:List UInt8) (w:World) (v i:Value) (wr:World):Prop :=
 ∃ k j:Nat,k ≤ 32∧i = .int .i64 k∧v = .int .i64 (z6u (l.take k):Nat)∧wr = w.drewN j
theorem y7p (a b m r:Nat) (ha:Hid (a < m)) (hb:Hid (b < m)) (hm:Hid (m ≤ 4611686018427387904)) (hr:Hid (a * b % m = r)) (w:World) :
 Calls Tryz.prog 185 #[.int .i64 a,.int .i64 b,.int .i64 m] w fun e w'=>e = .returned (.int .i64 r)∧w' = w:=(z9i a b m r ha hb hm hr w).mono fun _ _ h=>⟨h.1,h.2.symm⟩
theorem j9h (l:List UInt8) (hl:l.length = 32) (mi:Int) (hmi:mi = (cM:Int)) (w:World) :
 Calls Tryz.prog 183 #[dv l,.int .i64 mi] w fun e w'=>e = .returned (.int .i64 (z6u l:Nat))∧Below w.heap.size w w':=by
 obtain ⟨m,hm⟩:∃ m,cM = m:=⟨_,rfl⟩
 rw [hm] at hmi
 subst hmi
 have Hm:=hd_ hm
 have hl':=hd_ hl
 clear hl hm
 have hA:Hid (CB (w.alloc (.cells (z5a l).toArray 165)) w.heap.size 165 (z5a l)):=heap_alloc_new w _
 have hG:=hd_ (z8a (G:=none) (z7b w _) (.cells (z5a l).toArray 165))
 change Calls Tryz.prog 183 #[.agg (z5a l).toArray,.int .i64 m] w _
 go_enter Tryz.func183,Tryz.ntmps183
 go_wp2
 generalize w.alloc (.cells (z5a l).toArray 165) = w0 at *
 go_loopw [5,6] (fun v i wr=>j4p l w0 v i wr) (fun _ i _=>32 - (intOf i).toNat)
 case atStart=>exact ⟨0,0,by omega,rfl,rfl,rfl⟩
 case round =>
  obtain ⟨k,j,hk,rfl,rfl,rfl⟩:=hrel
  obtain ⟨n,hn⟩:∃ n,z6u (l.take k) = n:=⟨_,rfl⟩
  have hnl:n < cM:=by rw [← hn];exact z5w _
  rw [hn]
  by_cases hlt:k < 32
  · have tk:decide ((k:Int) < 32) = true:=by simp;omega
    obtain ⟨c,hck⟩:∃ c,l[k]? = some c:=⟨_,gE (by rw [hl'.out];exact hlt)⟩
    have cc:(w0.drewN j).cell? ⟨w.heap.size,k,none⟩ = some (.int .u8 (c.toNat:Int)):=(hA.out.cell k).trans (by simp [z5a,hck])
    have hst:=hd_ (y5k l k c hck)
    rw [hn] at hst
    obtain ⟨r,hr⟩:∃ r,256 * n % m = r:=⟨_,rfl⟩
    have hmv:m = 2305843009213688668:=by rw [← Hm.out];rfl
    have hrl:r < m:=by rw [← hr];exact Nat.mod_lt _ (by omega)
    have hcl:=c.toNat_lt
    obtain ⟨x,hx⟩:∃ x,c.toNat = x:=⟨_,rfl⟩
    rw [hx] at cc hcl
    have e1:IntKind.i64.wrap (x:Int) = (x:Int):=IntWalk.i64_in _ (by omega)
    have e2:IntKind.i64.wrap ((r:Int) + (x:Int)) = ((r + x:Nat):Int):=by rw [IntWalk.i64_in _ (by omega)];omega
    obtain ⟨y,hy⟩:∃ y,r + x = y:=⟨_,rfl⟩
    rw [hy] at e2
    obtain ⟨z,hz⟩:∃ z,y % m = z:=⟨_,rfl⟩
    have hzf:Hid (y1h n c = z):=by
     show y1h n c = z
     unfold y1h;rw [Hm.out,← hz,← hy,← hr,hx,Nat.mod_add_mod]
    have e3:(y:Int).tmod (m:Int) = (z:Int):=by rw [← hz];rfl
    have hm0:((m:Int) == 0) = false:=by rw [beq_eq_false_iff_ne];omega
    have hm1:¬ ((m:Int) = 0):=by omega
    have h1:Hid (256 < m):=by show _ < _;omega
    have h2:Hid (n < m):=by show n < m;rw [← Hm.out];exact hnl
    have h3:Hid (m ≤ 4611686018427387904):=by show _ ≤ _;omega
    have h4:=hd_ hr
    have n6:(k:Int) < 32:=by omega
    clear hck hn hnl hr hmv hrl hcl hx hy hz
    generalize hwj:w0.drewN j = w5 at *
    have Hwj:=hd_ hwj
    clear hwj
    go_wp2
    go_quiet ((go_at_call 185;exact Calls.quiet_of_same (y7p 256 n m r h1 h2 h3 h4 _)))
    go_wp2
    go_roundw
    case rel=>exact ⟨k + 1,j + nq,by omega,by go_num,by rw [hst.out,hzf.out],by rw [← Hwj.out,World.drewN_drewN]⟩
    case measure=>simp [intOf];omega
  · have hk32:k = 32:=by omega
    have tk:decide ((k:Int) < 32) = false:=by simp;omega
    rw [hk32,List.take_of_length_le (by rw [hl'.out];exact lR _)] at hn
    have Hn:=hd_ hn
    have hbx:=hd_ (z0u (z5i hG.out) j)
    clear hn hnl hk32
    go_wp2
    go_ret
    exact ⟨by rw [Hn.out];rfl,hbx.out⟩
theorem y9f (s:ByteArray) (v:Value) (l:List UInt8) (w:World) (hs:s.size ≤ 100000) (hl:l.length ≤ 100000) (hb:z9c w.heap.size w l v) :
 Calls Tryz.prog 135 #[.string s,v] w fun e w'=>e = .returned (.int .i64 (z2p s.data.toList l:Nat))∧Below w.heap.size w w':=by
 have HB:=hd_ hb
 obtain ⟨oa,cap,rfl⟩:=hb.shape
 clear hb
 obtain ⟨d,hd⟩:∃ d,z0q s.data.toList l = d:=⟨_,rfl⟩
 have hdl:=hd_ (z6i s.data.toList l)
 rw [hd] at hdl
 have Hd:=hd_ hd
 obtain ⟨n,hn⟩:∃ n,z6u d = n:=⟨_,rfl⟩
 have hnl:n < 2305843009213688668:=by rw [← hn];exact z5w d
 have e3:wrap64 (1 + (n:Int)) = ((1 + n:Nat):Int):=by unfold wrap64;omega
 have Hn:=hd_ hn
 have hfin:Hid (z2p s.data.toList l = 1 + n):=by show z2p s.data.toList l = 1 + n;unfold z2p;rw [hd,hn]
 clear hd hn hnl
 go_enter Tryz.func135,Tryz.ntmps135
 go_wp2_with fail
 refine (y6d s _ l _ hs hl HB.out).mono ?_
 rw [Hd.out]
 rintro e w1 ⟨rfl,hb1⟩
 go_wp2_with fail
 refine (j9h d hdl.out _ rfl _).mono ?_
 rw [Hn.out]
 rintro e w2 ⟨rfl,hb2⟩
 have HB2:=hd_ (z0a hb1 hb2)
 clear hb1 hb2
 go_wp2
 go_ret
 refine ⟨?_,HB2.out⟩
 show Ending.returned (.int .i64 (wrap64 (1 + (n:Int)))) = _
 rw [e3,hfin.out]
section
open Go.RowKit
def u64 (n:Int):Nat:=(IntKind.u64.wrap n).toNat
theorem x3n (n:Int):IntKind.u64.wrap n = (u64 n:Int):=by
 have h:0 ≤ IntKind.u64.wrap n:=by simp only [IntKind.wrap_u64];omega
 unfold u64;omega
def b8 (n:Int):List UInt8:=be 8 (u64 n)
theorem x4n (n:Int):(b8 n).length = 8:=z4p _ _
theorem k4n (u j:Nat) (h:j < 8) (c:UInt8) (hc:(be 8 u)[j]? = some c):(u:Int) / 2 ^ (8 * (7 - j)) % 256 = (c.toNat:Int):=by
 have h1:=x0j 8 u (7 - j) (by omega)
 rw [show 8 - 1 - (7 - j) = j by omega] at h1
 simp only [z5a,List.getElem?_map,hc,Option.map_some,Option.some.injEq,Value.int.injEq,true_and] at h1
 exact h1.symm
theorem z8x (n:Int) (w:World) :
 Calls Tryz.prog 136 #[.int .i64 n] w fun e w'=>∃ v',e = .returned v'∧z0k 5 w' w.heap.size v' (b8 n)∧Below w.heap.size w w':=by
 obtain ⟨u,hu⟩:∃ u,u64 n = u:=⟨_,rfl⟩
 have e0:IntKind.u64.wrap n = (u:Int):=by rw [x3n,hu]
 have Hu:=hd_ hu
 clear hu
 have hO:=hd_ (y7m w)
 have hB:=hd_ ((Below.refl w.heap.size w).alloc (lR _) (.cells #[] 5))
 go_enter Tryz.func136,Tryz.ntmps136
 go_wp2
 go_loopw [3,4] (fun v i wr=>k9h w [] (be 8 u) v i wr) (fun _ i _=>(intOf i + 1).toNat)
 case atStart=>exact ⟨0,Nat.zero_le _,rfl,by rw [List.take_zero,List.append_nil];have h:=hO.out;exact h,hB.out⟩
 case round =>
  obtain ⟨j,hj,rfl,ho,hb⟩:=hrel
  obtain ⟨oa4,cp4,rfl⟩:=z0k.form ho
  have hbl:(be 8 u).length = 8:=z4p _ _
  have HO4:=hd_ ho;have HB4:=hd_ hb
  have hlt4:=hd_ (fun g hg=>(World.ownsRow.lt ho g hg).1)
  obtain ⟨q,hq⟩:∃ q,[] ++ (be 8 u).take j = q:=⟨_,rfl⟩
  have hql:q.length = j:=by rw [← hq,List.nil_append,List.length_take,hbl];omega
  rw [hq] at HO4 hlt4 ⊢
  rw [hql] at HO4 hlt4 ⊢
  have Hq:=hd_ hq;have Hql:=hd_ hql
  clear ho hb hq hql
  by_cases h8:j < 8
  · have tk:decide ((0:Int) ≤ 7 - (j:Int)) = true:=by simp;omega
    have tk2:(0:Int) ≤ 7 - (j:Int):=by omega
    have tk3:(7:Int) - (j:Int) ≤ 7:=by omega
    have tk4:(j:Int) ≤ 7:=by omega
    have e5:((8:Int) * (7 - (j:Int))).toNat = 8 * (7 - j):=by omega
    have e6:wrap64 (7 - (j:Int) - 1) = 7 - ((j + 1:Nat):Int):=by unfold wrap64;omega
    obtain ⟨c,hc⟩:∃ c,(be 8 u)[j]? = some c:=⟨_,gE (by omega)⟩
    have hxi:=hd_ (k4n u j h8 c hc)
    have htk:=hd_ (x4d _ j c hc)
    have hw1:=hd_ (HO4.out.alloc (.cells #[.int .u8 ((u:Int) / 2 ^ (8 * (7 - j)) % 256)] 5));have hw2:=hd_ (HB4.out.alloc HB4.out.size (.cells #[.int .u8 ((u:Int) / 2 ^ (8 * (7 - j)) % 256)] 5))
    clear hc hbl
    go_wp2_with (at_builtin;refine z6f (e:=5) Tryz.underlying50 (by kernel_rfl) rfl _ _ rfl w.heap.size (.slice oa4 j cp4) q rfl hw1.out wr.heap.size ((u:Int) / 2 ^ (8 * (7 - j)) % 256) c rfl (by simp) hxi.out (by have:=Hql.out;omega) hw2.out.size ?_;intro v5 w5 ho5 hg5 hn5)
    have hb5:Below w.heap.size w w5:=hw2.out.grown hg5 hw2.out.size hlt4.out
    go_roundw
    case rel=>exact ⟨j + 1,by omega,by rw [show (7:Int) - (j:Int) - 1 = 7 - ((j + 1:Nat):Int) by omega],by rw [htk.out,← List.append_assoc,Hq.out];exact ho5,hb5⟩
    case measure=>simp [intOf];omega
  · have h8':j = 8:=by omega
    have tk:decide ((0:Int) ≤ 7 - (j:Int)) = false:=by simp;omega
    have hfin:Hid (q = b8 n):=by
     show q = b8 n
     rw [← Hq.out,h8',List.take_of_length_le (by rw [hbl];exact lR _)]
     unfold b8;rw [Hu.out];rfl
    clear hbl h8'
    go_wp2
    go_ret
    exact ⟨_,rfl,by rw [← hfin.out];have h:=HO4.out;exact h,HB4.out⟩
end
section
open Go.RowKit
def k5y (w:World) (ns:List Int) (v i:Value) (wr:World):Prop :=
 ∃ k:Nat,k ≤ ns.length∧i = .int .i64 k∧z0k 5 wr w.heap.size v ((ns.take k).flatMap b8)∧Below w.heap.size w wr
def k8t (w:World) (p B:List UInt8) (v i:Value) (wr:World):Prop :=
 ∃ j:Nat,j ≤ 8∧i = .int .i64 (56 - 8 * (j:Int))∧z0k 5 wr w.heap.size v (p ++ B.take j)∧Below w.heap.size w wr
theorem flat_len (ns:List Int):(ns.flatMap b8).length = 8 * ns.length:=by
 induction ns with
 | nil=>rfl
 | cons a r ih=>rw [List.flatMap_cons,List.length_append,ih,x4n,List.length_cons];omega
theorem y8p (s:ByteArray) (v:Value) (l:List UInt8) (nb n cap:Nat) (ns:List Int) (w:World) (hs:s.size ≤ 100000) (hl:l.length ≤ 50000) (hb:z9c w.heap.size w l v) (hL:Laid w) (hnl:ns.length = n) (hn2:n ≤ 1000)
 (hc:∀ j x,ns[j]? = some x→w.cell? ⟨nb,j,none⟩ = some (.int .i64 x)) :
 Calls Tryz.prog 129 #[.string s,v,.slice (some ⟨nb,0,none⟩) n cap] w fun e w'=>e = .returned (.int .i64 (z2p s.data.toList (ns.flatMap b8 ++ l):Nat))∧Below w.heap.size w w':=by
 have HB:=hd_ hb;have HL:=hd_ hL;have HC:=hd_ hc;have Hs:=hd_ hs;have Hl:=hd_ hl;have Hnl:=hd_ hnl;have Hn2:=hd_ hn2
 have bn:(n:Int) ≤ 1000:=by omega
 obtain ⟨oa,capm,rfl⟩:=hb.shape
 clear hb hL hc hs hl hnl hn2
 go_enter Tryz.func129,Tryz.ntmps129
 go_wp2
 go_loopw [7,13] (fun v i wr=>k5y w ns v i wr) (fun _ i _=>n - (intOf i).toNat)
 case atStart=>exact ⟨0,Nat.zero_le _,rfl,z0k.nil _ _ _,Below.refl _ _⟩
 case round =>
  obtain ⟨k,hk,rfl,ho,hb⟩:=hrel
  have HO:=hd_ ho;have HBr:=hd_ hb
  obtain ⟨oa3,cp3,rfl⟩:=z0k.form ho
  have hkn:k ≤ n:=by have:=Hnl.out;omega
  obtain ⟨p,hp⟩:∃ p,(ns.take k).flatMap b8 = p:=⟨_,rfl⟩
  have hpl:p.length = 8 * k:=by rw [← hp,flat_len,List.length_take];omega
  rw [hp] at HO ⊢
  have Hp:=hd_ hp;have Hpl:=hd_ hpl
  rw [hpl] at HO ⊢
  clear ho hb hp hpl hk
  by_cases hlt:k < n
  · have tk:decide ((k:Int) < (n:Int)) = true:=by simp;omega
    have tk':decide (k < n) = true:=by simp;omega
    obtain ⟨x,hx⟩:∃ x,ns[k]? = some x:=⟨_,gE (by rw [Hnl.out];exact hlt)⟩
    have cc:wr.cell? ⟨nb,k,none⟩ = some (.int .i64 x):=z1a HBr.out (HC.out k x hx)
    have Hx:=hd_ hx
    obtain ⟨u,hu⟩:∃ u,u64 x = u:=⟨_,rfl⟩
    have e0:IntKind.u64.wrap x = (u:Int):=by rw [x3n,hu]
    have Hu:=hd_ hu
    clear hx hu
    go_wp2
    clear cc
    obtain ⟨wo,rfl⟩:∃ wo:World,wo = wr:=⟨_,rfl⟩
    go_loopw [7,10] (fun v i wr=>k8t w p (be 8 u) v i wr) (fun _ i _=>(intOf i + 8).toNat)
    case atStart=>exact ⟨0,Nat.zero_le _,rfl,by rw [List.take_zero,List.append_nil];have h:=HO.out;exact h,HBr.out⟩
    case round =>
     obtain ⟨j,hj,rfl,ho,hb⟩:=hrel
     obtain ⟨oa4,cp4,rfl⟩:=z0k.form ho
     have hbl:(be 8 u).length = 8:=z4p _ _
     have HO4:=hd_ ho;have HB4:=hd_ hb
     have hlt4:=hd_ (fun g hg=>(World.ownsRow.lt ho g hg).1)
     obtain ⟨q,hq⟩:∃ q,p ++ (be 8 u).take j = q:=⟨_,rfl⟩
     have hql:q.length = 8 * k + j:=by rw [← hq,List.length_append,Hpl.out,List.length_take,hbl];omega
     rw [hq] at HO4 hlt4 ⊢
     rw [hql] at HO4 hlt4 ⊢
     have Hq:=hd_ hq;have Hql:=hd_ hql
     clear ho hb hq hql
     by_cases h8:j < 8
     · have tj:decide ((0:Int) ≤ 56 - 8 * (j:Int)) = true:=by simp;omega
       have tj2:(0:Int) ≤ 56 - 8 * (j:Int):=by omega
       have tj3:(56:Int) - 8 * (j:Int) ≤ 56:=by omega
       have e5:((56:Int) - 8 * (j:Int)).toNat = 8 * (7 - j):=by omega
       have e6:wrap64 (56 - 8 * (j:Int) - 8) = 56 - 8 * ((j + 1:Nat):Int):=by unfold wrap64;omega
       obtain ⟨c,hc⟩:∃ c,(be 8 u)[j]? = some c:=⟨_,gE (by omega)⟩
       have hxi:=hd_ (k4n u j h8 c hc)
       have htk:=hd_ (x4d _ j c hc)
       have hw1:=hd_ (HO4.out.alloc (.cells #[.int .u8 ((u:Int) / 2 ^ (8 * (7 - j)) % 256)] 5));have hw2:=hd_ (HB4.out.alloc HB4.out.size (.cells #[.int .u8 ((u:Int) / 2 ^ (8 * (7 - j)) % 256)] 5))
       clear hc hbl
       go_wp2_with (at_builtin;refine z6f (e:=5) Tryz.underlying50 (by kernel_rfl) rfl _ _ rfl w.heap.size (.slice oa4 (8 * k + j) cp4) q rfl hw1.out wr.heap.size ((u:Int) / 2 ^ (8 * (7 - j)) % 256) c rfl (by simp) hxi.out (by have:=Hql.out;omega) hw2.out.size ?_;intro v5 w5 ho5 hg5 hn5)
       have hb5:Below w.heap.size w w5:=hw2.out.grown hg5 hw2.out.size hlt4.out
       go_roundw
       case rel=>exact ⟨j + 1,by omega,by rw [show (56:Int) - 8 * (j:Int) - 8 = 56 - 8 * ((j + 1:Nat):Int) by omega],by rw [htk.out,← List.append_assoc,Hq.out];exact ho5,hb5⟩
       case measure=>simp [intOf];omega
     · have h8':j = 8:=by omega
       have tj:decide ((0:Int) ≤ 56 - 8 * (j:Int)) = false:=by simp;omega
       have hfin:Hid (q = (ns.take (k + 1)).flatMap b8):=by
        show q = _
        rw [← Hq.out,h8',List.take_of_length_le (by rw [hbl];exact lR _),List.take_add_one,Hx.out,List.flatMap_append,Hp.out,← Hu.out]
        simp [b8]
       have hk8:Hid (8 * k + j = 8 * (k + 1)):=by show _ = _;omega
       clear hbl h8'
       go_wp2
       go_roundw
       case rel=>exact ⟨k + 1,by have:=Hnl.out;omega,by go_num,by rw [← hfin.out];have h:=HO4.out;exact h,HB4.out⟩
       case measure=>simp [intOf];omega
  · have hkn':k = n:=by omega
    have tk:decide ((k:Int) < (n:Int)) = false:=by simp;omega
    have tk':decide (k < n) = false:=by simp;omega
    have hpf:Hid (p = ns.flatMap b8):=by show p = _;rw [← Hp.out,List.take_of_length_le (by rw [Hnl.out];omega)]
    have S2:=hd_ (j7v.ofBts (P:=Tryz.prog) Tryz.underlying50 (HB.out.ext HBr.out))
    have hlt:=hd_ (fun g hg=>(World.ownsRow.lt HO.out g hg).1)
    have h8k:Hid (8 * k ≤ 8000):=by show _ ≤ _;omega
    clear hkn'
    go_wp2_with (at_builtin;refine z9b (e:=5) Tryz.underlying50 (by kernel_rfl) rfl _ _ rfl w.heap.size (.slice oa3 (8 * k) cp3) p rfl HO.out _ l rfl S2.out (by have:=Hpl.out;have:=Hl.out;have:=h8k.out;omega) HBr.out.size ?_;intro v5 w5 ho5 hg5 hn5)
    have hb5:Below w.heap.size w w5:=HBr.out.grown hg5 HBr.out.size hlt.out
    have HO5:=hd_ (y8c ho5);have HB5:=hd_ hb5
    clear ho5 hg5 hn5 hb5
    go_wp2_with fail
    refine (x4u s _ (p ++ l) _ Hs.out (by rw [List.length_append,Hpl.out];have:=Hl.out;have:=h8k.out;omega) HO5.out (HL.out.ext HB5.out)).mono ?_
    rw [hpf.out]
    rintro e w6 ⟨rfl,hb6⟩
    have HB6:=hd_ (z0a HB5.out hb6)
    clear hb6
    go_wp2
    go_ret
    exact ⟨rfl,HB6.out⟩
end
open Go.Shelf
def ZSc (x:Int):Prop:=0 ≤ x∧x < (cQ:Int)
theorem y9p {x:Int} (h:¬ ZSc x):x < 0∨(cQ:Int) ≤ x:=by unfold ZSc at h;omega
theorem k9t {x:Int} (h:x < 0):decide (x < 0) = true:=decide_eq_true h
theorem k0u {x:Int} (h:(cQ:Int) ≤ x):decide (x < 0) = false∧decide ((2305843009213688669:Int) ≤ x) = true :=
 ⟨decide_eq_false (Int.not_lt.2 (Int.le_trans (by decide:(0:Int) ≤ (cQ:Int)) h)),decide_eq_true h⟩
theorem y6z (x:Int) (b cap:Nat) (h:Hid (¬ ZSc x)) (w:World) (hc:w.cell? ⟨b,0,none⟩ = some (.int .i64 x)) :
 Calls Tryz.prog 177 #[.slice (some ⟨b,0,none⟩) 2 cap] w fun e w'=>e = .returned (.bool false)∧w = w':=by
 rcases y9p h.out with hx | hx
 · have t1:=k9t hx
   clear hx
   go_enter Tryz.func177,Tryz.ntmps177
   go_wp2
   refine wp_loop_rounds 3 ?_
   rw [rounds_succ];go_wp2
   go_ret
   exact ⟨rfl,rfl⟩
 · obtain ⟨t1,t2⟩:=k0u hx
   clear hx
   go_enter Tryz.func177,Tryz.ntmps177
   go_wp2
   refine wp_loop_rounds 3 ?_
   rw [rounds_succ];go_wp2
   go_ret
   exact ⟨rfl,rfl⟩
theorem y7z (x y:Int) (b cap:Nat) (hx:Hid (ZSc x)) (h:Hid (¬ ZSc y)) (w:World) (hc:w.cell? ⟨b,0,none⟩ = some (.int .i64 x)) (hc2:w.cell? ⟨b,1,none⟩ = some (.int .i64 y)) :
 Calls Tryz.prog 177 #[.slice (some ⟨b,0,none⟩) 2 cap] w fun e w'=>e = .returned (.bool false)∧w = w':=by
 obtain ⟨s1,s2⟩:=y9a hx.out
 rcases y9p h.out with hy | hy
 · have t1:=k9t hy
   clear hy
   go_enter Tryz.func177,Tryz.ntmps177
   go_wp2
   refine wp_loop_rounds 3 ?_
   rw [rounds_succ];go_wp2
   rw [rounds_succ];go_wp2
   go_ret
   exact ⟨rfl,rfl⟩
 · obtain ⟨t1,t2⟩:=k0u hy
   clear hy
   go_enter Tryz.func177,Tryz.ntmps177
   go_wp2
   refine wp_loop_rounds 3 ?_
   rw [rounds_succ];go_wp2
   rw [rounds_succ];go_wp2
   go_ret
   exact ⟨rfl,rfl⟩
def y0g (x y:Int) (f:Nat→Nat→Nat) (w:World) (e:Ending) (w':World):Prop :=
 (∃ r k:Int,e = .returned (.tuple #[.int .i64 r,.int .i64 k])∧((ZSc x∧ZSc y∧r = (f x.toNat y.toNat:Nat)∧k = 0)∨(¬ (ZSc x∧ZSc y)∧r = 0∧k = 1)))∧Below w.heap.size w w'
theorem y0g.bad {x y:Int} {f:Nat→Nat→Nat} {w w':World} (h:¬ (ZSc x∧ZSc y)) (hb:Below w.heap.size w w'):y0g x y f w (.returned (.tuple #[.int .i64 0,.int .i64 1])) w':=⟨⟨0,1,rfl,.inr ⟨h,rfl,rfl⟩⟩,hb⟩
theorem j5p (x y:Int) (w:World):Calls Tryz.prog 132 #[.int .i64 x,.int .i64 y] w (y0g x y (fun a b=>(a + b) % cQ) w):=by
 by_cases hx:ZSc x
 case neg =>
  have h:=hd_ hx
  have hxy:=hd_ (show ¬ (ZSc x∧ZSc y) from fun h=>hx h.1)
  clear hx
  go_enter Tryz.func132,Tryz.ntmps132
  go_wp2_with fail
  refine (y6z x _ _ h _ (by simp)).mono ?_
  rintro e w2 ⟨rfl,rfl⟩
  go_wp2_with fail
  go_ret2
  exact y0g.bad hxy.out ((Below.refl _ _).alloc (lR _) _)
 case pos =>
  by_cases hy:ZSc y
  case neg =>
   have h:=hd_ hy;have h1:=hd_ hx
   have hxy:=hd_ (show ¬ (ZSc x∧ZSc y) from fun h=>hy h.2)
   clear hx hy
   go_enter Tryz.func132,Tryz.ntmps132
   go_wp2_with fail
   refine (y7z x y _ _ h1 h _ (by simp) (by simp)).mono ?_
   rintro e w2 ⟨rfl,rfl⟩
   go_wp2_with fail
   go_ret2
   exact y0g.bad hxy.out ((Below.refl _ _).alloc (lR _) _)
  case pos =>
   obtain ⟨a,rfl⟩:∃ a:Nat,x = (a:Int):=⟨x.toNat,by have:=hx.1;omega⟩
   obtain ⟨b,rfl⟩:∃ b:Nat,y = (b:Int):=⟨y.toNat,by have:=hy.1;omega⟩
   refine (x3h a b _ (hd_ (Int.ofNat_lt.1 hx.2)) (hd_ (Int.ofNat_lt.1 hy.2)) (hd_ rfl) w).mono ?_
   rintro e w' ⟨rfl,hb⟩
   exact ⟨⟨_,_,rfl,.inl ⟨hx,hy,rfl,rfl⟩⟩,hb⟩
theorem z3p (x:Int) (h:Hid (ZSc x)) (w:World):Calls Tryz.prog 184 #[.int .i64 x] w fun e w'=>e = .returned (.bool true)∧w = w':=by
 have t1:decide (0 ≤ x) = true:=decide_eq_true h.out.1
 have t2:decide (x < (2305843009213688669:Int)) = true:=decide_eq_true h.out.2
 go_enter Tryz.func184,Tryz.ntmps184
 go_wp2
 go_ret
 exact ⟨rfl,rfl⟩
theorem y0q (x:Int) (h:Hid (¬ ZSc x)) (w:World):Calls Tryz.prog 184 #[.int .i64 x] w fun e w'=>e = .returned (.bool false)∧w = w':=by
 rcases y9p h.out with hx | hx
 · have t1:decide (0 ≤ x) = false:=decide_eq_false (Int.not_le.2 hx)
   clear hx
   go_enter Tryz.func184,Tryz.ntmps184
   go_wp2
   go_ret
   exact ⟨rfl,rfl⟩
 · have t1:decide (0 ≤ x) = true:=decide_eq_true (Int.le_trans (by decide:(0:Int) ≤ (cQ:Int)) hx)
   have t2:decide (x < (2305843009213688669:Int)) = false:=decide_eq_false (Int.not_lt.2 hx)
   clear hx
   go_enter Tryz.func184,Tryz.ntmps184
   go_wp2
   go_ret
   exact ⟨rfl,rfl⟩
theorem k5n:Hid (cQ ≤ 4611686018427387904):=(by decide:cQ ≤ 4611686018427387904)
theorem j6p (x y:Int) (w:World):Calls Tryz.prog 140 #[.int .i64 x,.int .i64 y] w (y0g x y (fun a b=>(a + b) % cQ) w):=by
 by_cases hx:ZSc x
 case neg =>
  have h:=hd_ hx
  have hxy:=hd_ (show ¬ (ZSc x∧ZSc y) from fun h=>hx h.1)
  clear hx
  go_enter Tryz.func140,Tryz.ntmps140
  go_wp2_with fail
  refine (y0q x h _).mono ?_
  rintro e w2 ⟨rfl,rfl⟩
  go_wp2_with fail
  go_ret2
  exact y0g.bad hxy.out (Below.refl _ _)
 case pos =>
  by_cases hy:ZSc y
  case neg =>
   have h:=hd_ hy;have h1:=hd_ hx
   have hxy:=hd_ (show ¬ (ZSc x∧ZSc y) from fun h=>hy h.2)
   clear hx hy
   go_enter Tryz.func140,Tryz.ntmps140
   go_wp2_with fail
   refine (z3p x h1 _).mono ?_
   rintro e w2 ⟨rfl,rfl⟩
   go_wp2_with fail
   refine (y0q y h _).mono ?_
   rintro e w2 ⟨rfl,rfl⟩
   go_wp2_with fail
   go_ret2
   exact y0g.bad hxy.out (Below.refl _ _)
  case pos =>
   obtain ⟨a,rfl⟩:∃ a:Nat,x = (a:Int):=⟨x.toNat,by have:=hx.1;omega⟩
   obtain ⟨b,rfl⟩:∃ b:Nat,y = (b:Int):=⟨y.toNat,by have:=hy.1;omega⟩
   have h1:=hd_ hx;have h2:=hd_ hy
   have h3:=hd_ (Int.ofNat_lt.1 hx.2);have h4:=hd_ (Int.ofNat_lt.1 hy.2)
   obtain ⟨r,hr⟩:∃ r,(a + b) % cQ = r:=⟨_,rfl⟩
   have Hr:=hd_ hr
   have hfin:Hid (y0g (a:Int) (b:Int) (fun a b=>(a + b) % cQ) w (.returned (.tuple #[.int .i64 r,.int .i64 0])) w):=⟨⟨_,_,rfl,.inl ⟨hx,hy,by rw [← hr];rfl,rfl⟩⟩,Below.refl _ _⟩
   clear hx hy hr
   go_enter Tryz.func140,Tryz.ntmps140
   go_wp2_with fail
   refine (z3p a h1 _).mono ?_
   rintro e w2 ⟨rfl,rfl⟩
   go_wp2_with fail
   refine (z3p b h2 _).mono ?_
   rintro e w2 ⟨rfl,rfl⟩
   go_wp2_with fail
   refine (z4s a b cQ r h3 h4 k5n Hr _).mono ?_
   rintro e w2 ⟨rfl,rfl⟩
   go_wp2_with fail
   go_ret2
   exact hfin.out
theorem j0i (x y:Int) (w:World):Calls Tryz.prog 138 #[.int .i64 x,.int .i64 y] w (y0g x y (fun a b=>a * b % cQ) w):=by
 by_cases hx:ZSc x
 case neg =>
  have h:=hd_ hx
  have hxy:=hd_ (show ¬ (ZSc x∧ZSc y) from fun h=>hx h.1)
  clear hx
  go_enter Tryz.func138,Tryz.ntmps138
  go_wp2_with fail
  refine (y0q x h _).mono ?_
  rintro e w2 ⟨rfl,rfl⟩
  go_wp2_with fail
  go_ret2
  exact y0g.bad hxy.out (Below.refl _ _)
 case pos =>
  by_cases hy:ZSc y
  case neg =>
   have h:=hd_ hy;have h1:=hd_ hx
   have hxy:=hd_ (show ¬ (ZSc x∧ZSc y) from fun h=>hy h.2)
   clear hx hy
   go_enter Tryz.func138,Tryz.ntmps138
   go_wp2_with fail
   refine (z3p x h1 _).mono ?_
   rintro e w2 ⟨rfl,rfl⟩
   go_wp2_with fail
   refine (y0q y h _).mono ?_
   rintro e w2 ⟨rfl,rfl⟩
   go_wp2_with fail
   go_ret2
   exact y0g.bad hxy.out (Below.refl _ _)
  case pos =>
   obtain ⟨a,rfl⟩:∃ a:Nat,x = (a:Int):=⟨x.toNat,by have:=hx.1;omega⟩
   obtain ⟨b,rfl⟩:∃ b:Nat,y = (b:Int):=⟨y.toNat,by have:=hy.1;omega⟩
   have h1:=hd_ hx;have h2:=hd_ hy
   have h3:=hd_ (Int.ofNat_lt.1 hx.2);have h4:=hd_ (Int.ofNat_lt.1 hy.2)
   obtain ⟨r,hr⟩:∃ r,a * b % cQ = r:=⟨_,rfl⟩
   have Hr:=hd_ hr
   have hfin:Hid (y0g (a:Int) (b:Int) (fun a b=>a * b % cQ) w (.returned (.tuple #[.int .i64 r,.int .i64 0])) w):=⟨⟨_,_,rfl,.inl ⟨hx,hy,by rw [← hr];rfl,rfl⟩⟩,Below.refl _ _⟩
   clear hx hy hr
   go_enter Tryz.func138,Tryz.ntmps138
   go_wp2_with fail
   refine (z3p a h1 _).mono ?_
   rintro e w2 ⟨rfl,rfl⟩
   go_wp2_with fail
   refine (z3p b h2 _).mono ?_
   rintro e w2 ⟨rfl,rfl⟩
   go_wp2_with fail
   refine (z9i a b cQ r h3 h4 k5n Hr _).mono ?_
   rintro e w2 ⟨rfl,rfl⟩
   go_wp2_with fail
   go_ret2
   exact hfin.out
theorem j7p {a k c m:Nat} (h:k % 2 = 1):(c * a % m) * (a * a % m) ^ (k / 2) % m = c * a ^ k % m:=by
 have e:k = 2 * (k / 2) + 1:=by omega
 conv=>rhs;rw [e]
 rw [Nat.pow_succ,Nat.pow_mul,Nat.pow_two,Nat.mul_mod,Nat.mod_mod,← Nat.pow_mod,← Nat.mul_mod]
 congr 1
 rw [Nat.mul_assoc,Nat.mul_comm a]
theorem j8p {a k c m:Nat} (h:k % 2 = 0):c * (a * a % m) ^ (k / 2) % m = c * a ^ k % m:=by
 have e:k = 2 * (k / 2):=by omega
 conv=>rhs;rw [e]
 rw [Nat.pow_mul,Nat.pow_two,Nat.mul_mod,← Nat.pow_mod,← Nat.mul_mod]
structure PwR (t a k c:Nat):Prop where
 ha:a < cP
 hc:c < cP
 hk:k ≤ 4611686018427387904
 ht:c * a ^ k % cP = t
theorem j9p:Hid (cP ≤ 4611686018427387904):=(by decide:cP ≤ 4611686018427387904)
theorem y6k (a k r:Nat) (ki:Int) (hki:ki = (k:Int)) (ha:Hid (a < cP)) (hk:Hid (k ≤ 4611686018427387904)) (hr:Hid (pw a k = r)) (w:World) :
 Calls Tryz.prog 190 #[.int .i64 a,.int .i64 ki] w fun e w'=>e = .returned (.int .i64 r)∧w = w':=by
 subst hki
 have hS:Hid (PwR r a k 1):=⟨ha.out,by decide,hk.out,by rw [Nat.one_mul];exact hr.out⟩
 go_enter Tryz.func190,Tryz.ntmps190
 go_wp2_with fail
 go_loopw [0,1,5] (fun va vb vc wr=>∃ x y z:Nat,va = .int .i64 (x:Int)∧vb = .int .i64 (y:Int)∧vc = .int .i64 (z:Int)∧PwR r x y z∧w = wr) (fun _ vb _ _=>(intOf vb).toNat)
 case atStart=>exact ⟨a,k,1,rfl,rfl,rfl,hS.out,rfl⟩
 case round =>
  obtain ⟨x,y,z,rfl,rfl,rfl,hR,rfl⟩:=hrel
  have HR:=hd_ hR;clear hR
  by_cases hy:y = 0
  · subst hy
    go_wp2_with fail
    have hzr:z = r:=by have h1:=HR.out.ht;rw [Nat.pow_zero,Nat.mul_one,Nat.mod_eq_of_lt HR.out.hc] at h1;exact h1
    go_wp2_with fail
    go_ret
    exact ⟨by rw [← hzr];rfl,rfl⟩
  · have ty:decide (0 < y) = true:=decide_eq_true (by omega)
    obtain ⟨y2,hy2⟩:∃ y2,y / 2 = y2:=⟨_,rfl⟩
    have e2:(y:Int).tdiv 2 = (y2:Int):=by rw [← hy2];rw [Int.ofNat_tdiv];rfl
    have e4:wrap64 (y2:Int) = (y2:Int):=by
     have h1:=HR.out.hk
     unfold wrap64;omega
    obtain ⟨yb,hyb⟩:∃ yb,y % 2 = yb:=⟨_,rfl⟩
    have e3:(y:Int).tmod 2 = (yb:Int):=by rw [← hyb];rw [Int.ofNat_tmod];rfl
    have hlt:Hid ((intOf (.int .i64 (y2:Int))).toNat < (intOf (.int .i64 (y:Int))).toNat):=by show _ < _;simp [intOf];omega
    obtain ⟨x2,hx2⟩:∃ x2,x * x % cP = x2:=⟨_,rfl⟩
    obtain ⟨z2,hz2⟩:∃ z2,z * x % cP = z2:=⟨_,rfl⟩
    have Hx:Hid (x < cP):=HR.out.ha
    have Hz:Hid (z < cP):=HR.out.hc
    have Hx2:=hd_ hx2;have Hz2:=hd_ hz2
    by_cases hb1:y % 2 = 1
    · have hN:Hid (PwR r x2 y2 z2):=⟨by rw [← hx2];exact Nat.mod_lt _ y1r,by rw [← hz2];exact Nat.mod_lt _ y1r,by have:=HR.out.hk;omega,by rw [← hx2,← hy2,← hz2,j7p hb1];exact HR.out.ht⟩
      obtain rfl:yb = 1:=by omega
      clear hy hy2 hyb hx2 hz2 hb1
      go_wp2_with fail
      refine (z9i z x 4611686018427377339 z2 Hz Hx j9p Hz2 _).mono ?_
      rintro e w1 ⟨rfl,rfl⟩
      go_wp2_with fail
      refine (z9i x x 4611686018427377339 x2 Hx Hx j9p Hx2 _).mono ?_
      rintro e w1 ⟨rfl,rfl⟩
      go_wp2_with fail
      go_roundw
      case rel=>exact ⟨x2,y2,z2,rfl,by rw [e4],rfl,hN.out,trivial⟩
      case measure=>rw [e4];exact hlt.out
    · have hN:Hid (PwR r x2 y2 z):=⟨by rw [← hx2];exact Nat.mod_lt _ y1r,HR.out.hc,by have:=HR.out.hk;omega,by rw [← hx2,← hy2,j8p (by omega)];exact HR.out.ht⟩
      obtain rfl:yb = 0:=by omega
      clear hy hy2 hyb hx2 hz2 hb1
      go_wp2_with fail
      refine (z9i x x 4611686018427377339 x2 Hx Hx j9p Hx2 _).mono ?_
      rintro e w1 ⟨rfl,rfl⟩
      go_wp2_with fail
      go_roundw
      case rel=>exact ⟨x2,y2,z,rfl,by rw [e4],rfl,hN.out,trivial⟩
      case measure=>rw [e4];exact hlt.out
theorem y7k (a r:Nat) (h1:Hid (1 ≤ a)) (h2:Hid (a < cP)) (hr:Hid (pw a cQ = r)) (w:World):Calls Tryz.prog 146 #[.int .i64 a] w fun e w'=>e = .returned (.int .i64 (if r = 1 then 0 else 30))∧w = w':=by
 have t1:decide ((a:Int) < 1) = false:=by rw [decide_eq_false_iff_not];have:=h1.out;omega
 have t2:decide ((4611686018427377339:Int) ≤ (a:Int)) = false:=by
   rw [decide_eq_false_iff_not];have h:(a:Int) < (cP:Int):=Int.ofNat_lt.2 h2.out
   exact Int.not_le.2 h
 go_enter Tryz.func146,Tryz.ntmps146
 go_wp2_with fail
 refine (y6k a cQ r _ rfl h2 (hd_ (by decide)) hr _).mono ?_
 rintro e w1 ⟨rfl,rfl⟩
 by_cases hr1:r = 1
 · subst hr1
   go_wp2_with fail
   go_ret
   exact ⟨rfl,rfl⟩
 · have t3:((r:Int) == 1) = false:=by rw [beq_eq_false_iff_ne];omega
   go_wp2_with fail
   go_ret
   exact ⟨rfl,rfl⟩
theorem z6g (a:Nat) (h:Hid (z4t a)) (w:World):Calls Tryz.prog 146 #[.int .i64 a] w fun e w'=>e = .returned (.int .i64 0)∧w = w' :=
 y7k a 1 (hd_ h.out.1) (hd_ h.out.2.1) (hd_ h.out.2.2) w
theorem x5u (a:Int) (ha:Hid (a < 1)) (w:World):Calls Tryz.prog 146 #[.int .i64 a] w fun e w'=>e = .returned (.int .i64 30)∧w = w':=by
 have t1:decide (a < 1) = true:=decide_eq_true ha.out
 go_enter Tryz.func146,Tryz.ntmps146
 go_wp2
 go_ret
 exact ⟨rfl,rfl⟩
theorem x5h (a:Int) (ha:Hid ((cP:Int) ≤ a)) (w:World):Calls Tryz.prog 146 #[.int .i64 a] w fun e w'=>e = .returned (.int .i64 30)∧w = w':=by
 have h:=ha.out
 have t1:decide (a < 1) = false:=by
   rw [decide_eq_false_iff_not];have:(1:Int) ≤ (cP:Int):=by decide
   omega
 have t2:decide ((4611686018427377339:Int) ≤ a) = true:=decide_eq_true h
 clear h
 go_enter Tryz.func146,Tryz.ntmps146
 go_wp2
 go_ret
 exact ⟨rfl,rfl⟩
theorem y8k (a:Int) (h:Hid (¬ ZEl a)) (w:World):Calls Tryz.prog 146 #[.int .i64 a] w fun e w'=>e = .returned (.int .i64 30)∧w = w':=by
 by_cases h1:a < 1
 · exact x5u a (hd_ h1) w
 · by_cases h2:(cP:Int) ≤ a
   · exact x5h a (hd_ h2) w
   · obtain ⟨n,rfl⟩:∃ n:Nat,a = (n:Int):=⟨a.toNat,by omega⟩
     have hn1:1 ≤ n:=by omega
     have hn2:n < cP:=by omega
     have hne:pw n cQ ≠ 1:=fun hh=>h.out ⟨by omega,hn1,hn2,hh⟩
     have:=y7k n _ (hd_ hn1) (hd_ hn2) (hd_ rfl) w
     rw [if_neg hne] at this
     exact this
theorem j1i (a k r:Nat) (ha:Hid (z4t a)) (hk:Hid (k < cQ)) (hr:Hid (pw a k = r)) (w:World) :
 Calls Tryz.prog 147 #[.int .i64 a,.int .i64 k] w fun e w'=>e = .returned (.tuple #[.int .i64 r,.int .i64 0])∧w = w':=by
 have hkk:Hid (ZSc (k:Int)):=⟨by omega,Int.ofNat_lt.2 hk.out⟩
 have hal:Hid (a < cP):=ha.out.2.1
 have hk2:Hid (k ≤ 4611686018427387904):=Nat.le_of_lt (Nat.lt_trans hk.out (by decide))
 go_enter Tryz.func147,Tryz.ntmps147
 go_wp2_with fail
 refine (z6g a ha _).mono ?_
 rintro e w1 ⟨rfl,rfl⟩
 go_wp2_with fail
 refine (z3p k hkk _).mono ?_
 rintro e w1 ⟨rfl,rfl⟩
 go_wp2_with fail
 refine (y6k a k r _ rfl hal hk2 hr _).mono ?_
 rintro e w1 ⟨rfl,rfl⟩
 go_wp2_with fail
 go_ret2
 exact ⟨rfl,rfl⟩
theorem y1q (k r:Nat) (hk:Hid (k < cQ)) (hr:Hid (pw 4 k = r)) (w:World) :
 Calls Tryz.prog 137 #[.int .i64 k] w fun e w'=>e = .returned (.tuple #[.int .i64 r,.int .i64 0])∧w = w':=by
 go_enter Tryz.func137,Tryz.ntmps137
 go_wp2_with fail
 refine (j1i 4 k r (hd_ z2r) hk hr _).mono ?_
 rintro e w1 ⟨rfl,rfl⟩
 go_wp2_with fail
 go_ret2
 exact ⟨rfl,rfl⟩
theorem k4c (a b r:Nat) (ha:Hid (z4t a)) (hb:Hid (z4t b)) (hr:Hid (a * b % cP = r)) (w:World) :
 Calls Tryz.prog 148 #[.int .i64 a,.int .i64 b] w fun e w'=>e = .returned (.tuple #[.int .i64 r,.int .i64 0])∧w = w':=by
 have hal:Hid (a < cP):=ha.out.2.1
 have hbl:Hid (b < cP):=hb.out.2.1
 go_enter Tryz.func148,Tryz.ntmps148
 go_wp2_with fail
 refine (z6g a ha _).mono ?_
 rintro e w1 ⟨rfl,rfl⟩
 go_wp2_with fail
 refine (z6g b hb _).mono ?_
 rintro e w1 ⟨rfl,rfl⟩
 go_wp2_with fail
 refine (z9i a b 4611686018427377339 r hal hbl j9p hr _).mono ?_
 rintro e w1 ⟨rfl,rfl⟩
 go_wp2_with fail
 go_ret2
 exact ⟨rfl,rfl⟩
def ZPr (x:Int):Prop:=1 ≤ x∧x < (cQ:Int)
theorem j2i {x:Int} (h:¬ ZPr x):x < 1∨(cQ:Int) ≤ x:=by unfold ZPr at h;omega
theorem j5u {x:Int} (h:ZPr x):∃ n:Nat,x = (n:Int)∧1 ≤ n∧n < cQ:=⟨x.toNat,by have:=h.1;omega,by have:=h.1;omega,by have:=h.1;have:=h.2;omega⟩
theorem y8z (x:Int) (h:Hid (ZPr x)) (w:World):Calls Tryz.prog 71 #[.int .i64 x] w fun e w'=>e = .returned (.bool true)∧w = w':=by
 have t1:decide (1 ≤ x) = true:=decide_eq_true h.out.1
 have t2:decide (x < (2305843009213688669:Int)) = true:=decide_eq_true h.out.2
 go_enter Tryz.func71,Tryz.ntmps71
 go_wp2
 go_ret
 exact ⟨rfl,rfl⟩
theorem x5n (x:Int) (h:Hid (¬ ZPr x)) (w:World):Calls Tryz.prog 71 #[.int .i64 x] w fun e w'=>e = .returned (.bool false)∧w = w':=by
 rcases j2i h.out with hx | hx
 · have t1:decide (1 ≤ x) = false:=decide_eq_false (by omega)
   clear hx
   go_enter Tryz.func71,Tryz.ntmps71
   go_wp2
   go_ret
   exact ⟨rfl,rfl⟩
 · have t1:decide (1 ≤ x) = true:=decide_eq_true (Int.le_trans (by decide:(1:Int) ≤ (cQ:Int)) hx)
   have t2:decide (x < (2305843009213688669:Int)) = false:=decide_eq_false (Int.not_lt.2 hx)
   clear hx
   go_enter Tryz.func71,Tryz.ntmps71
   go_wp2
   go_ret
   exact ⟨rfl,rfl⟩
theorem j0q (x:Int) (h:Hid (ZPr x)) (w:World):Calls Tryz.prog 182 #[.int .i64 x] w fun e w'=>e = .returned (.bool true)∧w = w':=by
 have t1:decide (1 ≤ x) = true:=decide_eq_true h.out.1
 have t2:decide (x < (2305843009213688669:Int)) = true:=decide_eq_true h.out.2
 go_enter Tryz.func182,Tryz.ntmps182
 go_wp2
 go_ret
 exact ⟨rfl,rfl⟩
theorem k5c (x:Int) (h:Hid (¬ ZPr x)) (w:World):Calls Tryz.prog 182 #[.int .i64 x] w fun e w'=>e = .returned (.bool false)∧w = w':=by
 rcases j2i h.out with hx | hx
 · have t1:decide (1 ≤ x) = false:=decide_eq_false (by omega)
   clear hx
   go_enter Tryz.func182,Tryz.ntmps182
   go_wp2
   go_ret
   exact ⟨rfl,rfl⟩
 · have t1:decide (1 ≤ x) = true:=decide_eq_true (Int.le_trans (by decide:(1:Int) ≤ (cQ:Int)) hx)
   have t2:decide (x < (2305843009213688669:Int)) = false:=decide_eq_false (Int.not_lt.2 hx)
   clear hx
   go_enter Tryz.func182,Tryz.ntmps182
   go_wp2
   go_ret
   exact ⟨rfl,rfl⟩
theorem y9k (n r:Nat) (hn:Hid (n < cQ)) (hr:Hid (pw 4 n = r)) (w:World):Calls Tryz.prog 72 #[.int .i64 n] w fun e w'=>e = .returned (.int .i64 r)∧Below w.heap.size w w':=by
 go_enter Tryz.func72,Tryz.ntmps72
 go_wp2_with fail
 refine (x4h n r hn hr _).mono ?_
 rintro e w1 ⟨rfl,hb⟩
 go_wp2_with fail
 go_ret
 exact ⟨rfl,hb⟩
theorem j3i (n r:Nat) (hn:Hid (ZPr (n:Int))) (hr:Hid (pw 4 n = r)) (w:World):Calls Tryz.prog 25 #[.int .i64 n] w fun e w'=>e = .returned (.tuple #[.int .i64 r,.int .i64 0])∧Below w.heap.size w w':=by
 have hnl:Hid (n < cQ):=Int.ofNat_lt.1 hn.out.2
 go_enter Tryz.func25,Tryz.ntmps25
 go_wp2_with fail
 refine (y8z n hn _).mono ?_
 rintro e w1 ⟨rfl,rfl⟩
 go_wp2_with fail
 refine (y9k n r hnl hr _).mono ?_
 rintro e w1 ⟨rfl,hb⟩
 go_wp2_with fail
 go_ret2
 exact ⟨rfl,hb⟩
theorem x6u (x:Int) (hx:Hid (¬ ZPr x)) (w:World):Calls Tryz.prog 25 #[.int .i64 x] w fun e w'=>e = .returned (.tuple #[.int .i64 0,.int .i64 40])∧w = w':=by
 go_enter Tryz.func25,Tryz.ntmps25
 go_wp2_with fail
 refine (x5n x hx _).mono ?_
 rintro e w1 ⟨rfl,rfl⟩
 go_wp2_with fail
 go_ret2
 exact ⟨rfl,rfl⟩
theorem x7u (n r:Nat) (hn:Hid (ZPr (n:Int))) (hr:Hid (pw 4 n = r)) (w:World):Calls Tryz.prog 134 #[.int .i64 n] w fun e w'=>e = .returned (.tuple #[.int .i64 r,.int .i64 0])∧w = w':=by
 have hnl:Hid (n < cQ):=Int.ofNat_lt.1 hn.out.2
 go_enter Tryz.func134,Tryz.ntmps134
 go_wp2_with fail
 refine (j0q n hn _).mono ?_
 rintro e w1 ⟨rfl,rfl⟩
 go_wp2_with fail
 refine (y1q n r hnl hr _).mono ?_
 rintro e w1 ⟨rfl,rfl⟩
 go_wp2_with fail
 go_ret2
 exact ⟨rfl,rfl⟩
theorem x6h (x:Int) (hx:Hid (¬ ZPr x)) (w:World):Calls Tryz.prog 134 #[.int .i64 x] w fun e w'=>e = .returned (.tuple #[.int .i64 0,.int .i64 40])∧w = w':=by
 go_enter Tryz.func134,Tryz.ntmps134
 go_wp2_with fail
 refine (k5c x hx _).mono ?_
 rintro e w1 ⟨rfl,rfl⟩
 go_wp2_with fail
 go_ret2
 exact ⟨rfl,rfl⟩
theorem x8u (x:Int) (hx:Hid (ZSc x)) (w:World):Calls Tryz.prog 143 #[.int .i64 x] w fun e w'=>e = .returned (.int .i64 0)∧Below w.heap.size w w':=by
 obtain ⟨n,rfl⟩:∃ n:Nat,x = (n:Int):=⟨x.toNat,by have:=hx.out.1;omega⟩
 have hn:Hid (n < cQ):=Int.ofNat_lt.1 hx.out.2
 have hn0:Hid ((n + 0) % cQ = n):=Nat.mod_eq_of_lt hn.out
 go_enter Tryz.func143,Tryz.ntmps143
 go_wp2_with fail
 refine (x3h n 0 n hn (hd_ (by decide)) hn0 _).mono ?_
 rintro e w1 ⟨rfl,hb⟩
 go_wp2_with fail
 go_ret
 exact ⟨rfl,hb⟩
theorem j4i (x:Int) (hx:Hid (¬ ZSc x)) (w:World):Calls Tryz.prog 143 #[.int .i64 x] w fun e w'=>e = .returned (.int .i64 1)∧Below w.heap.size w w':=by
 go_enter Tryz.func143,Tryz.ntmps143
 go_wp2_with fail
 refine (j5p x 0 _).mono ?_
 rintro e w1 ⟨⟨r,k,rfl,hc⟩,hb⟩
 obtain ⟨rfl,rfl⟩:r = 0∧k = 1:=by
  rcases hc with ⟨h1,_⟩ | ⟨_,h1,h2⟩
  · exact absurd h1 hx.out
  · exact ⟨h1,h2⟩
 clear hc
 go_wp2_with fail
 go_ret
 exact ⟨rfl,hb⟩
end Go.Proofs.YtdblnbnofjggnaaGreatDoor
