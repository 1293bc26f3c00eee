/- Parts of the proofs of chapter 49's laws. -/
import Derived.Test.YtdblnbnofjggnaaGreatDoorP02
import Derived.Test.YtdblnbnofjggnaaGreatDoorP01
import Derived.WalkKit
import Derived.Lib.Hide
import Derived.Lib.Mul64
import Derived.Shelf.Bits.Mul64
import Derived.Deep.RegionHeld3
import Derived.Deep.QuietTactic
import Derived.BigQuiet
import Derived.Deep.DeepCutAuto
import Derived.Deep.CutBlock
set_option maxHeartbeats 4000000
set_option maxRecDepth 100000
open Go.Lib renaming hid → hd_
open Go.Value renaming int → I
open Bool renaming false → X
open Decidable renaming decide → J
set_option linter.all false
namespace Go.Proofs.YtdblnbnofjggnaaGreatDoor
open Go.Proofs.Tryz
open Go.RowKit
theorem y0u (x y:Nat) (hx:x<18446744073709551616) (hy:y<18446744073709551616) (w:World) :
 Calls prog 178 #[I .u64 x,I .u64 y] w fun e w'=>e=.returned (.tuple #[I .u64 ((x * y / 18446744073709551616:Nat):Int),I .u64 ((x * y % 18446744073709551616:Nat):Int)])∧w'=w:=by
 obtain ⟨bd,bt,bw,hhi⟩:=Lib.mul64_hi x y hx hy
 have ba:=Lib.half_mul_le (a:=x / 4294967296) (b:=y / 4294967296) (by omega) (by omega)
 have bb:=Lib.half_mul_le (a:=x / 4294967296) (b:=y % 4294967296) (by omega) (by omega)
 have bc:=Lib.half_mul_le (a:=x % 4294967296) (b:=y / 4294967296) (by omega) (by omega)
 have ba':x / 4294967296 * (y / 4294967296)<18446744073709551616:=by omega
 have bb':x / 4294967296 * (y % 4294967296)<18446744073709551616:=by omega
 have bc':x % 4294967296 * (y / 4294967296)<18446744073709551616:=by omega
 have bh1:x / 4294967296 * (y / 4294967296)+(x / 4294967296 * (y % 4294967296)+x % 4294967296 * (y % 4294967296) / 4294967296) / 4294967296<18446744073709551616:=by omega
 have bh:x / 4294967296 * (y / 4294967296)+(x / 4294967296 * (y % 4294967296)+x % 4294967296 * (y % 4294967296) / 4294967296) / 4294967296+((x / 4294967296 * (y % 4294967296)+x % 4294967296 * (y % 4294967296) / 4294967296) % 4294967296+x % 4294967296 * (y / 4294967296)) / 4294967296<18446744073709551616:=by omega
 go_enter func178,ntmps178
 go_wp2
 simp only [Go.Proofs.Mul64.maskN x hx,Go.Proofs.Mul64.maskN y hy,Go.Proofs.Mul64.divN,Go.Proofs.Mul64.mulN,Go.Proofs.Mul64.addN,Go.Proofs.Mul64.wrapN _ bd,Go.Proofs.Mul64.wrapN _ bb',Go.Proofs.Mul64.wrapN _ bt,Go.Proofs.Mul64.maskN _ bt,Go.Proofs.Mul64.wrapN _ bc',Go.Proofs.Mul64.wrapN _ bw,Go.Proofs.Mul64.wrapN _ ba',Go.Proofs.Mul64.wrapN _ bh1,Go.Proofs.Mul64.wrapN _ bh,Go.Proofs.Mul64.wrapM (x * y)]
 rw [hhi]
 go_ret2
 exact ⟨rfl,rfl⟩
theorem k9m (y s:Nat) (hs:Hid (Lib.bitLen y+s=64)) (hy:Hid (y<18446744073709551616)) (w:World):Calls prog 199 #[I .u64 y] w fun e w'=>e=.returned (I .i64 (s:Int))∧w=w':=by
 have h:=z2v (y:Int) w (by omega) (by have:=hy.out;omega)
 refine h.mono ?_
 rintro e w' ⟨rfl,rfl⟩
 have:=hs.out
 simp only [Int.toNat_natCast]
 exact ⟨by rw [show (64:Int) - (Lib.bitLen y:Int)=(s:Int) from by omega],trivial⟩
theorem k0b {hi lo y s Y u32 U u1 u0:Nat} (hY:Y=y * 2 ^ s) (hu:u32=hi * 2 ^ s+lo / 2 ^ (64 - s)) (hU:U=lo * 2 ^ s % 18446744073709551616) (h1:u1=U / cW) (h0:u0=U % cW) (hs:s≤64) (hy:0<y) :
 (u32 * cW+u1) / Y * cW+((u32 * cW+u1) % Y * cW+u0) / Y=(hi * 18446744073709551616+lo) / y∧((u32 * cW+u1) % Y * cW+u0) % Y / 2 ^ s=(hi * 18446744073709551616+lo) % y:=by
 have hp:0<2 ^ s:=Nat.two_pow_pos s
 have lG:0<Y:=by rw [hY];exact Nat.mul_pos hy hp
 have hk:2 ^ s * 2 ^ (64 - s)=18446744073709551616:=by rw [← Nat.pow_add,show s+(64 - s)=64 from by omega]
 have hlo:lo * 2 ^ s=lo / 2 ^ (64 - s) * 18446744073709551616+U:=by
  have h:=Nat.div_add_mod (lo * 2 ^ s) 18446744073709551616
  have h2:lo * 2 ^ s / 18446744073709551616=lo / 2 ^ (64 - s):=by rw [← hk,Nat.mul_comm lo,Nat.mul_div_mul_left _ _ hp]
  rw [h2,← hU] at h
  omega
 have hUu:U=u1 * cW+u0:=by rw [h1,h0,Nat.mul_comm];exact (Nat.div_add_mod U cW).symm
 have hW:cW * cW=18446744073709551616:=rfl
 have hN:(hi * 18446744073709551616+lo) * 2 ^ s=(u32 * cW+u1) * cW+u0:=by
  rw [Nat.add_mul,hlo,hu,hUu]
  simp only [Nat.add_mul]
  have a1:hi * 18446744073709551616 * 2 ^ s=hi * 2 ^ s * cW * cW:=by rw [Nat.mul_assoc (hi * 2 ^ s),hW,Nat.mul_assoc,Nat.mul_assoc,Nat.mul_comm (2 ^ s)]
  have a2:lo / 2 ^ (64 - s) * 18446744073709551616=lo / 2 ^ (64 - s) * cW * cW:=by rw [Nat.mul_assoc,hW]
  rw [a1,a2];omega
 have hT:(u32 * cW+u1) * cW+u0=Y * ((u32 * cW+u1) / Y * cW)+((u32 * cW+u1) % Y * cW+u0):=by
  have h:=Nat.div_add_mod (u32 * cW+u1) Y
  have h2:(u32 * cW+u1) * cW=(Y * ((u32 * cW+u1) / Y)+(u32 * cW+u1) % Y) * cW:=by rw [h]
  rw [h2,Nat.add_mul,Nat.mul_assoc];omega
 have hq:(hi * 18446744073709551616+lo) / y=(u32 * cW+u1) / Y * cW+((u32 * cW+u1) % Y * cW+u0) / Y:=by
  rw [← Nat.mul_div_mul_right _ _ hp,hN,← hY,hT,Nat.mul_add_div lG]
 have hr:(hi * 18446744073709551616+lo) % y * 2 ^ s=((u32 * cW+u1) % Y * cW+u0) % Y:=by
  rw [← Nat.mul_mod_mul_right,hN,← hY,hT,Nat.mul_add_mod]
 exact ⟨hq.symm,by rw [← hr,Nat.mul_div_cancel _ hp]⟩
theorem y0d (a:Nat):IntKind.u64.wrap (a:Int)=((a % 18446744073709551616:Nat):Int):=Go.Proofs.Mul64.wrapM a
theorem y1u (u v x z a1 a2 a3:Nat) (h:u * 4294967296+v=x+z) (hz:z<18446744073709551616) (h1:a1=u * 4294967296 % 18446744073709551616) (h2:a2=(a1+v) % 18446744073709551616) (h3:a3=x % 18446744073709551616) :
 IntKind.u64.wrap ((u:Int) * 4294967296)=(a1:Int)∧IntKind.u64.wrap ((a1:Int)+(v:Int))=(a2:Int)∧IntKind.u64.wrap ((a2:Int) - (a3:Int))=(z:Int):=by
 simp only [IntKind.wrap_u64];omega
theorem x6z {Y aJ bN u32 u1 q r A C E:Nat} (h:Dg Y aJ bN u32 u1 q r) (hA:q * bN=A) (hC:4294967296 * r+u1=C) (hE:4294967296 * r=E) :
 IntKind.u64.wrap ((q:Int) * (bN:Int))=(A:Int)∧IntKind.u64.wrap (4294967296 * (r:Int))=(E:Int)∧IntKind.u64.wrap ((E:Int)+(u1:Int))=(C:Int):=by
 have hf:=h.fits
 have h9:r<4294967296:=h.h9
 have h5:u1<4294967296:=h.h5
 subst hA
 refine ⟨?_,?_,?_⟩
 ·rw [Go.Proofs.Mul64.mulN];exact Go.Proofs.Mul64.wrapN _ hf
 ·rw [show (4294967296:Int) * (r:Int)=(E:Int) from by omega];exact Go.Proofs.Mul64.wrapN _ (by omega)
 ·rw [show (E:Int)+(u1:Int)=(C:Int) from by omega];exact Go.Proofs.Mul64.wrapN _ (by omega)
def k0n (Y aJ bN u32 u1:Nat) (w:World) (v u:Value) (wr:World):Prop:=∃ q r:Nat,v=I .u64 (q:Int)∧u=I .u64 (r:Int)∧Dg Y aJ bN u32 u1 q r∧w=wr
def k1n (Y u32 u1:Nat) (w:World) (v:Value) (wr:World):Prop:=v=I .u64 (((u32 * cW+u1) / Y:Nat):Int)∧w=wr
structure DivNums (hi lo y s Y aJ bN H L u32 U u1 u0:Nat):Prop where
 e1:IntKind.u64.wrap ((y:Int) * 2 ^ s)=(Y:Int)
 e2:(Y:Int) / 4294967296=(aJ:Int)
 e3:bits .and .u64 (Y:Int) 4294967295=(bN:Int)
 e4:IntKind.u64.wrap ((hi:Int) * 2 ^ s)=(H:Int)
 e5:(lo:Int) / 2 ^ (64 - s)=(L:Int)
 e6:bits .or .u64 (H:Int) (L:Int)=(u32:Int)
 e7:IntKind.u64.wrap ((lo:Int) * 2 ^ s)=(U:Int)
 e8:(U:Int) / 4294967296=(u1:Int)
 e9:bits .and .u64 (U:Int) 4294967295=(u0:Int)
theorem x0r (hi lo y s Y aJ bN H L u32 U u1 u0:Nat) (N:Hid (DivNums hi lo y s Y aJ bN H L u32 U u1 u0)) (hy:Hid (y<18446744073709551616)) (h0:0<hi) (hh:hi<y) (hs:Hid (Lib.bitLen y+s=64)) (bJ:1≤s) (jX:s≤63)
 (D1:Hid (Dg Y aJ bN u32 u1 (u32 / aJ) (u32 % aJ))) (hY:Y<18446744073709551616) (hu0:u0<4294967296) (w:World) :
 Calls prog 179 #[I .u64 hi,I .u64 lo,I .u64 y] w fun e w'=>e=.returned (.tuple #[I .u64 (((u32 * cW+u1) / Y * cW+((u32 * cW+u1) % Y * cW+u0) / Y:Nat):Int),I .u64 ((((u32 * cW+u1) % Y * cW+u0) % Y / 2 ^ s:Nat):Int)])∧w'=w:=by
 have t1:((y:Int) == 0)=X:=by rw [beq_eq_false_iff_ne];omega
 have t2:((hi:Int) == 0)=X:=by rw [beq_eq_false_iff_ne];omega
 have t3:J ((y:Int)≤(hi:Int))=X:=by simp;omega
 obtain ⟨e1,e2,e3,e4,e5,e6,e7,e8,e9⟩:=N.out
 have y1:2147483648≤aJ:=D1.out.h1
 have y2:aJ<4294967296:=D1.out.h2
 have y3:bN<4294967296:=D1.out.h3
 have y5:u1<4294967296:=D1.out.h5
 obtain ⟨q,hq⟩:∃ q,u32 / aJ=q:=⟨_,rfl⟩
 obtain ⟨r,hr⟩:∃ r,u32 % aJ=r:=⟨_,rfl⟩
 have e10:(u32:Int) / (aJ:Int)=(q:Int):=by rw [← hq];rfl
 have hD:=D1.out
 rw [hq,hr] at hD
 have q1:q≤4294967297:=hD.h8
 have hqm:=hD.h6
 have hu:u32<18446744073709551616:=by have:=D1.out.h4;omega
 have hD1:=hd_ D1.out
 have e11:IntKind.u64.wrap ((q:Int) * (aJ:Int))=((q * aJ:Nat):Int):=by
  rw [Go.Proofs.Mul64.mulN];exact Go.Proofs.Mul64.wrapN _ (by omega)
 obtain ⟨m,hm⟩:∃ m,q * aJ=m:=⟨_,rfl⟩
 rw [hm] at e11 hqm
 have e12:IntKind.u64.wrap ((u32:Int) - (m:Int))=(r:Int):=by rw [show (u32:Int) - (m:Int)=(r:Int) from by omega];exact Go.Proofs.Mul64.wrapN _ (by omega)
 have HD:=hd_ hD
 have HU:=hd_ hu
 clear hD hqm hm hq hr N D1 hu
 go_enter func179,ntmps179
 go_upto_block 0 with (go_at_call 199;refine (k9m y s hs hy _).mono ?_;rintro e w' ⟨rfl,rfl⟩)
 clear e1 e2 e3 e4 e5 e6 e7 e8 e9 e10 e11 e12 t1 t2 t3
 clear q1 y1 y2 y3 y5
 have HY:=hd_ hY;have Hu0:=hd_ hu0
 clear hY hu0
 go_cut [15] (fun v wx=>k1n Y u32 u1 w v wx)
 case first =>
  go_wp2_with fail
  go_loopw [15,16] (fun v u wr=>k0n Y aJ bN u32 u1 w v u wr) (fun v _ _=>(intOf v).toNat)
  case atStart=>exact ⟨_,_,rfl,rfl,HD.out,rfl⟩
  case round =>
   obtain ⟨q,r,rfl,rfl,hD,rfl⟩:=hrel
   have HD:=hd_ hD
   clear hD
   obtain ⟨A,hA⟩:∃ A,q * bN=A:=⟨_,rfl⟩
   obtain ⟨C,hC⟩:∃ C,4294967296 * r+u1=C:=⟨_,rfl⟩
   obtain ⟨E,hE⟩:∃ E,4294967296 * r=E:=⟨_,rfl⟩
   have nb:=hd_ (x6z HD.out hA hC hE)
   have a1:=nb.out.1
   have a2:=nb.out.2.1
   have a3:=nb.out.2.2
   have HA:=hd_ hA;have HC:=hd_ hC
   clear hA hC hE
   by_cases hc:cW≤q∨cW * r+u1<q * bN
   case neg =>
    have hst:=hd_ (HD.out.stop hc)
    have hqW:J ((4294967296:Int)≤(q:Int))=X:=by unfold cW at hc;simp;omega
    have hAC:J (C<A)=X:=by have h1:=HA.out;have h2:=HC.out;unfold cW at hc;simp;omega
    clear hc
    go_wp2
    go_meet
    exact ⟨by rw [hst.out],rfl⟩
   case pos =>
    have Hc:=hd_ hc
    obtain ⟨qq,hqq⟩:∃ qq,q - 1=qq:=⟨_,rfl⟩
    obtain ⟨rr,hrr⟩:∃ rr,r+aJ=rr:=⟨_,rfl⟩
    have b1:IntKind.u64.wrap ((q:Int) - 1)=(qq:Int):=by
     have h1:=(HD.out.down Hc.out).1;have h2:=HD.out.h8
     rw [← hqq,show (q:Int) - 1=((q - 1:Nat):Int) from by omega];exact Go.Proofs.Mul64.wrapN _ (by unfold cW at h2;omega)
    have b2:IntKind.u64.wrap ((r:Int)+(aJ:Int))=(rr:Int):=by
     have h1:=HD.out.h9;have h2:=HD.out.h2
     rw [← hrr,Go.Proofs.Mul64.addN];exact Go.Proofs.Mul64.wrapN _ (by unfold cW at h1 h2;omega)
    have jY:=hd_ hqq;have nu:=hd_ hrr
    clear hqq hrr hc
    have hor:(J ((4294967296:Int)≤(q:Int))=true)∨(J ((4294967296:Int)≤(q:Int))=X∧J (C<A)=true):=by
     have h1:=HA.out;have h2:=HC.out;have h3:=Hc.out
     unfold cW at h3;simp;omega
    have hlt:Hid ((intOf (I .u64 (qq:Int))).toNat<(intOf (I .u64 (q:Int))).toNat):=by
     have h1:=(HD.out.down Hc.out).1;have h2:=jY.out
     show _<_;simp [intOf];omega
    by_cases hr:cW≤r+aJ
    case pos =>
     have hbr:=hd_ (HD.out.broke Hc.out hr)
     have hrW:J ((4294967296:Int)≤(rr:Int))=true:=by have:=nu.out;unfold cW at hr;simp;omega
     clear hr
     rcases hor with tq|⟨tq,tA⟩
     all_goals
      go_wp2
      go_meet
      exact ⟨by rw [← hbr.out,jY.out],rfl⟩
    case neg =>
     have hnx:=hd_ (HD.out.next Hc.out (by omega))
     have hrW:J ((4294967296:Int)≤(rr:Int))=X:=by have:=nu.out;unfold cW at hr;simp;omega
     clear hr
     rcases hor with tq|⟨tq,tA⟩
     all_goals
      go_wp2
      go_roundw
      case rel=>exact ⟨qq,rr,rfl,rfl,by rw [← jY.out,← nu.out];exact hnx.out,rfl⟩
      case measure=>exact hlt.out
 case rest =>
  obtain ⟨rfl,rfl⟩:=hcut
  have hdm:=Nat.div_add_mod (u32 * cW+u1) Y
  have lG:0<Y:=by have:=HD.out.h4;omega
  have hVl:=Nat.mod_lt (u32 * cW+u1) lG
  obtain ⟨T,hT⟩:∃ T,(u32 * cW+u1) / Y=T:=⟨_,rfl⟩
  obtain ⟨V,hV⟩:∃ V,(u32 * cW+u1) % Y=V:=⟨_,rfl⟩
  rw [hT,hV] at hdm
  rw [hV] at hVl
  rw [hT]
  obtain ⟨a1,h1⟩:∃ a1,a1=u32 * 4294967296 % 18446744073709551616:=⟨_,rfl⟩
  obtain ⟨a2,h2⟩:∃ a2,a2=(a1+u1) % 18446744073709551616:=⟨_,rfl⟩
  obtain ⟨a3,h3⟩:∃ a3,a3=T * Y % 18446744073709551616:=⟨_,rfl⟩
  obtain ⟨f1,f2,f3⟩:=y1u u32 u1 (T * Y) V a1 a2 a3 (by rw [Nat.mul_comm T];unfold cW at hdm;omega) (by have:=HY.out;omega) h1 h2 h3
  have f4:IntKind.u64.wrap ((T:Int) * (Y:Int))=(a3:Int):=by rw [Go.Proofs.Mul64.mulN,y0d,h3]
  have hD2:=Dg.mk0 HD.out.hy HD.out.h1 HD.out.h2 HD.out.h3 hVl Hu0.out
  obtain ⟨q2,jG⟩:∃ q2,V / aJ=q2:=⟨_,rfl⟩
  obtain ⟨r2,hr2⟩:∃ r2,V % aJ=r2:=⟨_,rfl⟩
  rw [jG,hr2] at hD2
  have hqm2:=hD2.h6
  have hV64:V<18446744073709551616:=by have:=HY.out;omega
  have yn1':1≤aJ:=by have:=HD.out.h1;omega
  have f5:(V:Int) / (aJ:Int)=(q2:Int):=by rw [← jG];rfl
  obtain ⟨m2,nv⟩:∃ m2,q2 * aJ=m2:=⟨_,rfl⟩
  rw [nv] at hqm2
  have f6:IntKind.u64.wrap ((q2:Int) * (aJ:Int))=(m2:Int):=by rw [Go.Proofs.Mul64.mulN,nv];exact Go.Proofs.Mul64.wrapN _ (by omega)
  have f7:IntKind.u64.wrap ((V:Int) - (m2:Int))=(r2:Int):=by rw [show (V:Int) - (m2:Int)=(r2:Int) from by omega];exact Go.Proofs.Mul64.wrapN _ (by omega)
  have jr:=hd_ hD2;have HT:=hd_ hT;have HV:=hd_ hV;have HVl:=hd_ hVl
  have q2b:(q2:Int)≤4294967297:=by have:=hD2.h8;unfold cW at this;omega
  clear hdm hD2 hT hV hVl h1 h2 h3 jG hr2 hqm2 nv hV64 lG
  go_upto_block 2 with fail
  clear f1 f2 f3 f4 f5 f6 f7 q2b yn1'
  go_cut [18] (fun v wx=>k1n Y V u0 w v wx)
  case first =>
   go_wp2_with fail
   go_loopw [18,16] (fun v u wr=>k0n Y aJ bN V u0 w v u wr) (fun v _ _=>(intOf v).toNat)
   case atStart=>exact ⟨_,_,rfl,rfl,jr.out,rfl⟩
   case round =>
    obtain ⟨q,r,rfl,rfl,hD,rfl⟩:=hrel
    have HD:=hd_ hD
    clear hD
    obtain ⟨A,hA⟩:∃ A,q * bN=A:=⟨_,rfl⟩
    obtain ⟨C,hC⟩:∃ C,4294967296 * r+u0=C:=⟨_,rfl⟩
    obtain ⟨E,hE⟩:∃ E,4294967296 * r=E:=⟨_,rfl⟩
    have nb:=hd_ (x6z HD.out hA hC hE)
    have a1:=nb.out.1
    have a2:=nb.out.2.1
    have a3:=nb.out.2.2
    have HA:=hd_ hA;have HC:=hd_ hC
    clear hA hC hE
    by_cases hc:cW≤q∨cW * r+u0<q * bN
    case neg =>
     have hst:=hd_ (HD.out.stop hc)
     have hqW:J ((4294967296:Int)≤(q:Int))=X:=by unfold cW at hc;simp;omega
     have hAC:J (C<A)=X:=by have h1:=HA.out;have h2:=HC.out;unfold cW at hc;simp;omega
     clear hc
     go_wp2
     go_meet
     exact ⟨by rw [hst.out],rfl⟩
    case pos =>
     have Hc:=hd_ hc
     obtain ⟨qq,hqq⟩:∃ qq,q - 1=qq:=⟨_,rfl⟩
     obtain ⟨rr,hrr⟩:∃ rr,r+aJ=rr:=⟨_,rfl⟩
     have b1:IntKind.u64.wrap ((q:Int) - 1)=(qq:Int):=by
      have h1:=(HD.out.down Hc.out).1;have h2:=HD.out.h8
      rw [← hqq,show (q:Int) - 1=((q - 1:Nat):Int) from by omega];exact Go.Proofs.Mul64.wrapN _ (by unfold cW at h2;omega)
     have b2:IntKind.u64.wrap ((r:Int)+(aJ:Int))=(rr:Int):=by
      have h1:=HD.out.h9;have h2:=HD.out.h2
      rw [← hrr,Go.Proofs.Mul64.addN];exact Go.Proofs.Mul64.wrapN _ (by unfold cW at h1 h2;omega)
     have jY:=hd_ hqq;have nu:=hd_ hrr
     clear hqq hrr hc
     have hor:(J ((4294967296:Int)≤(q:Int))=true)∨(J ((4294967296:Int)≤(q:Int))=X∧J (C<A)=true):=by
      have h1:=HA.out;have h2:=HC.out;have h3:=Hc.out
      unfold cW at h3;simp;omega
     have hlt:Hid ((intOf (I .u64 (qq:Int))).toNat<(intOf (I .u64 (q:Int))).toNat):=by
      have h1:=(HD.out.down Hc.out).1;have h2:=jY.out
      show _<_;simp [intOf];omega
     by_cases hr:cW≤r+aJ
     case pos =>
      have hbr:=hd_ (HD.out.broke Hc.out hr)
      have hrW:J ((4294967296:Int)≤(rr:Int))=true:=by have:=nu.out;unfold cW at hr;simp;omega
      clear hr
      rcases hor with tq|⟨tq,tA⟩
      all_goals
       go_wp2
       go_meet
       exact ⟨by rw [← hbr.out,jY.out],rfl⟩
     case neg =>
      have hnx:=hd_ (HD.out.next Hc.out (by omega))
      have hrW:J ((4294967296:Int)≤(rr:Int))=X:=by have:=nu.out;unfold cW at hr;simp;omega
      clear hr
      rcases hor with tq|⟨tq,tA⟩
      all_goals
       go_wp2
       go_roundw
       case rel=>exact ⟨qq,rr,rfl,rfl,by rw [← jY.out,← nu.out];exact hnx.out,rfl⟩
       case measure=>exact hlt.out
  case rest =>
   obtain ⟨rfl,rfl⟩:=hcut
   have hdm:=Nat.div_add_mod (V * cW+u0) Y
   have lG:0<Y:=by have:=HD.out.h4;omega
   have hRl:=Nat.mod_lt (V * cW+u0) lG
   obtain ⟨T0,nw⟩:∃ T0,(V * cW+u0) / Y=T0:=⟨_,rfl⟩
   obtain ⟨R,hR⟩:∃ R,(V * cW+u0) % Y=R:=⟨_,rfl⟩
   rw [nw,hR] at hdm
   rw [hR] at hRl
   rw [nw]
   obtain ⟨b1,h1⟩:∃ b1,b1=V * 4294967296 % 18446744073709551616:=⟨_,rfl⟩
   obtain ⟨b2,h2⟩:∃ b2,b2=(b1+u0) % 18446744073709551616:=⟨_,rfl⟩
   obtain ⟨b3,h3⟩:∃ b3,b3=T0 * Y % 18446744073709551616:=⟨_,rfl⟩
   obtain ⟨f1,f2,f3⟩:=y1u V u0 (T0 * Y) R b1 b2 b3 (by rw [Nat.mul_comm T0];unfold cW at hdm;omega) (by have:=HY.out;omega) h1 h2 h3
   have f4:IntKind.u64.wrap ((T0:Int) * (Y:Int))=(b3:Int):=by rw [Go.Proofs.Mul64.mulN,y0d,h3]
   have hTW:T<cW:=by
    rw [← HT.out];exact (Nat.div_lt_iff_lt_mul lG).2 (by have h4:=HD.out.h4;have h5:=HD.out.h5;have:(u32+1) * cW≤Y * cW:=Nat.mul_le_mul_right _ h4;rw [Nat.add_mul,Nat.one_mul,Nat.mul_comm Y] at this;omega)
   have hT0W:T0<cW:=by
    rw [← nw];exact (Nat.div_lt_iff_lt_mul lG).2 (by have h4:=HVl.out;have h5:=Hu0.out;have:(V+1) * cW≤Y * cW:=Nat.mul_le_mul_right _ h4;rw [Nat.add_mul,Nat.one_mul,Nat.mul_comm Y] at this;unfold cW at *;omega)
   obtain ⟨tt,htt⟩:∃ tt,T * 4294967296=tt:=⟨_,rfl⟩
   obtain ⟨qq,hqq⟩:∃ qq,tt+T0=qq:=⟨_,rfl⟩
   have g1:IntKind.u64.wrap ((T:Int) * 4294967296)=(tt:Int):=by rw [show (T:Int) * 4294967296=(tt:Int) from by omega];exact Go.Proofs.Mul64.wrapN _ (by unfold cW at hTW;omega)
   have g2:IntKind.u64.wrap ((tt:Int)+(T0:Int))=(qq:Int):=by rw [show (tt:Int)+(T0:Int)=(qq:Int) from by omega];exact Go.Proofs.Mul64.wrapN _ (by unfold cW at hTW hT0W;omega)
   have HT0:=hd_ nw;have HR:=hd_ hR;have Htt:=hd_ htt;have jY:=hd_ hqq
   have HRY:=hd_ hRl
   clear hdm lG hRl h1 h2 h3 nw hR hTW hT0W htt hqq
   go_wp2
   go_ret2
   refine ⟨?_,rfl⟩
   have k1:(u32 * cW+u1) / Y * cW+((u32 * cW+u1) % Y * cW+u0) / Y=qq:=by rw [HT.out,HV.out,HT0.out,← jY.out,← Htt.out];rfl
   have k2:((u32 * cW+u1) % Y * cW+u0) % Y=R:=by rw [HV.out,HR.out]
   rw [k1,k2]
   have k3:((R / 2 ^ s:Nat):Int)=(R:Int) / 2 ^ s:=by rw [Int.natCast_ediv,Int.natCast_pow];rfl
   rw [k3]
   rfl
theorem j6w (a:Nat) (ha:a<18446744073709551616):bits .and .u64 (a:Int) 4294967295=((a % cW:Nat):Int):=Go.Proofs.Mul64.maskN a ha
theorem x6e (lo y:Nat) (hy:0<y) (hlo:Hid (lo<18446744073709551616)) (w:World) :
 Calls prog 179 #[I .u64 0,I .u64 lo,I .u64 y] w fun e w'=>e=.returned (.tuple #[I .u64 ((lo / y:Nat):Int),I .u64 ((lo % y:Nat):Int)])∧Below w.heap.size w w':=by
 have t1:((y:Int) == 0)=X:=by rw [beq_eq_false_iff_ne];omega
 have t3:J ((y:Int)≤0)=X:=by simp;omega
 obtain ⟨qd,hqd⟩:∃ qd,lo / y=qd:=⟨_,rfl⟩
 obtain ⟨rd,bk⟩:∃ rd,lo % y=rd:=⟨_,rfl⟩
 rw [hqd,bk]
 have d3:(lo:Int) / (y:Int)=(qd:Int):=by rw [← hqd];rfl
 have d4:(lo:Int) % (y:Int)=(rd:Int):=by rw [← bk];rfl
 have d5:(lo:Int).tmod (y:Int)=(rd:Int):=by rw [Int.tmod_eq_emod_of_nonneg (by omega),← bk];rfl
 have d1:IntKind.u64.wrap (qd:Int)=(qd:Int):=Go.Proofs.Mul64.wrapN _ (by have:=Nat.div_le_self lo y;have:=hlo.out;omega)
 have d2:IntKind.u64.wrap (rd:Int)=(rd:Int):=Go.Proofs.Mul64.wrapN _ (by have:=Nat.mod_le lo y;have:=hlo.out;omega)
 clear hqd bk
 have y1:(1:Int)≤(y:Int):=by omega
 go_enter func179,ntmps179
 go_wp2
 go_region_held3 (fun _=>True) (trivial) (fail)
 all_goals
  go_wp2
  go_ret2
  exact ⟨rfl,(Below.refl _ _).drew⟩
theorem j7w (H L s:Nat) (hi:Nat) (hH:H=hi * 2 ^ s) (hL:L<2 ^ s):H ||| L=H+L:=by
 have h:=Nat.shiftLeft_add_eq_or_of_lt hL hi
 rw [Nat.shiftLeft_eq] at h
 rw [hH,← h]
theorem y1e (hi lo y s:Nat) (hs:Hid (Lib.bitLen y+s=64)) (bJ:1≤s) (jX:s≤63) (lH:9223372036854775808≤y * 2 ^ s) (bv:y * 2 ^ s<18446744073709551616) (hh:hi<y) (hlo:lo<18446744073709551616) (w:World) :
 Calls prog 179 #[I .u64 hi,I .u64 lo,I .u64 y] w fun e w'=>e=.returned (.tuple #[I .u64 (((hi * 18446744073709551616+lo) / y:Nat):Int),I .u64 (((hi * 18446744073709551616+lo) % y:Nat):Int)])∧Below w.heap.size w w':=by
 have hp:0<2 ^ s:=Nat.two_pow_pos s
 have hy64:y<18446744073709551616:=Nat.lt_of_le_of_lt (Nat.le_mul_of_pos_right y hp) bv
 by_cases h0:hi=0
 ·subst h0
  have:=x6e lo y (by omega) hlo w
  simpa using this
 ·have hk:2 ^ s * 2 ^ (64 - s)=18446744073709551616:=by rw [← Nat.pow_add,show s+(64 - s)=64 from by omega]
  have hH:hi * 2 ^ s<y * 2 ^ s:=Nat.mul_lt_mul_of_pos_right hh hp
  have hL:lo / 2 ^ (64 - s)<2 ^ s:=by
   refine (Nat.div_lt_iff_lt_mul (Nat.two_pow_pos _)).2 ?_
   rw [hk];exact hlo
  have hdv:∀ Y:Nat,(Y:Int) / 4294967296=((Y / cW:Nat):Int):=fun Y=>rfl
  have hor:=j7w (hi * 2 ^ s) (lo / 2 ^ (64 - s)) s hi rfl hL
  have hsum:hi * 2 ^ s+lo / 2 ^ (64 - s)<y * 2 ^ s:=by
   have:(hi+1) * 2 ^ s≤y * 2 ^ s:=Nat.mul_le_mul_right _ hh
   rw [Nat.add_mul,Nat.one_mul] at this;omega
  have cast2:∀ a:Nat,(a:Int) * 2 ^ s=((a * 2 ^ s:Nat):Int):=fun a=>by rw [Int.natCast_mul,Int.natCast_pow];rfl
  have N:DivNums hi lo y s (y * 2 ^ s) (y * 2 ^ s / cW) (y * 2 ^ s % cW) (hi * 2 ^ s) (lo / 2 ^ (64 - s)) (hi * 2 ^ s+lo / 2 ^ (64 - s)) (lo * 2 ^ s % 18446744073709551616) (lo * 2 ^ s % 18446744073709551616 / cW) (lo * 2 ^ s % 18446744073709551616 % cW):=by
   refine ⟨?_,hdv _,j6w _ bv,?_,?_,?_,?_,hdv _,j6w _ (Nat.mod_lt _ (by decide))⟩
   ·rw [cast2];exact Go.Proofs.Mul64.wrapN _ bv
   ·rw [cast2];exact Go.Proofs.Mul64.wrapN _ (by omega)
   ·rw [Int.natCast_ediv,Int.natCast_pow];rfl
   ·rw [bits_or_u64_nat _ _ (by omega) (by omega),hor]
   ·rw [cast2];exact y0d _
  have hy1:2147483648≤y * 2 ^ s / cW:=(Nat.le_div_iff_mul_le (by decide)).2 (by unfold cW;omega)
  have hy2:y * 2 ^ s / cW<cW:=(Nat.div_lt_iff_lt_mul (by decide)).2 (by unfold cW;omega)
  have hD:=Dg.mk0 (y:=y * 2 ^ s) (u1:=lo * 2 ^ s % 18446744073709551616 / cW) (by have:=Nat.div_add_mod (y * 2 ^ s) cW;rw [Nat.mul_comm cW] at this;exact this.symm) hy1 hy2 (Nat.mod_lt (y * 2 ^ s) (by decide:0<cW)) hsum ((Nat.div_lt_iff_lt_mul (by decide)).2 (by have:=Nat.mod_lt (lo * 2 ^ s) (by decide:0<18446744073709551616);unfold cW;omega))
  have hfin:=k0b (hi:=hi) (lo:=lo) (y:=y) (s:=s) rfl rfl rfl rfl rfl (by omega) (by omega)
  refine (x0r hi lo y s _ _ _ _ _ _ _ _ _ N hy64 (by omega) hh hs bJ jX hD bv (Nat.mod_lt _ (by decide)) w).mono ?_
  rintro e w' ⟨rfl,rfl⟩
  rw [hfin.1,hfin.2]
  exact ⟨rfl,Below.refl _ _⟩
end Go.Proofs.YtdblnbnofjggnaaGreatDoor
