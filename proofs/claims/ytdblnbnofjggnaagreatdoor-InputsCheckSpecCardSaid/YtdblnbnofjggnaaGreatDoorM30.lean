/- Parts of the proofs of chapter 49's laws: Jrt Jra Jcp. -/
import Derived.Test.YtdblnbnofjggnaaGreatDoorM29
import Derived.Test.YtdblnbnofjggnaaGreatDoorM15
set_option maxHeartbeats 16000000
set_option maxRecDepth 100000
open Go
open Lib renaming hid → hd_
open List renaming getElem?_eq_getElem → gE
namespace Go.Proofs.YtdblnbnofjggnaaGreatDoor
open Go.RowKit
theorem x5q (a b:List Nod) (va vb:Value) (w:World) (ha:z6j w a va) (hb:z6j w b vb) :
 Calls Tryz.prog 48 #[va,vb] w fun e w'=>e = .returned (.bool (decide (a = b)))∧Below w.heap.size w w':=by
 obtain ⟨oa,ca,rfl,la⟩:=ha.shape
 obtain ⟨ob,cb,rfl,lb⟩:=hb.shape
 have HA:=hd_ ha;have HB:=hd_ hb
 obtain ⟨n,hn⟩:∃ n,a.length = n:=⟨_,rfl⟩
 obtain ⟨m,hm⟩:∃ m,b.length = m:=⟨_,rfl⟩
 rw [hn] at HA la;rw [hm] at HB lb
 have l1:(n:Int) ≤ 9223372036854775807:=by omega
 have l2:(m:Int) ≤ 9223372036854775807:=by omega
 rw [hn,hm]
 have HN:=hd_ hn;have HM:=hd_ hm
 clear ha hb hn hm la lb
 go_enter Tryz.func48,Tryz.ntmps48
 by_cases hl:n = m
 case neg =>
  have t1:decide ((n:Int) = (m:Int)) = false:=decide_eq_false (by omega)
  have t2:((n:Int) == (m:Int)) = false:=beq_false_of_ne (by omega)
  have t3:decide (n = m) = false:=decide_eq_false hl
  have hne:decide (a = b) = false:=decide_eq_false (fun e=>hl (by rw [← HN.out,← HM.out,e]))
  have HE:=hd_ hne
  clear hne hl
  go_wp2_with fail
  go_ret
  exact ⟨by rw [HE.out];rfl,Below.refl _ _⟩
 case pos =>
 subst hl
 go_wp2_with fail
 go_loopw [5] (fun vi wr=>x1q a b n w vi wr) (fun vi _=>n - z3e vi)
 case atStart=>exact ⟨0,rfl,by omega,fun j h=>by omega,Below.refl _ _⟩
 case round =>
  obtain ⟨i,rfl,hi,hs,hb⟩:=hrel
  have HS:=hd_ hs;have HBr:=hd_ hb
  clear hs hb
  by_cases hlt:i < n
  case neg =>
   obtain rfl:i = n:=by omega
   have tj:decide ((i:Int) < (i:Int)) = false:=by simp
   have HE:Hid (decide (a = b) = true):=decide_eq_true (z7j (by rw [HN.out,HM.out]) (fun j hj=>HS.out j (by rw [← HN.out];exact hj)))
   go_wp2_with fail
   go_ret
   exact ⟨by rw [HE.out];rfl,HBr.out⟩
  case pos =>
  have tj:decide ((i:Int) < (n:Int)) = true:=by simp;omega
  have tj':decide (i < n) = true:=by simp;omega
  have kb:(i:Int) < (n:Int):=by omega
  obtain ⟨x,hx⟩:∃ x,a[i]? = some x:=⟨_,gE (by rw [HN.out];exact hlt)⟩
  obtain ⟨y,hy⟩:∃ y,b[i]? = some y:=⟨_,gE (by rw [HM.out];exact hlt)⟩
  obtain ⟨ab,ao,r,rfl,hab,hel,hr⟩:=HA.out.el hx
  obtain ⟨bb,bo,s,rfl,hbb,hem,hs⟩:=HB.out.el hy
  have Hlt:=hd_ hlt;have Hx:=hd_ hx;have Hy:=hd_ hy
  have HNX:Hid (x = y→∀ j,j < i + 1→a[j]? = b[j]?):=fun e j hj=>by
   rcases Nat.lt_succ_iff_lt_or_eq.1 hj with h | h
   · exact HS.out j h
   · rw [h,Hx.out,Hy.out,e]
  have HNE:Hid (x ≠ y→decide (a = b) = false):=fun hne=>decide_eq_false (fun e=>by
   have:=Hx.out;rw [e,Hy.out] at this;injection this with this;exact hne this.symm)
  have hsp:=y3v x y
  have Hr:=hd_ hr.cuts;have Hs:=hd_ hs.cuts
  have e1:=hr.par;have e2:=hr.frm;have e3:=hs.par;have e4:=hs.frm
  rw [← e1,← e2,← e3,← e4] at hsp
  obtain ⟨rp,rf,ra,rn,rc⟩:=r
  obtain ⟨sp,sf,sa,sn,sc⟩:=s
  have hrn:rn = x.cuts.length:=by
   obtain ⟨_,_,he,_⟩:=hr.cuts.shape
   injection he with _ e2 _
  have hsn:sn = y.cuts.length:=by
   obtain ⟨_,_,he,_⟩:=hs.cuts.shape
   injection he with _ e2 _
  have hrm:(rn:Int) ≤ 9223372036854775807:=by
   obtain ⟨_,_,_,hm⟩:=hr.cuts.shape
   omega
  have hsm:(sn:Int) ≤ 9223372036854775807:=by
   obtain ⟨_,_,_,hm⟩:=hs.cuts.shape
   omega
  change decide (x = y) = (decide (rp = sp) && decide (rf = sf) && decide (x.cuts = y.cuts)) at hsp
  change Hid (z9f cuK w.heap.size w x.cuts (.slice ra rn rc)) at Hr
  change Hid (z9f cuK w.heap.size w y.cuts (.slice sa sn sc)) at Hs
  have HSP:=hd_ hsp;have Hrn:=hd_ hrn;have Hsn:=hd_ hsn
  have C0:Hid (wr.cell? ⟨ab,ao + i * 3,none⟩ = some (.int .i64 rp)):=z1a HBr.out (hel 0 _ rfl)
  have C1:Hid (wr.cell? ⟨ab,ao + i * 3 + 1,none⟩ = some (.int .i64 rf)):=z1a HBr.out (hel 1 _ rfl)
  have C2:Hid (wr.cell? ⟨ab,ao + i * 3 + 2,none⟩ = some (.slice ra rn rc)):=z1a HBr.out (hel 2 _ rfl)
  have D0:Hid (wr.cell? ⟨bb,bo + i * 3,none⟩ = some (.int .i64 sp)):=z1a HBr.out (hem 0 _ rfl)
  have D1:Hid (wr.cell? ⟨bb,bo + i * 3 + 1,none⟩ = some (.int .i64 sf)):=z1a HBr.out (hem 1 _ rfl)
  have D2:Hid (wr.cell? ⟨bb,bo + i * 3 + 2,none⟩ = some (.slice sa sn sc)):=z1a HBr.out (hem 2 _ rfl)
  obtain ⟨c1,hc1⟩:∃ c,decide (rp = sp) = !c:=⟨!decide (rp = sp),by simp⟩
  obtain ⟨c2,hc2⟩:∃ c,decide (rf = sf) = !c:=⟨!decide (rf = sf),by simp⟩
  obtain ⟨c3,hc3⟩:∃ c,decide (rn = sn) = !c:=⟨!decide (rn = sn),by simp⟩
  have u1:(rp == sp) = !c1:=by rw [← hc1];rfl
  have v1:(rp != sp) = c1:=by unfold bne;rw [u1];simp
  have u2:(rf == sf) = !c2:=by rw [← hc2];rfl
  have v2:(rf != sf) = c2:=by unfold bne;rw [u2];simp
  have u3:((rn:Int) == (sn:Int)) = !c3:=by rw [← hc3];by_cases h:rn = sn <;> simp [h] <;> omega
  have v3:((rn:Int) != (sn:Int)) = c3:=by unfold bne;rw [u3];simp
  have HS1:Hid (c1 = true→decide (a = b) = false):=fun h=>HNE.out (fun e=>by rw [decide_eq_true e,hc1,h] at hsp;simp at hsp)
  have HS2:Hid (c2 = true→decide (a = b) = false):=fun h=>HNE.out (fun e=>by rw [decide_eq_true e,hc2,h] at hsp;simp at hsp)
  have HS3:Hid (c3 = true→decide (a = b) = false):=fun h=>HNE.out (fun e=>by
   rw [h] at hc3
   have:rn = sn:=by rw [hrn,hsn,e]
   rw [decide_eq_true this] at hc3;cases hc3)
  have HS4:Hid (c1 = false→c2 = false→x.cuts = y.cuts→x = y):=fun h h2 h3=>by rw [hc1,hc2,h,h2,decide_eq_true h3] at hsp;simpa using hsp
  have HS5:Hid (x.cuts ≠ y.cuts→decide (a = b) = false):=fun h=>HNE.out (fun e=>h (by rw [e]))
  have Hc3:=hd_ hc3
  clear hlt hx hy hi hab hel hr hbb hem hs hsp e1 e2 e3 e4 hrn hsn hc1 hc2 hc3
  go_upto_region 6 with fail
  have hbd:Hid (Below wr.heap.size wr wr.drew):=(Below.refl wr.heap.size wr).drew
  refine wp_region_held_drew (S:=fun w'=>Below wr.heap.size wr w') (by kernel_rfl) hbd.out (fun hHeld=>?_)
  have HBd:=hd_ HBr.out.drew
  have HBW:=hbd
  generalize wr.drew = wd at *
  refine tkH (some 18) 0 ?_
  refine tkH (some 19) 1 ?_
  refine tkH (some 20) 2 ?_
  refine tkH (some 21) 3 ?_
  refine tkH (some 22) 4 ?_ (hy:=fun wS hSw=>by have e0:=z1a hSw C0.out;have e1:=z1a hSw C1.out;have e2:=z1a hSw C2.out;have f0:=z1a hSw D0.out;have f1:=z1a hSw D1.out;have f2:=z1a hSw D2.out;go_simp;first | done | with_reducible rfl)
  refine tkH (some 23) 5 ?_
  refine tkH (some 24) 6 ?_
  refine tkH (some 25) 7 ?_
  refine tkH (some 26) 8 ?_
  refine tkH (some 27) 9 ?_ (hy:=fun wS hSw=>by have e0:=z1a hSw C0.out;have e1:=z1a hSw C1.out;have e2:=z1a hSw C2.out;have f0:=z1a hSw D0.out;have f1:=z1a hSw D1.out;have f2:=z1a hSw D2.out;go_simp;first | done | with_reducible rfl)
  refine tkH (some 28) 10 ?_
  refine tkH (some 29) 11 ?_
  cases c1
  case true =>
   refine z7l (some 30) 12 ?_
   refine z7l (some 31) 13 ?_
   refine z7l (some 32) 14 ?_
   refine z7l (some 33) 15 ?_
   refine z7l (some 34) 16 ?_
   refine z7l (some 35) 17 ?_
   refine z7l (some 36) 18 ?_
   refine z7l (some 37) 19 ?_
   refine z7l (some 38) 20 ?_
   refine z7l (some 39) 21 ?_
   refine z7l (some 40) 22 ?_
   refine tkH (some 41) 23 ?_
   refine tkH (some 42) 24 ?_
   refine z7l (some 43) 25 ?_
   refine z7l (some 44) 26 ?_
   refine z7l (some 45) 27 ?_
   refine z7l (some 46) 28 ?_
   refine z7l (some 47) 29 ?_
   refine z7l (some 48) 30 ?_
   refine z7l (some 49) 31 ?_
   refine z7l (some 50) 32 ?_
   refine z7l (some 51) 33 ?_
   refine z7l (some 52) 34 ?_
   refine z7l (some 53) 35 ?_
   refine z7l (some 54) 36 ?_
   refine z7l (some 55) 37 ?_
   refine tkH (some 56) 38 ?_
   refine wpAnyH_done (by kernel_rfl) ?_ _
   go_wp2_with fail
   go_ret
   have hE:decide (a = b) = false:=by first | exact HS1.out rfl | exact HS1.out trivial | exact HS1.out
   exact ⟨by rw [hE];rfl,HBd.out⟩
  case false =>
  refine tkH (some 30) 12 ?_
  refine tkH (some 31) 13 ?_
  refine tkH (some 32) 14 ?_
  refine tkH (some 33) 15 ?_
  refine tkH (some 34) 16 ?_ (hy:=fun wS hSw=>by have e0:=z1a hSw C0.out;have e1:=z1a hSw C1.out;have e2:=z1a hSw C2.out;have f0:=z1a hSw D0.out;have f1:=z1a hSw D1.out;have f2:=z1a hSw D2.out;go_simp;first | done | with_reducible rfl)
  refine tkH (some 35) 17 ?_
  refine tkH (some 36) 18 ?_
  refine tkH (some 37) 19 ?_
  refine tkH (some 38) 20 ?_
  refine tkH (some 39) 21 ?_ (hy:=fun wS hSw=>by have e0:=z1a hSw C0.out;have e1:=z1a hSw C1.out;have e2:=z1a hSw C2.out;have f0:=z1a hSw D0.out;have f1:=z1a hSw D1.out;have f2:=z1a hSw D2.out;go_simp;first | done | with_reducible rfl)
  refine tkH (some 40) 22 ?_
  refine tkH (some 41) 23 ?_
  refine tkH (some 42) 24 ?_
  cases c2
  case true =>
   refine z7l (some 43) 25 ?_
   refine z7l (some 44) 26 ?_
   refine z7l (some 45) 27 ?_
   refine z7l (some 46) 28 ?_
   refine z7l (some 47) 29 ?_
   refine z7l (some 48) 30 ?_
   refine z7l (some 49) 31 ?_
   refine z7l (some 50) 32 ?_
   refine z7l (some 51) 33 ?_
   refine z7l (some 52) 34 ?_
   refine z7l (some 53) 35 ?_
   refine z7l (some 54) 36 ?_
   refine z7l (some 55) 37 ?_
   refine tkH (some 56) 38 ?_
   refine wpAnyH_done (by kernel_rfl) ?_ _
   go_wp2_with fail
   go_ret
   have hE:decide (a = b) = false:=by first | exact HS2.out rfl | exact HS2.out trivial | exact HS2.out
   exact ⟨by rw [hE];rfl,HBd.out⟩
  case false =>
  refine tkH (some 43) 25 ?_
  refine tkH (some 44) 26 ?_
  refine tkH (some 45) 27 ?_
  refine tkH (some 46) 28 ?_
  refine tkH (some 47) 29 ?_ (hy:=fun wS hSw=>by have e0:=z1a hSw C0.out;have e1:=z1a hSw C1.out;have e2:=z1a hSw C2.out;have f0:=z1a hSw D0.out;have f1:=z1a hSw D1.out;have f2:=z1a hSw D2.out;go_simp;first | done | with_reducible rfl)
  refine tkH (some 48) 30 ?_
  refine tkH (some 49) 31 ?_
  refine tkH (some 50) 32 ?_
  refine tkH (some 51) 33 ?_
  refine tkH (some 52) 34 ?_
  refine tkH (some 53) 35 ?_ (hy:=fun wS hSw=>by have e0:=z1a hSw C0.out;have e1:=z1a hSw C1.out;have e2:=z1a hSw C2.out;have f0:=z1a hSw D0.out;have f1:=z1a hSw D1.out;have f2:=z1a hSw D2.out;go_simp;first | done | with_reducible rfl)
  refine tkH (some 54) 36 ?_
  refine tkH (some 55) 37 ?_
  refine tkH (some 56) 38 ?_
  cases c3
  case true =>
   refine wpAnyH_done (by kernel_rfl) ?_ _
   go_wp2_with fail
   go_ret
   have hE:decide (a = b) = false:=by first | exact HS3.out rfl | exact HS3.out trivial | exact HS3.out
   exact ⟨by rw [hE];rfl,HBd.out⟩
  case false =>
  have hnm:rn = sn:=by simpa using Hc3.out
  subst hnm
  refine wpAnyH_done (by kernel_rfl) ?_ _
  have c2':=z1a HBW.out C2.out;have d2':=z1a HBW.out D2.out
  go_wp2_with fail
  clear u1 v1 u2 v2 u3 v3
  have HC2:=hd_ c2';have HD2:=hd_ d2'
  clear C0 C1 C2 D0 D1 D2 c2' d2' hbd HBr HBW HS1 HS2 HS3 Hc3
  generalize wr = wr0 at *
  go_loopw [6] (fun vi wr=>x1q x.cuts y.cuts rn wd vi wr) (fun vi _=>rn - z3e vi)
  case atStart=>exact ⟨0,rfl,by omega,fun j h=>by omega,Below.refl _ _⟩
  case round =>
   obtain ⟨k,rfl,hk,hs,hb⟩:=hrel
   have HQ:=hd_ hs;have HBi:=hd_ hb
   have e2:=z1a hb HC2.out;have f2:=z1a hb HD2.out
   clear hs hb
   by_cases hkn:k < rn
   case neg =>
    obtain rfl:k = rn:=by omega
    have tk:decide ((k:Int) < (k:Int)) = false:=by simp
    have HE:Hid (x.cuts = y.cuts):=z7j (by rw [← Hrn.out,← Hsn.out]) (fun j hj=>HQ.out j (by rw [Hrn.out];exact hj))
    go_wp2_with fail
    go_roundw
    case rel=>exact ⟨i + 1,by go_num,Hlt.out,HNX.out (by first | exact HS4.out rfl rfl HE.out | exact HS4.out trivial trivial HE.out | exact HS4.out HE.out),z0a HBd.out HBi.out⟩
    case measure=>simp [z3e];have:=Hlt.out;omega
   case pos =>
   have tk:decide ((k:Int) < (rn:Int)) = true:=by simp;omega
   have tk':decide (k < rn) = true:=by simp;omega
   have kk:(k:Int) < (rn:Int):=by omega
   obtain ⟨z,hz⟩:∃ z,x.cuts[k]? = some z:=⟨_,gE (by rw [← Hrn.out];exact hkn)⟩
   obtain ⟨q,hq⟩:∃ q,y.cuts[k]? = some q:=⟨_,gE (by rw [← Hsn.out];exact hkn)⟩
   obtain ⟨xb,xo,rfl⟩:=z7e Hr.out (k:=k) (by rw [← Hrn.out];exact hkn)
   obtain ⟨yb,yo,rfl⟩:=z7e Hs.out (k:=k) (by rw [← Hsn.out];exact hkn)
   have Hkn:=hd_ hkn;have Hz:=hd_ hz;have Hq:=hd_ hq
   have HMX:Hid (z = q→∀ j,j < k + 1→x.cuts[j]? = y.cuts[j]?):=fun e j hj=>by
    rcases Nat.lt_succ_iff_lt_or_eq.1 hj with h | h
    · exact HQ.out j h
    · rw [h,Hz.out,Hq.out,e]
   have HME:Hid (z ≠ q→decide (a = b) = false):=fun hne=>HS5.out (fun e=>by
    have:=Hz.out;rw [e,Hq.out] at this;injection this with this;exact hne this.symm)
   go_upto_region 11 with fail
   have K:=hd_ HBi.out.drew
   have R1:=hd_ (z2l (z3u Hr.out hz) (z0a HBd.out K.out));have R2:=hd_ (z2l (z3u Hs.out hq) (z0a HBd.out K.out))
   have R3:=hd_ (z1a K.out HC2.out);have R4:=hd_ (z1a K.out HD2.out)
   clear hkn hz hq hk e2 f2
   refine wp_region_held_drew (S:=fun w'=>w'.rangeAt xb (xo + k * 5) z.cells∧w'.rangeAt yb (yo + k * 5) q.cells∧w'.cell? ⟨ab,ao + i * 3 + 2,none⟩ = some (.slice (some ⟨xb,xo,none⟩) rn rc)∧w'.cell? ⟨bb,bo + i * 3 + 2,none⟩ = some (.slice (some ⟨yb,yo,none⟩) rn sc)) (by kernel_rfl) ⟨R1.out,R2.out,R3.out,R4.out⟩ (fun hHeld=>?_)
   clear R1 R2 R3 R4 HBi
   generalize wr.drew = wA at *
   refine tkH (some 67) 0 ?_
   refine tkH (some 68) 1 ?_
   refine tkH (some 69) 2 ?_
   refine tkH (some 70) 3 ?_
   refine tkH (some 71) 4 ?_
   refine tkH (some 72) 5 ?_
   refine tkH (some 73) 6 ?_
   refine x5j (some 74) 7 rfl (.agg z.cells.toArray) (yieldsIf_load_mid (by rfl) 88 _ rfl xb (xo + k * 5) rfl z.cells _ (fun wS hSw=>by obtain ⟨s1,s2,s3,s4⟩:=hSw;exact s1) Tryz.underlying88 rfl (by kernel_rfl)) ?_
   refine tkH (some 75) 8 ?_
   refine tkH (some 76) 9 ?_
   refine tkH (some 77) 10 ?_
   refine tkH (some 78) 11 ?_
   refine tkH (some 79) 12 ?_
   refine tkH (some 80) 13 ?_
   refine tkH (some 81) 14 ?_
   refine x5j (some 82) 15 rfl (.agg q.cells.toArray) (yieldsIf_load_mid (by rfl) 88 _ rfl yb (yo + k * 5) rfl q.cells _ (fun wS hSw=>by obtain ⟨s1,s2,s3,s4⟩:=hSw;exact s2) Tryz.underlying88 rfl (by kernel_rfl)) ?_
   have hgd:=fun (a1 a2:Operand) (W:World)=>j7s .neq a1 a2 z q W
   by_cases hzq:z = q
   · have heq:∀ W:World,(Op.equalIn 10000 88 (.agg z.cells.toArray) (.agg q.cells.toArray)).run Tryz.prog W = .ok true W:=fun W=>by rw [x7l,decide_eq_true hzq]
     have HX:=hd_ (HMX.out hzq)
     clear hzq
     refine tkH (some 83) 16 ?_
     refine wpAnyH_done (by kernel_rfl) ?_ _
     go_wp2_with fail
     go_roundw
     case rel=>exact ⟨k + 1,by go_num,Hkn.out,HX.out,K.out⟩
     case measure=>simp [z3e];have:=Hkn.out;omega
   · have heq:∀ W:World,(Op.equalIn 10000 88 (.agg z.cells.toArray) (.agg q.cells.toArray)).run Tryz.prog W = .ok false W:=fun W=>by rw [x7l,decide_eq_false hzq]
     have HE:=hd_ (HME.out hzq)
     clear hzq
     refine tkH (some 83) 16 ?_
     refine wpAnyH_done (by kernel_rfl) ?_ _
     go_wp2_with fail
     go_ret
     exact ⟨by rw [HE.out];rfl,z0a HBd.out K.out⟩
theorem y0w (x y:Inp) (s t:Slc) (w:World) (hx:InpR w x s) (hy:InpR w y t) :
 Calls Tryz.prog 18 #[x.v s,y.v t] w fun e w'=>e = .returned (.bool (decide (x = y)))∧Below w.heap.size w w':=by
 have hb0:Below w.heap.size w ((w.alloc (.cells (x.cells s).toArray 41)).alloc (.cells (y.cells t).toArray 41)):=(z5b (w:=w) (.cells (x.cells s).toArray 41)).alloc (z5b (w:=w) (.cells (x.cells s).toArray 41)).size _
 have hcx:CB ((w.alloc (.cells (x.cells s).toArray 41)).alloc (.cells (y.cells t).toArray 41)) w.heap.size 41 (x.cells s):=(z6a w _ _ _ rfl).alloc _
 have hcy:CB ((w.alloc (.cells (x.cells s).toArray 41)).alloc (.cells (y.cells t).toArray 41)) (w.heap.size + 1) 41 (y.cells t):=by
  have:=z6a (w.alloc (.cells (x.cells s).toArray 41)) (.cells (y.cells t).toArray 41) 41 (y.cells t) rfl
  rwa [World.size_alloc] at this
 have HB0:=hd_ hb0;have HX:=hd_ hcx;have HY:=hd_ hcy;have HXR:=hd_ hx;have HYR:=hd_ hy
 have HSP:=hd_ (y7v x y)
 clear hb0 hcx hcy hx hy
 change Calls Tryz.prog 18 #[.agg (x.cells s).toArray,.agg (y.cells t).toArray] w _
 go_enter Tryz.func18,Tryz.ntmps18
 obtain ⟨b1,hb1⟩:∃ b,(x.mi == y.mi && x.ce == y.ce && x.no == y.no) = b:=⟨_,rfl⟩
 obtain ⟨b2,hb2⟩:∃ b,(decide (x.kind = y.kind)) = b:=⟨_,rfl⟩
 obtain ⟨b3,hb3⟩:∃ b,(decide (x.text = y.text)) = b:=⟨_,rfl⟩
 obtain ⟨b4,hb4⟩:∃ b,(j8r x.rep y.rep) = b:=⟨_,rfl⟩
 obtain ⟨b5,hb5⟩:∃ b,(x.sts.st == y.sts.st && x.sts.frm == y.sts.frm && x.sts.wk == y.sts.wk) = b:=⟨_,rfl⟩
 obtain ⟨b6,hb6⟩:∃ b,(decide (x.n = y.n)) = b:=⟨_,rfl⟩
 obtain ⟨b7,hb7⟩:∃ b,(x.sr == y.sr && x.ss == y.ss) = b:=⟨_,rfl⟩
 obtain ⟨b8,hb8⟩:∃ b,(decide (x.flt = y.flt)) = b:=⟨_,rfl⟩
 obtain ⟨b9,hb9⟩:∃ b,(decide (x.tree = y.tree)) = b:=⟨_,rfl⟩
 obtain ⟨b10,hb10⟩:∃ b,(decide (x.chg = y.chg)) = b:=⟨_,rfl⟩
 obtain ⟨b11,hb11⟩:∃ b,(decide (x.stn = y.stn)) = b:=⟨_,rfl⟩
 rw [hb1,hb2,hb3,hb4,hb5,hb6,hb7,hb8,hb9,hb10,hb11] at HSP
 have qb1:∀ W:World,(Op.equalIn 10000 23 (.agg #[.int .i64 x.mi,.int .i64 x.ce,.int .i64 x.no]) (.agg #[.int .i64 y.mi,.int .i64 y.ce,.int .i64 y.no])).run Tryz.prog W = .ok b1 W:=fun W=>by rw [← hb1];exact z3k x.mi x.ce x.no y.mi y.ce y.no W
 have gb1:∀ (a1 a2:Operand) (W:World),(eqGuard .eql 23 a1 a2 (.agg #[.int .i64 x.mi,.int .i64 x.ce,.int .i64 x.no]) (.agg #[.int .i64 y.mi,.int .i64 y.ce,.int .i64 y.no])).run Tryz.prog W = .ok () W:=fun a1 a2 W=>z4k .eql a1 a2 x.mi x.ce x.no y.mi y.ce y.no W
 have qb4:∀ W:World,(Op.equalIn 10000 33 (.agg #[.int .i64 x.rep.st,.int .i64 x.rep.no,.int .i64 x.rep.mi,.int .i64 x.rep.ar,.string x.rep.cl,.int .i64 x.rep.vo]) (.agg #[.int .i64 y.rep.st,.int .i64 y.rep.no,.int .i64 y.rep.mi,.int .i64 y.rep.ar,.string y.rep.cl,.int .i64 y.rep.vo])).run Tryz.prog W = .ok b4 W:=fun W=>by rw [← hb4];exact k2h x.rep y.rep W
 have gb4:∀ (a1 a2:Operand) (W:World),(eqGuard .eql 33 a1 a2 (.agg #[.int .i64 x.rep.st,.int .i64 x.rep.no,.int .i64 x.rep.mi,.int .i64 x.rep.ar,.string x.rep.cl,.int .i64 x.rep.vo]) (.agg #[.int .i64 y.rep.st,.int .i64 y.rep.no,.int .i64 y.rep.mi,.int .i64 y.rep.ar,.string y.rep.cl,.int .i64 y.rep.vo])).run Tryz.prog W = .ok () W:=fun a1 a2 W=>k3h .eql a1 a2 x.rep y.rep W
 have qb5:∀ W:World,(Op.equalIn 10000 35 (.agg #[.int .i64 x.sts.st,.int .i64 x.sts.frm,.bool x.sts.wk]) (.agg #[.int .i64 y.sts.st,.int .i64 y.sts.frm,.bool y.sts.wk])).run Tryz.prog W = .ok b5 W:=fun W=>by rw [← hb5];exact y1v x.sts.st x.sts.frm x.sts.wk y.sts.st y.sts.frm y.sts.wk W
 have gb5:∀ (a1 a2:Operand) (W:World),(eqGuard .eql 35 a1 a2 (.agg #[.int .i64 x.sts.st,.int .i64 x.sts.frm,.bool x.sts.wk]) (.agg #[.int .i64 y.sts.st,.int .i64 y.sts.frm,.bool y.sts.wk])).run Tryz.prog W = .ok () W:=fun a1 a2 W=>y2v .eql a1 a2 x.sts.st x.sts.frm x.sts.wk y.sts.st y.sts.frm y.sts.wk W
 have qb7:∀ W:World,(Op.equalIn 10000 39 (.agg #[.int .i64 x.sr,.int .i64 x.ss]) (.agg #[.int .i64 y.sr,.int .i64 y.ss])).run Tryz.prog W = .ok b7 W:=fun W=>by rw [← hb7];exact j5s x.sr x.ss y.sr y.ss W
 have gb7:∀ (a1 a2:Operand) (W:World),(eqGuard .eql 39 a1 a2 (.agg #[.int .i64 x.sr,.int .i64 x.ss]) (.agg #[.int .i64 y.sr,.int .i64 y.ss])).run Tryz.prog W = .ok () W:=fun a1 a2 W=>j6s .eql a1 a2 x.sr x.ss y.sr y.ss W
 have u2:(x.kind == y.kind) = b2:=by rw [← hb2];rfl
 have u3:(x.text.toList == y.text.toList) = b3:=by rw [← hb3];exact x8l _ _
 have u6:(x.n == y.n) = b6:=by rw [← hb6];rfl
 have HF:Hid (∀ W,Below w.heap.size w W→Calls Tryz.prog 47 #[.agg #[.int .i64 x.flt.id,.int .i64 x.flt.air,.int .i64 x.flt.cls,.string x.flt.call,s.ways,.int .i64 x.flt.wf,.int .i64 x.flt.wt,.bool x.flt.can],.agg #[.int .i64 y.flt.id,.int .i64 y.flt.air,.int .i64 y.flt.cls,.string y.flt.call,t.ways,.int .i64 y.flt.wf,.int .i64 y.flt.wt,.bool y.flt.can]] W fun e w'=>e = .returned (.bool b8)∧Below W.heap.size W w'):=fun W hW=>by rw [← hb8];exact j5b x.flt y.flt s.ways t.ways W (HXR.out.ways.ext hW) (HYR.out.ways.ext hW)
 have HT:Hid (∀ W,Below w.heap.size w W→Calls Tryz.prog 48 #[s.tree,t.tree] W fun e w'=>e = .returned (.bool b9)∧Below W.heap.size W w'):=fun W hW=>by rw [← hb9];exact x5q x.tree y.tree s.tree t.tree W (HXR.out.tree.ext hW) (HYR.out.tree.ext hW)
 have HC:Hid (∀ W,Below w.heap.size w W→Calls Tryz.prog 49 #[.agg #[.int .i64 x.chg.frm,.int .i64 x.chg.cfg,s.modes],.agg #[.int .i64 y.chg.frm,.int .i64 y.chg.cfg,t.modes]] W fun e w'=>e = .returned (.bool b10)∧Below W.heap.size W w'):=fun W hW=>by rw [← hb10];exact j6b x.chg y.chg s.modes t.modes W (HXR.out.modes.ext hW) (HYR.out.modes.ext hW)
 have HS:Hid (∀ W,Below w.heap.size w W→Calls Tryz.prog 50 #[.agg #[s.vols,.int .i64 x.stn.sh,.int .i64 x.stn.fa],.agg #[t.vols,.int .i64 y.stn.sh,.int .i64 y.stn.fa]] W fun e w'=>e = .returned (.bool b11)∧Below W.heap.size W w'):=fun W hW=>by rw [← hb11];exact j7b x.stn y.stn s.vols t.vols W (HXR.out.vols.ext hW) (HYR.out.vols.ext hW)
 have c0:((w.alloc (.cells (x.cells s).toArray 41)).alloc (.cells (y.cells t).toArray 41)).cell? ⟨w.heap.size,0,none⟩ = some (.int .i64 x.mi):=HX.out.cell 0
 have d0:((w.alloc (.cells (x.cells s).toArray 41)).alloc (.cells (y.cells t).toArray 41)).cell? ⟨w.heap.size + 1,0,none⟩ = some (.int .i64 y.mi):=HY.out.cell 0
 have c1:((w.alloc (.cells (x.cells s).toArray 41)).alloc (.cells (y.cells t).toArray 41)).cell? ⟨w.heap.size,1,none⟩ = some (.int .i64 x.ce):=HX.out.cell 1
 have d1:((w.alloc (.cells (x.cells s).toArray 41)).alloc (.cells (y.cells t).toArray 41)).cell? ⟨w.heap.size + 1,1,none⟩ = some (.int .i64 y.ce):=HY.out.cell 1
 have c2:((w.alloc (.cells (x.cells s).toArray 41)).alloc (.cells (y.cells t).toArray 41)).cell? ⟨w.heap.size,2,none⟩ = some (.int .i64 x.no):=HX.out.cell 2
 have d2:((w.alloc (.cells (x.cells s).toArray 41)).alloc (.cells (y.cells t).toArray 41)).cell? ⟨w.heap.size + 1,2,none⟩ = some (.int .i64 y.no):=HY.out.cell 2
 have c3:((w.alloc (.cells (x.cells s).toArray 41)).alloc (.cells (y.cells t).toArray 41)).cell? ⟨w.heap.size,3,none⟩ = some (.int .i64 x.kind):=HX.out.cell 3
 have d3:((w.alloc (.cells (x.cells s).toArray 41)).alloc (.cells (y.cells t).toArray 41)).cell? ⟨w.heap.size + 1,3,none⟩ = some (.int .i64 y.kind):=HY.out.cell 3
 have c4:((w.alloc (.cells (x.cells s).toArray 41)).alloc (.cells (y.cells t).toArray 41)).cell? ⟨w.heap.size,4,none⟩ = some (.string x.text):=HX.out.cell 4
 have d4:((w.alloc (.cells (x.cells s).toArray 41)).alloc (.cells (y.cells t).toArray 41)).cell? ⟨w.heap.size + 1,4,none⟩ = some (.string y.text):=HY.out.cell 4
 have c17:((w.alloc (.cells (x.cells s).toArray 41)).alloc (.cells (y.cells t).toArray 41)).cell? ⟨w.heap.size,17,none⟩ = some (.int .i64 x.rep.st):=HX.out.cell 17
 have d17:((w.alloc (.cells (x.cells s).toArray 41)).alloc (.cells (y.cells t).toArray 41)).cell? ⟨w.heap.size + 1,17,none⟩ = some (.int .i64 y.rep.st):=HY.out.cell 17
 have c18:((w.alloc (.cells (x.cells s).toArray 41)).alloc (.cells (y.cells t).toArray 41)).cell? ⟨w.heap.size,18,none⟩ = some (.int .i64 x.rep.no):=HX.out.cell 18
 have d18:((w.alloc (.cells (x.cells s).toArray 41)).alloc (.cells (y.cells t).toArray 41)).cell? ⟨w.heap.size + 1,18,none⟩ = some (.int .i64 y.rep.no):=HY.out.cell 18
 have c19:((w.alloc (.cells (x.cells s).toArray 41)).alloc (.cells (y.cells t).toArray 41)).cell? ⟨w.heap.size,19,none⟩ = some (.int .i64 x.rep.mi):=HX.out.cell 19
 have d19:((w.alloc (.cells (x.cells s).toArray 41)).alloc (.cells (y.cells t).toArray 41)).cell? ⟨w.heap.size + 1,19,none⟩ = some (.int .i64 y.rep.mi):=HY.out.cell 19
 have c20:((w.alloc (.cells (x.cells s).toArray 41)).alloc (.cells (y.cells t).toArray 41)).cell? ⟨w.heap.size,20,none⟩ = some (.int .i64 x.rep.ar):=HX.out.cell 20
 have d20:((w.alloc (.cells (x.cells s).toArray 41)).alloc (.cells (y.cells t).toArray 41)).cell? ⟨w.heap.size + 1,20,none⟩ = some (.int .i64 y.rep.ar):=HY.out.cell 20
 have c21:((w.alloc (.cells (x.cells s).toArray 41)).alloc (.cells (y.cells t).toArray 41)).cell? ⟨w.heap.size,21,none⟩ = some (.string x.rep.cl):=HX.out.cell 21
 have d21:((w.alloc (.cells (x.cells s).toArray 41)).alloc (.cells (y.cells t).toArray 41)).cell? ⟨w.heap.size + 1,21,none⟩ = some (.string y.rep.cl):=HY.out.cell 21
 have c22:((w.alloc (.cells (x.cells s).toArray 41)).alloc (.cells (y.cells t).toArray 41)).cell? ⟨w.heap.size,22,none⟩ = some (.int .i64 x.rep.vo):=HX.out.cell 22
 have d22:((w.alloc (.cells (x.cells s).toArray 41)).alloc (.cells (y.cells t).toArray 41)).cell? ⟨w.heap.size + 1,22,none⟩ = some (.int .i64 y.rep.vo):=HY.out.cell 22
 have c23:((w.alloc (.cells (x.cells s).toArray 41)).alloc (.cells (y.cells t).toArray 41)).cell? ⟨w.heap.size,23,none⟩ = some (.int .i64 x.sts.st):=HX.out.cell 23
 have d23:((w.alloc (.cells (x.cells s).toArray 41)).alloc (.cells (y.cells t).toArray 41)).cell? ⟨w.heap.size + 1,23,none⟩ = some (.int .i64 y.sts.st):=HY.out.cell 23
 have c24:((w.alloc (.cells (x.cells s).toArray 41)).alloc (.cells (y.cells t).toArray 41)).cell? ⟨w.heap.size,24,none⟩ = some (.int .i64 x.sts.frm):=HX.out.cell 24
 have d24:((w.alloc (.cells (x.cells s).toArray 41)).alloc (.cells (y.cells t).toArray 41)).cell? ⟨w.heap.size + 1,24,none⟩ = some (.int .i64 y.sts.frm):=HY.out.cell 24
 have c25:((w.alloc (.cells (x.cells s).toArray 41)).alloc (.cells (y.cells t).toArray 41)).cell? ⟨w.heap.size,25,none⟩ = some (.bool x.sts.wk):=HX.out.cell 25
 have d25:((w.alloc (.cells (x.cells s).toArray 41)).alloc (.cells (y.cells t).toArray 41)).cell? ⟨w.heap.size + 1,25,none⟩ = some (.bool y.sts.wk):=HY.out.cell 25
 have c26:((w.alloc (.cells (x.cells s).toArray 41)).alloc (.cells (y.cells t).toArray 41)).cell? ⟨w.heap.size,26,none⟩ = some (.int .i64 x.n):=HX.out.cell 26
 have d26:((w.alloc (.cells (x.cells s).toArray 41)).alloc (.cells (y.cells t).toArray 41)).cell? ⟨w.heap.size + 1,26,none⟩ = some (.int .i64 y.n):=HY.out.cell 26
 have c30:((w.alloc (.cells (x.cells s).toArray 41)).alloc (.cells (y.cells t).toArray 41)).cell? ⟨w.heap.size,30,none⟩ = some (.int .i64 x.sr):=HX.out.cell 30
 have d30:((w.alloc (.cells (x.cells s).toArray 41)).alloc (.cells (y.cells t).toArray 41)).cell? ⟨w.heap.size + 1,30,none⟩ = some (.int .i64 y.sr):=HY.out.cell 30
 have c31:((w.alloc (.cells (x.cells s).toArray 41)).alloc (.cells (y.cells t).toArray 41)).cell? ⟨w.heap.size,31,none⟩ = some (.int .i64 x.ss):=HX.out.cell 31
 have d31:((w.alloc (.cells (x.cells s).toArray 41)).alloc (.cells (y.cells t).toArray 41)).cell? ⟨w.heap.size + 1,31,none⟩ = some (.int .i64 y.ss):=HY.out.cell 31
 have c5:((w.alloc (.cells (x.cells s).toArray 41)).alloc (.cells (y.cells t).toArray 41)).cell? ⟨w.heap.size,5,none⟩ = some (.int .i64 x.flt.id):=HX.out.cell 5
 have d5:((w.alloc (.cells (x.cells s).toArray 41)).alloc (.cells (y.cells t).toArray 41)).cell? ⟨w.heap.size + 1,5,none⟩ = some (.int .i64 y.flt.id):=HY.out.cell 5
 have c6:((w.alloc (.cells (x.cells s).toArray 41)).alloc (.cells (y.cells t).toArray 41)).cell? ⟨w.heap.size,6,none⟩ = some (.int .i64 x.flt.air):=HX.out.cell 6
 have d6:((w.alloc (.cells (x.cells s).toArray 41)).alloc (.cells (y.cells t).toArray 41)).cell? ⟨w.heap.size + 1,6,none⟩ = some (.int .i64 y.flt.air):=HY.out.cell 6
 have c7:((w.alloc (.cells (x.cells s).toArray 41)).alloc (.cells (y.cells t).toArray 41)).cell? ⟨w.heap.size,7,none⟩ = some (.int .i64 x.flt.cls):=HX.out.cell 7
 have d7:((w.alloc (.cells (x.cells s).toArray 41)).alloc (.cells (y.cells t).toArray 41)).cell? ⟨w.heap.size + 1,7,none⟩ = some (.int .i64 y.flt.cls):=HY.out.cell 7
 have c8:((w.alloc (.cells (x.cells s).toArray 41)).alloc (.cells (y.cells t).toArray 41)).cell? ⟨w.heap.size,8,none⟩ = some (.string x.flt.call):=HX.out.cell 8
 have d8:((w.alloc (.cells (x.cells s).toArray 41)).alloc (.cells (y.cells t).toArray 41)).cell? ⟨w.heap.size + 1,8,none⟩ = some (.string y.flt.call):=HY.out.cell 8
 have c9:((w.alloc (.cells (x.cells s).toArray 41)).alloc (.cells (y.cells t).toArray 41)).cell? ⟨w.heap.size,9,none⟩ = some (s.ways):=HX.out.cell 9
 have d9:((w.alloc (.cells (x.cells s).toArray 41)).alloc (.cells (y.cells t).toArray 41)).cell? ⟨w.heap.size + 1,9,none⟩ = some (t.ways):=HY.out.cell 9
 have c10:((w.alloc (.cells (x.cells s).toArray 41)).alloc (.cells (y.cells t).toArray 41)).cell? ⟨w.heap.size,10,none⟩ = some (.int .i64 x.flt.wf):=HX.out.cell 10
 have d10:((w.alloc (.cells (x.cells s).toArray 41)).alloc (.cells (y.cells t).toArray 41)).cell? ⟨w.heap.size + 1,10,none⟩ = some (.int .i64 y.flt.wf):=HY.out.cell 10
 have c11:((w.alloc (.cells (x.cells s).toArray 41)).alloc (.cells (y.cells t).toArray 41)).cell? ⟨w.heap.size,11,none⟩ = some (.int .i64 x.flt.wt):=HX.out.cell 11
 have d11:((w.alloc (.cells (x.cells s).toArray 41)).alloc (.cells (y.cells t).toArray 41)).cell? ⟨w.heap.size + 1,11,none⟩ = some (.int .i64 y.flt.wt):=HY.out.cell 11
 have c12:((w.alloc (.cells (x.cells s).toArray 41)).alloc (.cells (y.cells t).toArray 41)).cell? ⟨w.heap.size,12,none⟩ = some (.bool x.flt.can):=HX.out.cell 12
 have d12:((w.alloc (.cells (x.cells s).toArray 41)).alloc (.cells (y.cells t).toArray 41)).cell? ⟨w.heap.size + 1,12,none⟩ = some (.bool y.flt.can):=HY.out.cell 12
 clear hb1 hb2 hb3 hb4 hb5 hb6 hb7 hb8 hb9 hb10 hb11 HXR HYR
 go_wp2_with (first
  | (go_at_call 47;refine (HF.out _ HB0.out).mono ?_;go_loud (
   rintro e w2 ⟨rfl,hb⟩
   have HB2:=hd_ (z0a HB0.out hb);have HX2:=hd_ (HX.out.ext hb);have HY2:=hd_ (HY.out.ext hb)
   clear hb c0 d0 c1 d1 c2 d2 c3 d3 c4 d4 c17 d17 c18 d18 c19 d19 c20 d20 c21 d21 c22 d22 c23 d23 c24 d24 c25 d25 c26 d26 c30 d30 c31 d31 c5 d5 c6 d6 c7 d7 c8 d8 c9 d9 c10 d10 c11 d11 c12 d12
   have c13:w2.cell? ⟨w.heap.size,13,none⟩ = some s.tree:=HX2.out.cell 13
   have d13:w2.cell? ⟨w.heap.size + 1,13,none⟩ = some t.tree:=HY2.out.cell 13))
  | (go_at_call 48;refine (HT.out _ HB2.out).mono ?_;go_loud (
   rintro e w3 ⟨rfl,hb⟩
   have HB3:=hd_ (z0a HB2.out hb);have HX3:=hd_ (HX2.out.ext hb);have HY3:=hd_ (HY2.out.ext hb)
   clear hb c13 d13
   have c14:w3.cell? ⟨w.heap.size,14,none⟩ = some (.int .i64 x.chg.frm):=HX3.out.cell 14
   have d14:w3.cell? ⟨w.heap.size + 1,14,none⟩ = some (.int .i64 y.chg.frm):=HY3.out.cell 14
   have c15:w3.cell? ⟨w.heap.size,15,none⟩ = some (.int .i64 x.chg.cfg):=HX3.out.cell 15
   have d15:w3.cell? ⟨w.heap.size + 1,15,none⟩ = some (.int .i64 y.chg.cfg):=HY3.out.cell 15
   have c16:w3.cell? ⟨w.heap.size,16,none⟩ = some (s.modes):=HX3.out.cell 16
   have d16:w3.cell? ⟨w.heap.size + 1,16,none⟩ = some (t.modes):=HY3.out.cell 16))
  | (go_at_call 49;refine (HC.out _ HB3.out).mono ?_;go_loud (
   rintro e w4 ⟨rfl,hb⟩
   have HB4:=hd_ (z0a HB3.out hb);have HX4:=hd_ (HX3.out.ext hb);have HY4:=hd_ (HY3.out.ext hb)
   clear hb c14 d14 c15 d15 c16 d16
   have c27:w4.cell? ⟨w.heap.size,27,none⟩ = some (s.vols):=HX4.out.cell 27
   have d27:w4.cell? ⟨w.heap.size + 1,27,none⟩ = some (t.vols):=HY4.out.cell 27
   have c28:w4.cell? ⟨w.heap.size,28,none⟩ = some (.int .i64 x.stn.sh):=HX4.out.cell 28
   have d28:w4.cell? ⟨w.heap.size + 1,28,none⟩ = some (.int .i64 y.stn.sh):=HY4.out.cell 28
   have c29:w4.cell? ⟨w.heap.size,29,none⟩ = some (.int .i64 x.stn.fa):=HX4.out.cell 29
   have d29:w4.cell? ⟨w.heap.size + 1,29,none⟩ = some (.int .i64 y.stn.fa):=HY4.out.cell 29))
  | (go_at_call 50;refine (HS.out _ HB4.out).mono ?_;go_loud (
   rintro e w5 ⟨rfl,hb⟩
   have HB5:=hd_ (z0a HB4.out hb)
   clear hb)))
 · (try clear u2 u3 u6 qb1 qb4 qb5 qb7 gb1 gb4 gb5 gb7);(try simp only [Bool.not_eq_true] at *);subst_vars;go_ret;exact ⟨by first | (rw [HSP.out];rfl) | rfl,by first | exact HB5.out | exact HB4.out | exact HB3.out | exact HB2.out | exact HB0.out⟩
 all_goals (try clear u2 u3 u6 qb1 qb4 qb5 qb7 gb1 gb4 gb5 gb7;try simp only [Bool.not_eq_true] at *;subst_vars;go_ret;exact ⟨by first | (rw [HSP.out];rfl) | rfl,by first | exact HB5.out | exact HB4.out | exact HB3.out | exact HB2.out | exact HB0.out⟩)
def orZ (x y:Int):Int:=if x ≠ 0 then x else y
theorem z2j (y:Int):orZ 0 y = y:=by unfold orZ;rw [if_neg (by simp)]
theorem y5j {x:Int} (y:Int) (h:x ≠ 0):orZ x y = x:=by unfold orZ;rw [if_pos h]
def y5g (a0 a1 a2 b0 b1 b2:Int):Int:=orZ (x0p a0 b0) (orZ (x0p a1 b1) (x0p a2 b2))
theorem j4y (x y z:Int) (g cap:Nat) (w:World) (c0:w.cell? ⟨g,0,none⟩ = some (.int .i64 x)) (c1:w.cell? ⟨g,1,none⟩ = some (.int .i64 y)) (c2:w.cell? ⟨g,2,none⟩ = some (.int .i64 z)) :
 Calls Tryz.prog 42 #[.slice (some ⟨g,0,none⟩) 3 cap] w fun e w'=>e = .returned (.int .i64 (orZ x (orZ y z)))∧w = w':=by
 by_cases hx:x = 0
 · subst hx
   rw [z2j]
   by_cases hy:y = 0
   · subst hy
     rw [z2j]
     by_cases hz:z = 0
     · subst hz
       go_enter Tryz.func42,Tryz.ntmps42
       go_wp2
       refine wp_loop_rounds 4 ?_
       rw [rounds_succ];go_wp2
       rw [rounds_succ];go_wp2
       rw [rounds_succ];go_wp2
       rw [rounds_succ];go_wp2
       go_ret
       exact ⟨rfl,rfl⟩
     · have t1:(z != 0) = true:=by rw [bne_iff_ne];exact hz
       have t2:¬ z = 0:=hz
       clear hz
       go_enter Tryz.func42,Tryz.ntmps42
       go_wp2
       refine wp_loop_rounds 4 ?_
       rw [rounds_succ];go_wp2
       rw [rounds_succ];go_wp2
       rw [rounds_succ];go_wp2
       go_ret
       exact ⟨rfl,rfl⟩
   · have t1:(y != 0) = true:=by rw [bne_iff_ne];exact hy
     have t2:¬ y = 0:=hy
     rw [y5j z hy]
     clear hy
     go_enter Tryz.func42,Tryz.ntmps42
     go_wp2
     refine wp_loop_rounds 4 ?_
     rw [rounds_succ];go_wp2
     rw [rounds_succ];go_wp2
     go_ret
     exact ⟨rfl,rfl⟩
 · have t1:(x != 0) = true:=by rw [bne_iff_ne];exact hx
   rw [y5j _ hx]
   go_enter Tryz.func42,Tryz.ntmps42
   go_wp2
   refine wp_loop_rounds 4 ?_
   rw [rounds_succ];go_wp2
   go_ret
   exact ⟨rfl,rfl⟩
theorem z7y (a0 a1 a2 b0 b1 b2:Int) (w:World):Calls Tryz.prog 16 #[.agg #[.int .i64 a0,.int .i64 a1,.int .i64 a2],.agg #[.int .i64 b0,.int .i64 b1,.int .i64 b2]] w fun e w'=>e = .returned (.int .i64 (y5g a0 a1 a2 b0 b1 b2))∧Below w.heap.size w w':=by
 have hb0:Below w.heap.size w ((w.alloc (.cells #[.int .i64 a0,.int .i64 a1,.int .i64 a2] 23)).alloc (.cells #[.int .i64 b0,.int .i64 b1,.int .i64 b2] 23)):=(z5b (w:=w) _).alloc (z5b (w:=w) (.cells #[.int .i64 a0,.int .i64 a1,.int .i64 a2] 23)).size _
 have hca:CB ((w.alloc (.cells #[.int .i64 a0,.int .i64 a1,.int .i64 a2] 23)).alloc (.cells #[.int .i64 b0,.int .i64 b1,.int .i64 b2] 23)) w.heap.size 23 [.int .i64 a0,.int .i64 a1,.int .i64 a2]:=(z6a w _ _ _ rfl).alloc _
 have hcb:CB ((w.alloc (.cells #[.int .i64 a0,.int .i64 a1,.int .i64 a2] 23)).alloc (.cells #[.int .i64 b0,.int .i64 b1,.int .i64 b2] 23)) (w.heap.size + 1) 23 [.int .i64 b0,.int .i64 b1,.int .i64 b2]:=by
  have:=z6a (w.alloc (.cells #[.int .i64 a0,.int .i64 a1,.int .i64 a2] 23)) (.cells #[.int .i64 b0,.int .i64 b1,.int .i64 b2] 23) 23 [.int .i64 b0,.int .i64 b1,.int .i64 b2] rfl
  rwa [World.size_alloc] at this
 have HB:=hd_ hb0;have HA0:=hd_ hca;have HB0:=hd_ hcb
 obtain ⟨x,hx⟩:∃ x,x0p a0 b0 = x:=⟨_,rfl⟩
 obtain ⟨y,hy⟩:∃ x,x0p a1 b1 = x:=⟨_,rfl⟩
 obtain ⟨z,hz⟩:∃ x,x0p a2 b2 = x:=⟨_,rfl⟩
 have HR:Hid (y5g a0 a1 a2 b0 b1 b2 = orZ x (orZ y z)):=by show _ = _;unfold y5g;rw [hx,hy,hz]
 have HX:=hd_ hx;have HY:=hd_ hy;have HZ:=hd_ hz
 clear hb0 hca hcb hx hy hz
 go_enter Tryz.func16,Tryz.ntmps16
 go_upto_region 1 with fail
 change Code.wp _ _ _ _ ((w.alloc (.cells #[.int .i64 a0,.int .i64 a1,.int .i64 a2] 23)).alloc (.cells #[.int .i64 b0,.int .i64 b1,.int .i64 b2] 23))
 generalize ((w.alloc (.cells #[.int .i64 a0,.int .i64 a1,.int .i64 a2] 23)).alloc (.cells #[.int .i64 b0,.int .i64 b1,.int .i64 b2] 23)) = w0 at *
 have hbd:Hid (Below w0.heap.size w0 w0.drew):=(Below.refl w0.heap.size w0).drew
 have p0:w0.cell? ⟨w.heap.size,0,none⟩ = some (.int .i64 a0):=HA0.out.cell 0
 have p1:w0.cell? ⟨w.heap.size,1,none⟩ = some (.int .i64 a1):=HA0.out.cell 1
 have p2:w0.cell? ⟨w.heap.size,2,none⟩ = some (.int .i64 a2):=HA0.out.cell 2
 have q0:w0.cell? ⟨w.heap.size + 1,0,none⟩ = some (.int .i64 b0):=HB0.out.cell 0
 have q1:w0.cell? ⟨w.heap.size + 1,1,none⟩ = some (.int .i64 b1):=HB0.out.cell 1
 have q2:w0.cell? ⟨w.heap.size + 1,2,none⟩ = some (.int .i64 b2):=HB0.out.cell 2
 have P0:=hd_ p0;have P1:=hd_ p1;have P2:=hd_ p2;have Q0:=hd_ q0;have Q1:=hd_ q1;have Q2:=hd_ q2
 clear p0 p1 p2 q0 q1 q2 HA0 HB0
 refine wp_region_held_drew (S:=fun w'=>Below w0.heap.size w0 w') (by kernel_rfl) hbd.out (fun hHeld=>?_)
 have HBW:=hbd
 have HBd:=hd_ HB.out.drew
 generalize w0.drew = wd at *
 refine tkH (some 5) 0 ?_
 refine tkH (some 6) 1 ?_ (hy:=fun wS hSw=>by have e0:=z1a hSw P0.out;have e1:=z1a hSw P1.out;have e2:=z1a hSw P2.out;have f0:=z1a hSw Q0.out;have f1:=z1a hSw Q1.out;have f2:=z1a hSw Q2.out;go_simp;first | done | with_reducible rfl)
 refine tkH (some 7) 2 ?_
 refine tkH (some 8) 3 ?_ (hy:=fun wS hSw=>by have e0:=z1a hSw P0.out;have e1:=z1a hSw P1.out;have e2:=z1a hSw P2.out;have f0:=z1a hSw Q0.out;have f1:=z1a hSw Q1.out;have f2:=z1a hSw Q2.out;go_simp;first | done | with_reducible rfl)
 refine tkH (some 10) 5 ?_
 refine tkH (some 11) 6 ?_ (hy:=fun wS hSw=>by have e0:=z1a hSw P0.out;have e1:=z1a hSw P1.out;have e2:=z1a hSw P2.out;have f0:=z1a hSw Q0.out;have f1:=z1a hSw Q1.out;have f2:=z1a hSw Q2.out;go_simp;first | done | with_reducible rfl)
 refine tkH (some 12) 7 ?_
 refine tkH (some 13) 8 ?_ (hy:=fun wS hSw=>by have e0:=z1a hSw P0.out;have e1:=z1a hSw P1.out;have e2:=z1a hSw P2.out;have f0:=z1a hSw Q0.out;have f1:=z1a hSw Q1.out;have f2:=z1a hSw Q2.out;go_simp;first | done | with_reducible rfl)
 refine tkH (some 15) 10 ?_
 refine tkH (some 16) 11 ?_ (hy:=fun wS hSw=>by have e0:=z1a hSw P0.out;have e1:=z1a hSw P1.out;have e2:=z1a hSw P2.out;have f0:=z1a hSw Q0.out;have f1:=z1a hSw Q1.out;have f2:=z1a hSw Q2.out;go_simp;first | done | with_reducible rfl)
 refine tkH (some 17) 12 ?_
 refine tkH (some 18) 13 ?_ (hy:=fun wS hSw=>by have e0:=z1a hSw P0.out;have e1:=z1a hSw P1.out;have e2:=z1a hSw P2.out;have f0:=z1a hSw Q0.out;have f1:=z1a hSw Q1.out;have f2:=z1a hSw Q2.out;go_simp;first | done | with_reducible rfl)
 refine rdH 4 fun K hK=>?_
 go_simp
 refine (z1u a0 b0 wd).mono ?_
 rintro e w7 ⟨rfl,rfl⟩
 rw [HX.out]
 refine goK hK HBW.out fun hHeld=>?_
 clear hK K
 refine rdH 9 fun K hK=>?_
 go_simp
 refine (z1u a1 b1 wd).mono ?_
 rintro e w7 ⟨rfl,rfl⟩
 rw [HY.out]
 refine goK hK HBW.out fun hHeld=>?_
 clear hK K
 refine rdH 14 fun K hK=>?_
 go_simp
 refine (z1u a2 b2 wd).mono ?_
 rintro e w7 ⟨rfl,rfl⟩
 rw [HZ.out]
 refine goK hK HBW.out fun hHeld=>?_
 clear hK K
 refine rdH 15 fun K hK=>?_
 go_simp
 change K _ (wd.alloc (.cells #[.int .i64 x,.int .i64 y,.int .i64 z] 3))
 have HN:Hid (CB (wd.alloc (.cells #[.int .i64 x,.int .i64 y,.int .i64 z] 3)) wd.heap.size 3 [.int .i64 x,.int .i64 y,.int .i64 z]):=z6a wd _ _ _ rfl
 have HBn:=hd_ (z0a HBd.out (z5b (.cells #[.int .i64 x,.int .i64 y,.int .i64 z] 3)));replace HBW:=hd_ (z0a HBW.out (z5b (.cells #[.int .i64 x,.int .i64 y,.int .i64 z] 3)))
 generalize wd.alloc (.cells #[.int .i64 x,.int .i64 y,.int .i64 z] 3) = we at *
 refine goK hK HBW.out fun hHeld=>?_
 clear hK K
 refine rdH 16 fun K hK=>?_
 go_simp
 refine (j4y x y z wd.heap.size 3 we (HN.out.cell 0) (HN.out.cell 1) (HN.out.cell 2)).mono ?_
 rintro e w7 ⟨rfl,rfl⟩
 refine goK hK HBW.out fun hHeld=>?_
 clear hK K
 refine tkH (some 4) 17 ?_
 refine wpAnyH_done (by kernel_rfl) ?_ _
 go_wp2_with fail
 go_ret
 exact ⟨by rw [HR.out];rfl,HBn.out⟩
theorem y6n (a0 a1 a2 b0 b1 b2:Int) (w:World):Calls Tryz.prog 19 #[.agg #[.int .i64 a0,.int .i64 a1,.int .i64 a2],.agg #[.int .i64 b0,.int .i64 b1,.int .i64 b2]] w fun e w'=>e = .returned (.int .i64 (y5g a0 a1 a2 b0 b1 b2))∧Below w.heap.size w w':=by
 have HB:Hid (Below w.heap.size w ((w.alloc (.cells #[.int .i64 a0,.int .i64 a1,.int .i64 a2] 23)).alloc (.cells #[.int .i64 b0,.int .i64 b1,.int .i64 b2] 23))):=(z5b (w:=w) _).alloc (z5b (w:=w) (.cells #[.int .i64 a0,.int .i64 a1,.int .i64 a2] 23)).size _
 rcases Int.lt_trichotomy a0 b0 with ha0 | ha0 | ha0
 · skip
   have HR:Hid (y5g a0 a1 a2 b0 b1 b2 = -1):=by show _ = _;unfold y5g;rw [y1m ha0,y5j _ (by decide)]
   have la0:decide (a0 < b0) = true:=decide_eq_true ha0
   have ma0:(a0 == b0) = false:=beq_false_of_ne (by omega)
   have heq:∀ W:World,(Op.equalIn 10000 23 (.agg #[.int .i64 a0,.int .i64 a1,.int .i64 a2]) (.agg #[.int .i64 b0,.int .i64 b1,.int .i64 b2])).run Tryz.prog W = .ok false W:=fun W=>by rw [z3k];rw [ma0];rfl
   have hgd:∀ (x y:Operand) (W:World),(eqGuard .eql 23 x y (.agg #[.int .i64 a0,.int .i64 a1,.int .i64 a2]) (.agg #[.int .i64 b0,.int .i64 b1,.int .i64 b2])).run Tryz.prog W = .ok () W:=fun x y W=>z4k .eql x y _ _ _ _ _ _ W
   clear ha0
   go_enter Tryz.func19,Tryz.ntmps19
   go_wp2_with fail
   go_ret
   exact ⟨by rw [HR.out];rfl,HB.out⟩
 · subst ha0
   rcases Int.lt_trichotomy a1 b1 with ha1 | ha1 | ha1
   · skip
     have HR:Hid (y5g a0 a1 a2 a0 b1 b2 = -1):=by show _ = _;unfold y5g;rw [z4m,z2j,y1m ha1,y5j _ (by decide)]
     have la1:decide (a1 < b1) = true:=decide_eq_true ha1
     have ma1:(a1 == b1) = false:=beq_false_of_ne (by omega)
     have heq:∀ W:World,(Op.equalIn 10000 23 (.agg #[.int .i64 a0,.int .i64 a1,.int .i64 a2]) (.agg #[.int .i64 a0,.int .i64 b1,.int .i64 b2])).run Tryz.prog W = .ok false W:=fun W=>by rw [z3k];rw [ma1];simp
     have hgd:∀ (x y:Operand) (W:World),(eqGuard .eql 23 x y (.agg #[.int .i64 a0,.int .i64 a1,.int .i64 a2]) (.agg #[.int .i64 a0,.int .i64 b1,.int .i64 b2])).run Tryz.prog W = .ok () W:=fun x y W=>z4k .eql x y _ _ _ _ _ _ W
     clear ha1
     go_enter Tryz.func19,Tryz.ntmps19
     go_wp2_with fail
     go_ret
     exact ⟨by rw [HR.out];rfl,HB.out⟩
   · subst ha1
     rcases Int.lt_trichotomy a2 b2 with ha2 | ha2 | ha2
     · skip
       have HR:Hid (y5g a0 a1 a2 a0 a1 b2 = -1):=by show _ = _;unfold y5g;rw [z4m,z2j,z4m,z2j,y1m ha2]
       have la2:decide (a2 < b2) = true:=decide_eq_true ha2
       have ma2:(a2 == b2) = false:=beq_false_of_ne (by omega)
       have heq:∀ W:World,(Op.equalIn 10000 23 (.agg #[.int .i64 a0,.int .i64 a1,.int .i64 a2]) (.agg #[.int .i64 a0,.int .i64 a1,.int .i64 b2])).run Tryz.prog W = .ok false W:=fun W=>by rw [z3k];rw [ma2];simp
       have hgd:∀ (x y:Operand) (W:World),(eqGuard .eql 23 x y (.agg #[.int .i64 a0,.int .i64 a1,.int .i64 a2]) (.agg #[.int .i64 a0,.int .i64 a1,.int .i64 b2])).run Tryz.prog W = .ok () W:=fun x y W=>z4k .eql x y _ _ _ _ _ _ W
       clear ha2
       go_enter Tryz.func19,Tryz.ntmps19
       go_wp2_with fail
       go_ret
       exact ⟨by rw [HR.out];rfl,HB.out⟩
     · subst ha2
       have HR:Hid (y5g a0 a1 a2 a0 a1 a2 = 0):=by show _ = _;unfold y5g;rw [z4m,z2j,z4m,z2j,z4m]
       have heq:∀ W:World,(Op.equalIn 10000 23 (.agg #[.int .i64 a0,.int .i64 a1,.int .i64 a2]) (.agg #[.int .i64 a0,.int .i64 a1,.int .i64 a2])).run Tryz.prog W = .ok true W:=fun W=>by rw [z3k];simp
       have hgd:∀ (x y:Operand) (W:World),(eqGuard .eql 23 x y (.agg #[.int .i64 a0,.int .i64 a1,.int .i64 a2]) (.agg #[.int .i64 a0,.int .i64 a1,.int .i64 a2])).run Tryz.prog W = .ok () W:=fun x y W=>z4k .eql x y _ _ _ _ _ _ W
       go_enter Tryz.func19,Tryz.ntmps19
       go_wp2_with fail
       go_ret
       exact ⟨by rw [HR.out];rfl,HB.out⟩
     · skip
       have HR:Hid (y5g a0 a1 a2 a0 a1 b2 = 1):=by show _ = _;unfold y5g;rw [z4m,z2j,z4m,z2j,y2m ha2]
       have la2:decide (a2 < b2) = false:=decide_eq_false (by omega)
       have ma2:(a2 == b2) = false:=beq_false_of_ne (by omega)
       have heq:∀ W:World,(Op.equalIn 10000 23 (.agg #[.int .i64 a0,.int .i64 a1,.int .i64 a2]) (.agg #[.int .i64 a0,.int .i64 a1,.int .i64 b2])).run Tryz.prog W = .ok false W:=fun W=>by rw [z3k];rw [ma2];simp
       have hgd:∀ (x y:Operand) (W:World),(eqGuard .eql 23 x y (.agg #[.int .i64 a0,.int .i64 a1,.int .i64 a2]) (.agg #[.int .i64 a0,.int .i64 a1,.int .i64 b2])).run Tryz.prog W = .ok () W:=fun x y W=>z4k .eql x y _ _ _ _ _ _ W
       clear ha2
       go_enter Tryz.func19,Tryz.ntmps19
       go_wp2_with fail
       go_ret
       exact ⟨by rw [HR.out];rfl,HB.out⟩
   · skip
     have HR:Hid (y5g a0 a1 a2 a0 b1 b2 = 1):=by show _ = _;unfold y5g;rw [z4m,z2j,y2m ha1,y5j _ (by decide)]
     have la1:decide (a1 < b1) = false:=decide_eq_false (by omega)
     have ma1:(a1 == b1) = false:=beq_false_of_ne (by omega)
     have heq:∀ W:World,(Op.equalIn 10000 23 (.agg #[.int .i64 a0,.int .i64 a1,.int .i64 a2]) (.agg #[.int .i64 a0,.int .i64 b1,.int .i64 b2])).run Tryz.prog W = .ok false W:=fun W=>by rw [z3k];rw [ma1];simp
     have hgd:∀ (x y:Operand) (W:World),(eqGuard .eql 23 x y (.agg #[.int .i64 a0,.int .i64 a1,.int .i64 a2]) (.agg #[.int .i64 a0,.int .i64 b1,.int .i64 b2])).run Tryz.prog W = .ok () W:=fun x y W=>z4k .eql x y _ _ _ _ _ _ W
     clear ha1
     go_enter Tryz.func19,Tryz.ntmps19
     go_wp2_with fail
     go_ret
     exact ⟨by rw [HR.out];rfl,HB.out⟩
 · skip
   have HR:Hid (y5g a0 a1 a2 b0 b1 b2 = 1):=by show _ = _;unfold y5g;rw [y2m ha0,y5j _ (by decide)]
   have la0:decide (a0 < b0) = false:=decide_eq_false (by omega)
   have ma0:(a0 == b0) = false:=beq_false_of_ne (by omega)
   have heq:∀ W:World,(Op.equalIn 10000 23 (.agg #[.int .i64 a0,.int .i64 a1,.int .i64 a2]) (.agg #[.int .i64 b0,.int .i64 b1,.int .i64 b2])).run Tryz.prog W = .ok false W:=fun W=>by rw [z3k];rw [ma0];rfl
   have hgd:∀ (x y:Operand) (W:World),(eqGuard .eql 23 x y (.agg #[.int .i64 a0,.int .i64 a1,.int .i64 a2]) (.agg #[.int .i64 b0,.int .i64 b1,.int .i64 b2])).run Tryz.prog W = .ok () W:=fun x y W=>z4k .eql x y _ _ _ _ _ _ W
   clear ha0
   go_enter Tryz.func19,Tryz.ntmps19
   go_wp2_with fail
   go_ret
   exact ⟨by rw [HR.out];rfl,HB.out⟩
end Go.Proofs.YtdblnbnofjggnaaGreatDoor
