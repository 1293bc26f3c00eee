/- Parts of the proofs of chapter 49's laws: Jtb Jfc Jrc Jky. -/
import Derived.Test.YtdblnbnofjggnaaGreatDoorM31
import Derived.Deep.QuietTactic
import Derived.BigQuiet
import Derived.Deep.DeepCutAuto
import Derived.Carry
import Derived.WalkMore
import Derived.Deep.MidRow
set_option maxHeartbeats 8000000
set_option maxRecDepth 100000
open Go
open Lib renaming hid → hd_
open List renaming getElem?_eq_getElem → gE
open List renaming getElem?_eq_some_iff → gS
namespace Go.Proofs.YtdblnbnofjggnaaGreatDoor
open Go.RowKit
def x2r (l:List Nod) (p:Int):Int:=((l[p.toNat]?).map Nod.frm).getD 0
def x3r (l:List Nod) (i:Nat) (t:Nod):Bool:=((l.take i).drop 1).all fun s=>decide (s.par ≠ t.par) || decide (s.frm = t.frm)
def z6z (t:Nod):Bool:=t.cuts.all (z6x t.frm) && decide (t.cuts.length ≤ 64)
def y5w (l:List Nod) (i:Nat) (t:Nod):Bool:=if i = 0 then decide (t.par = -1) && decide (t.frm = 0) else inB t.par 0 ((i:Int) - 1) && inB t.frm (x2r l t.par + 1) 1439
def y7d (l:List Nod) (i:Nat) (t:Nod):Bool:=y5w l i t && x3r l i t && z6z t
def j1c (l:List Nod):Bool:=(List.range l.length).all fun i=>match l[i]? with
 | some t=>y7d l i t
 | none=>true
def z5n (l:List Nod):Bool:=decide (1 ≤ l.length) && decide (l.length ≤ 32) && j1c l
theorem y8d {l:List Nod} {i:Nat} {t:Nod} (ht:l[i]? = some t) (h:y7d l i t = false):z5n l = false:=by
 have:j1c l = false:=by
  unfold j1c
  rw [List.all_eq_false]
  exact ⟨i,List.mem_range.2 (gS.1 ht).1,by rw [ht];simp [h]⟩
 unfold z5n;rw [this];simp
theorem y6w {l:List Nod} (h1:1 ≤ l.length) (h2:l.length ≤ 32) (h:∀ j t,j < l.length→l[j]? = some t→y7d l j t = true):z5n l = true:=by
 have:j1c l = true:=by
  unfold j1c
  rw [List.all_eq_true]
  intro i hi
  have hi:=List.mem_range.1 hi
  have hg:l[i]? = some l[i]:=gE hi
  rw [hg];exact h i _ hi hg
 unfold z5n;rw [this,decide_eq_true h1,decide_eq_true h2];rfl
theorem y0o {l:List Nod} {i:Nat} {t:Nod} (h:∀ j s,1 ≤ j→j < i→l[j]? = some s→s.par = t.par→s.frm = t.frm):x3r l i t = true:=by
 unfold x3r
 rw [List.all_eq_true]
 intro s hs
 obtain ⟨k,hk⟩:=List.mem_iff_getElem?.1 hs
 rw [List.getElem?_drop] at hk
 have hlt:1 + k < i:=by
  have:=(gS.1 hk).1
  rw [List.length_take] at this;omega
 rw [List.getElem?_take_of_lt hlt] at hk
 by_cases hp:s.par = t.par
 · have:=h (1 + k) s (by omega) hlt hk hp
   simp [this]
 · simp [hp]
theorem y7w {l:List Nod} {i j:Nat} {t s:Nod} (h1:1 ≤ j) (h2:j < i) (hs:l[j]? = some s) (hp:s.par = t.par) (hf:s.frm ≠ t.frm):x3r l i t = false:=by
 unfold x3r
 rw [List.all_eq_false]
 refine ⟨s,?_,by simp [hp,hf]⟩
 rw [List.mem_iff_getElem?]
 exact ⟨j - 1,by rw [List.getElem?_drop,show 1 + (j - 1) = j by omega,List.getElem?_take_of_lt h2];exact hs⟩
theorem j6y {l:List Nod} {i:Nat} (h:∀ j t,j < i→l[j]? = some t→y7d l j t = true):∀ j t,j < i→l[j]? = some t→0 ≤ t.frm∧t.frm ≤ 1439:=by
 intro j
 induction j using Nat.strongRecOn with
 | ind j ih =>
  intro t hj ht
  have hn:=h j t hj ht
  unfold y7d y5w at hn
  simp only [Bool.and_eq_true] at hn
  by_cases h0:j = 0
  · rw [if_pos h0] at hn
    simp only [Bool.and_eq_true,decide_eq_true_eq] at hn
    omega
  · rw [if_neg h0] at hn
    have hp:=hn.1.1
    unfold inB at hp
    simp only [Bool.and_eq_true,decide_eq_true_eq] at hp
    have hlt:t.par.toNat < j:=by omega
    have hl:=(gS.1 ht).1
    have hg:l[t.par.toNat]? = some l[t.par.toNat]:=gE (by omega)
    have hb:=ih t.par.toNat hlt _ (by omega) hg
    have he:x2r l t.par = (l[t.par.toNat]).frm:=by unfold x2r;rw [hg];rfl
    omega
def KnI (l:List Nod) (i:Nat) (T:Int→Option Int):Prop :=
 (∀ p f,T p = some f→∃ j s,1 ≤ j∧j < i∧l[j]? = some s∧s.par = p∧s.frm = f)∧∀ j s,1 ≤ j→j < i→l[j]? = some s→T s.par = some s.frm
theorem j2n (l:List Nod):KnI l 0 (fun _=>none):=⟨fun p f h=>by simp at h,fun j s _ h=>by omega⟩
theorem k7i {l:List Nod} {T:Int→Option Int} (h:KnI l 0 T):KnI l 1 T :=
 ⟨fun p f hp=>by obtain ⟨j,s,h1,h2,_⟩:=h.1 p f hp;omega,fun j s h1 h2=>by omega⟩
theorem j7y {l:List Nod} {i:Nat} {T:Int→Option Int} {t:Nod} (h:KnI l i T) (hi:1 ≤ i) (ht:l[i]? = some t) (ho:∀ f,T t.par = some f→f = t.frm) :
 KnI l (i + 1) (fun s=>if s = t.par then some t.frm else T s):=by
 refine ⟨fun p f hp=>?_,fun j s h1 h2 hs=>?_⟩
 · by_cases he:p = t.par
   · simp only [he,if_pos] at hp
     injection hp with hp
     exact ⟨i,t,hi,by omega,ht,he.symm,hp⟩
   · simp only [if_neg he] at hp
     obtain ⟨j,s,a,b,c⟩:=h.1 p f hp
     exact ⟨j,s,a,by omega,c⟩
 · by_cases hj:j = i
   · subst hj
     rw [ht] at hs;injection hs with hs
     subst hs;simp
   · have hT:=h.2 j s h1 (by omega) hs
     by_cases he:s.par = t.par
     · have:=ho s.frm (by rw [← he];exact hT)
       simp [he,this]
     · simp only [if_neg he];exact hT
theorem k8i {l:List Nod} {i:Nat} {T:Int→Option Int} {t:Nod} (h:KnI l i T) (ho:∀ f,T t.par = some f→f = t.frm):x3r l i t = true :=
 y0o fun j s h1 h2 hs hp=>ho s.frm (by rw [← hp];exact h.2 j s h1 h2 hs)
theorem k9i {l:List Nod} {i:Nat} {T:Int→Option Int} {t:Nod} {f:Int} (h:KnI l i T) (hf:T t.par = some f) (hne:f ≠ t.frm):x3r l i t = false:=by
 obtain ⟨j,s,h1,h2,hs,hp,rfl⟩:=h.1 _ _ hf
 exact y7w h1 h2 hs hp hne
theorem y8w {l:List Nod} {p:Nat} {s:Nod} (h:l[p]? = some s):x2r l (p:Int) = s.frm:=by
 unfold x2r
 rw [show (p:Int).toNat = p by omega,h];rfl
theorem j2c {l:List Nod} {t:Nod} (h1:t.par = -1) (h2:t.frm = 0) (hc:z6z t = true):y7d l 0 t = true:=by
 unfold y7d y5w;rw [if_pos rfl,decide_eq_true h1,decide_eq_true h2,hc];unfold x3r;simp
theorem y1o {l:List Nod} {i:Nat} {t:Nod} (h:z6z t = false):y7d l i t = false:=by unfold y7d;rw [h];simp
theorem y2o {l:List Nod} {i:Nat} {t:Nod} (h:y5w l i t = false):y7d l i t = false:=by unfold y7d;rw [h];rfl
theorem j3c {l:List Nod} {i:Nat} {t:Nod} (h:x3r l i t = false):y7d l i t = false:=by unfold y7d;rw [h];simp
theorem x8e {l:List Nod} {i:Nat} {t:Nod} (h1:y5w l i t = true) (h2:x3r l i t = true) (h3:z6z t = true):y7d l i t = true:=by unfold y7d;rw [h1,h2,h3];rfl
theorem y3o {t:Nod} (h:(t.cuts.any fun c=>!z6x t.frm c) = true):z6z t = false:=by
 unfold z6z
 obtain ⟨c,hc,hb⟩:=List.any_eq_true.1 h
 have:t.cuts.all (z6x t.frm) = false:=List.all_eq_false.2 ⟨c,hc,by simpa using hb⟩
 rw [this];rfl
theorem z1w {t:Nod} (h:(t.cuts.any fun c=>!z6x t.frm c) = false):z6z t = decide (t.cuts.length ≤ 64):=by
 unfold z6z
 have:t.cuts.all (z6x t.frm) = true:=List.all_eq_true.2 fun c hc=>by
  have:=List.any_eq_false.1 h c hc
  simpa using this
 rw [this];rfl
def k0j (l:List Nod) (n:Nat) (w:World) (vi:Value) (wr:World):Prop :=
 ∃ (i k:Nat) (T:Int→Option Int),vi = .int .i64 (i:Int)∧i ≤ n∧k ≤ i∧(∀ j y,j < i→l[j]? = some y→y7d l j y = true)∧KnI l i T∧j1n wr w.heap.size k T∧Below w.heap.size w wr
theorem j8y (n a b:Int) (w:World):Calls Tryz.prog 75 #[.int .i64 n,.int .i64 a,.int .i64 b] w fun e w'=>e = .returned (.bool (inB n a b))∧w' = w:=by
 refine (y7n n a b w).mono ?_
 rintro e w' ⟨rfl,rfl⟩
 exact ⟨rfl,rfl⟩
theorem x4r (l:List Nod) (v:Value) (w:World) (hl:z6j w l v) :
 Calls Tryz.prog 30 #[v] w fun e w'=>e = .returned (.int .i64 (if z5n l then 0 else 180))∧Below w.heap.size w w':=by
 obtain ⟨oa,cap,rfl,la⟩:=hl.shape
 have HL:=hd_ hl
 obtain ⟨n,hn⟩:∃ n,l.length = n:=⟨_,rfl⟩
 rw [hn] at HL la ⊢
 have l1:(n:Int) ≤ 9223372036854775807:=by omega
 have HN:=hd_ hn
 obtain ⟨Z,hZ⟩:∃ z:Int,(if z5n l then (0:Int) else 180) = z:=⟨_,rfl⟩
 have HZ:=hd_ hZ
 rw [hZ]
 clear hl hn la hZ
 have HI:=hd_ (fun W=>y7n (n:Int) 1 32 W)
 go_enter Tryz.func30,Tryz.ntmps30
 go_wp2_with fail
 go_step3
 by_cases hin:inB (n:Int) 1 32 = true
 case neg =>
  have hin:inB (n:Int) 1 32 = false:=by simpa using hin
  rw [hin] at HI
  have HE:Hid (Z = 180):=by
   show _ = _
   have:z5n l = false:=by
    unfold z5n;rw [HN.out]
    unfold inB at hin
    by_cases h1:1 ≤ n
    · have:¬ n ≤ 32:=fun h2=>by simp at hin;omega
      simp [this]
    · simp [h1]
   rw [← HZ.out,this];rfl
  clear hin
  go_wp2_with (go_at_call 75;refine (HI.out _).mono ?_;go_loud (rintro e w' ⟨rfl,rfl⟩))
  (try rw [Exit.noGoto_ret]);go_ret
  exact ⟨by rw [HE.out];rfl,Below.refl _ _⟩
 case pos =>
 rw [hin] at HI
 have hn1:1 ≤ n∧n ≤ 32:=by unfold inB at hin;simp at hin;omega
 obtain ⟨n1,n2⟩:=hn1
 clear hin
 obtain ⟨t0,ht0⟩:∃ t,l[0]? = some t:=⟨_,gE (by rw [HN.out];omega)⟩
 obtain ⟨ab,ao,r0,rfl,_,hel,hr0⟩:=HL.out.el ht0
 obtain ⟨rp,rf,ro,rn,rc⟩:=r0
 have c0:w.cell? ⟨ab,ao,none⟩ = some (.int .i64 rp):=by have:=hel 0 _ rfl;simpa using this
 have c1:w.cell? ⟨ab,ao + 1,none⟩ = some (.int .i64 rf):=by have:=hel 1 _ rfl;simpa using this
 obtain ⟨p1,p2,_⟩:=hr0
 change rp = t0.par at p1;change rf = t0.frm at p2
 have HT0:=hd_ ht0
 have k0:(0:Int) < (n:Int):=by omega
 have k0':decide ((0:Int) < (n:Int)) = true:=decide_eq_true k0
 have k0'':decide (0 < n) = true:=decide_eq_true (by omega)
 clear ht0 hel
 by_cases hp:rp = -1∧rf = 0
 case neg =>
  have HE:Hid (Z = 180):=by
   show _ = _
   have:z5n l = false:=y8d HT0.out (y2o (by
    unfold y5w;rw [if_pos rfl,← p1,← p2]
    by_cases h1:rp = -1
    · have:rf ≠ 0:=fun h2=>hp ⟨h1,h2⟩
      simp [this]
    · simp [h1]))
   rw [← HZ.out,this];rfl
  clear p1 p2
  by_cases h1:rp = -1
  · subst h1
    have h2:rf ≠ 0:=fun h2=>hp ⟨rfl,h2⟩
    have u1:decide (rf = 0) = false:=decide_eq_false h2
    have u2:(rf == 0) = false:=beq_false_of_ne h2
    clear hp h2
    go_wp2_with (go_at_call 75;refine (HI.out _).mono ?_;go_loud (rintro e w' ⟨rfl,rfl⟩))
    (try rw [Exit.noGoto_ret]);go_ret
    exact ⟨by rw [HE.out];rfl,Below.refl _ _⟩
  · have u1:decide (rp = -1) = false:=decide_eq_false h1
    have u2:(rp == -1) = false:=beq_false_of_ne h1
    clear hp h1
    go_wp2_with (go_at_call 75;refine (HI.out _).mono ?_;go_loud (rintro e w' ⟨rfl,rfl⟩))
    (try rw [Exit.noGoto_ret]);go_ret
    exact ⟨by rw [HE.out];rfl,Below.refl _ _⟩
 case pos =>
 obtain ⟨rfl,rfl⟩:=hp
 have HP1:=hd_ p1.symm;have HP2:=hd_ p2.symm
 clear p1 p2
 have HK0:=hd_ (j1n.made w)
 have HB0:=hd_ (z5b (w:=w) (.map #[] 0))
 have hmm:=@run_makeMap Tryz.prog
 go_wp2_with (go_at_call 75;refine (HI.out _).mono ?_;go_loud (rintro e w' ⟨rfl,rfl⟩))
 go_step3
 clear hmm c0 c1 k0 k0' k0'' HI
 generalize w.alloc (.map #[] 0) = w1 at *
 go_wp2_with fail
 go_loopw [30] (fun vi wr=>k0j l n w vi wr) (fun vi _=>n - z3e vi)
 case atStart=>exact ⟨0,0,_,rfl,by omega,by omega,fun j y h=>by omega,j2n l,HK0.out,HB0.out⟩
 case round =>
  obtain ⟨i,k,T,rfl,hi,hk,hs,hkn,hat,hb⟩:=hrel
  have HS:=hd_ hs;have HKn:=hd_ hkn;have HAt:=hd_ hat;have HBr:=hd_ hb
  clear hs hkn hat hb HK0 HB0
  by_cases hlt:i < n
  case neg =>
   obtain rfl:i = n:=by omega
   have tj:decide ((i:Int) < (i:Int)) = false:=by simp
   have HE:Hid (Z = 0):=by
    show _ = _
    rw [← HZ.out,y6w (by rw [HN.out];exact n1) (by rw [HN.out];exact n2) (fun j t hj ht=>HS.out j t (by rw [← HN.out];exact hj) ht)];rfl
   go_wp2_with fail
   (try rw [Exit.noGoto_ret]);go_ret
   exact ⟨by rw [HE.out];rfl,HBr.out⟩
  case pos =>
  have tj:decide ((i:Int) < (n:Int)) = true:=by simp;omega
  have tj':decide (i < n) = true:=by simp;omega
  have kb:(i:Int) < (n:Int):=by omega
  have hi32:(i:Int) < 32:=by omega
  obtain ⟨t,ht⟩:∃ t,l[i]? = some t:=⟨_,gE (by rw [HN.out];exact hlt)⟩
  obtain ⟨ab',ao',r,he,_,hel,hr⟩:=HL.out.el ht
  injection he with he;injection he with e1 e2 _
  subst e1 e2
  have hm32:k < maxLen:=by unfold maxLen;omega
  obtain ⟨rp,rf,ro,rn,rc⟩:=r
  have c0:wr.cell? ⟨ab,ao + i * 3,none⟩ = some (.int .i64 rp):=z1a HBr.out (hel 0 _ rfl)
  have c1:wr.cell? ⟨ab,ao + i * 3 + 1,none⟩ = some (.int .i64 rf):=z1a HBr.out (hel 1 _ rfl)
  have c2:wr.cell? ⟨ab,ao + i * 3 + 2,none⟩ = some (.slice ro rn rc):=z1a HBr.out (hel 2 _ rfl)
  have hbx:=z5b (w:=wr) (.cells #[.int .i64 rp,.int .i64 rf,.slice ro rn rc] 48)
  have hcx:CB (wr.alloc (.cells #[.int .i64 rp,.int .i64 rf,.slice ro rn rc] 48)) wr.heap.size 48 [.int .i64 rp,.int .i64 rf,.slice ro rn rc]:=CB.new wr _ _
  have HCX:=hd_ hcx
  have HBx:=hd_ (z0a HBr.out hbx)
  have HAx:=hd_ (HAt.out.ext hbx)
  have hcu:z9f cuK (wr.alloc (.cells #[.int .i64 rp,.int .i64 rf,.slice ro rn rc] 48)).heap.size (wr.alloc (.cells #[.int .i64 rp,.int .i64 rf,.slice ro rn rc] 48)) t.cuts (.slice ro rn rc):=(hr.cuts.ext HBr.out).ext hbx
  obtain ⟨oa2,ca2,he2,lq⟩:=hcu.shape
  injection he2 with q1 q2 q3
  have hfr:rf = t.frm:=hr.frm
  have hpa:rp = t.par:=hr.par
  have HCC:=hd_ (y9n t.cuts t.frm wr.heap.size _ _ hcu (by rw [← hfr];exact hcx.cell 1))
  have l2:(rn:Int) ≤ 9223372036854775807:=by omega
  have HRn:=hd_ q2
  have d2:(wr.alloc (.cells #[.int .i64 rp,.int .i64 rf,.slice ro rn rc] 48)).cell? ⟨wr.heap.size,2,none⟩ = some (.slice ro rn rc):=hcx.cell 2
  obtain ⟨bc,hbc⟩:∃ b,(t.cuts.any fun c=>!z6x t.frm c) = b:=⟨_,rfl⟩
  rw [hbc] at HCC
  have Hbc:=hd_ hbc;have Hlt:=hd_ hlt;have Ht:=hd_ ht;have Hel:=hd_ hel
  have Hfr:=hd_ hfr;have Hpa:=hd_ hpa
  clear hbc hlt ht hel hr hcu hcx hbx q1 q2 q3 hfr hpa lq
  have hmf:∀ (fn:Fn) (first cap:Array Value) (w:World),(Instr.makeFunc fn first cap).run Tryz.prog w = .ok (.func fn first cap) w:=fun _ _ _ _=>rfl
  have HBAD:Hid (y7d l i t = false→Z = 180):=fun h=>by rw [← HZ.out,y8d Ht.out h];rfl
  go_upto_region 7 with fail
  clear c0 c1 c2
  generalize wr.alloc (.cells #[.int .i64 rp,.int .i64 rf,.slice ro rn rc] 48) = w1 at *
  cases bc
  case true =>
   have HE:Hid (Z = 180):=HBAD.out (y1o (y3o Hbc.out))
   go_wp2_with (go_at_call 76;refine HCC.out.mono ?_;go_loud (rintro e w2 ⟨rfl,hb⟩;have HB2:=hd_ hb;clear hb HCC))
   (try rw [Exit.noGoto_ret]);go_ret
   exact ⟨by rw [HE.out];rfl,z0a HBx.out HB2.out⟩
  case false =>
  go_upto_region 8 with (go_at_call 76;refine HCC.out.mono ?_;go_loud (rintro e w2 ⟨rfl,hb⟩;have HB2:=hd_ hb;clear hb HCC))
  clear d2 hmf
  have HB3:=hd_ (z0a HBx.out HB2.out)
  have HA3:=hd_ (HAx.out.ext HB2.out)
  have hcx:=HCX.out.ext HB2.out
  have e0:w2.cell? ⟨wr.heap.size,0,none⟩ = some (.int .i64 rp):=hcx.cell 0
  have e1:w2.cell? ⟨wr.heap.size,1,none⟩ = some (.int .i64 rf):=hcx.cell 1
  have e2:w2.cell? ⟨wr.heap.size,2,none⟩ = some (.slice ro rn rc):=hcx.cell 2
  clear hcx HB2 HAx HAt HCX
  by_cases hc64:rn ≤ 64
  case neg =>
   have HE:Hid (Z = 180):=HBAD.out (y1o (by rw [z1w Hbc.out,← HRn.out];simp [hc64]))
   have u1:decide ((64:Int) < (rn:Int)) = true:=decide_eq_true (by omega)
   clear hc64
   go_wp2_with fail
   (try rw [Exit.noGoto_ret]);go_ret
   exact ⟨by rw [HE.out];rfl,HB3.out⟩
  case pos =>
  have u1:decide ((64:Int) < (rn:Int)) = false:=decide_eq_false (by omega)
  have HCU:Hid (z6z t = true):=by show _ = _;rw [z1w Hbc.out,← HRn.out];simp [hc64]
  clear hc64
  by_cases hi0:i = 0
  case pos =>
   subst hi0
   go_wp2_with fail
   have hTt:t = t0:=by have:=Ht.out.symm.trans HT0.out;injection this
   subst hTt
   have hno:y7d l 0 t = true:=j2c HP1.out HP2.out HCU.out
   go_roundw
   case rel=>exact ⟨1,k,T,by go_num,Hlt.out,by omega,fun j z hj hz=>by
    have:j = 0:=by omega
    subst this
    have:=Ht.out.symm.trans hz
    injection this with this
    rw [← this];exact hno,k7i HKn.out,HA3.out,HB3.out⟩
   case measure=>simp [z3e];have:=Hlt.out;omega
  case neg =>
  have v0:decide ((i:Int) = 0) = false:=decide_eq_false (by omega)
  have v0':((i:Int) == 0) = false:=beq_false_of_ne (by omega)
  have v0'':decide (i = 0) = false:=decide_eq_false (by omega)
  have w1':IntKind.i64.wrap ((i:Int) - 1) = (i:Int) - 1:=IntWalk.i64_in _ (by omega)
  have w1'':wrap64 ((i:Int) - 1) = (i:Int) - 1:=by first | (unfold wrap64;omega) | exact (IntKind.wrap_i64 _).symm.trans w1'
  obtain ⟨b1,h1⟩:∃ b,inB rp 0 ((i:Int) - 1) = b:=⟨_,rfl⟩
  go_upto_region 11 with fail
  cases b1
  case false =>
   have HE:Hid (Z = 180):=HBAD.out (y2o (by unfold y5w;rw [if_neg hi0,← Hpa.out,h1];rfl))
   go_quiet ((go_at_call 75;exact Calls.quiet_of_same (j8y _ _ _ _)))
   go_wp2_with fail
   (try rw [Exit.noGoto_ret]);go_ret
   exact ⟨by rw [HE.out];rfl,z1c HB3.out nq⟩
  case true =>
  have hr1:0 ≤ rp∧rp ≤ (i:Int) - 1:=by unfold inB at h1;simp only [Bool.and_eq_true,decide_eq_true_eq] at h1;omega
  obtain ⟨p,rfl⟩:=Int.eq_ofNat_of_zero_le hr1.1
  have hpi:p < i:=by omega
  have hpn:(p:Int) < (n:Int):=by omega
  have hpn':decide ((p:Int) < (n:Int)) = true:=decide_eq_true hpn
  have hpn'':decide (p < n) = true:=decide_eq_true (by omega)
  obtain ⟨s,hs⟩:∃ s,l[p]? = some s:=⟨_,gE (by rw [HN.out];omega)⟩
  obtain ⟨ab',ao',q,he,_,helq,hq⟩:=HL.out.el hs
  injection he with he;injection he with e1' e2' _
  subst e1' e2'
  have g1:w2.cell? ⟨ab,ao + p * 3 + 1,none⟩ = some (.int .i64 s.frm):=by rw [← hq.frm];exact z1a HB3.out (helq 1 _ rfl)
  have hfm:=j6y HS.out p s hpi hs
  have x1:IntKind.i64.wrap (s.frm + 1) = s.frm + 1:=IntWalk.i64_in _ (by omega)
  have x2:wrap64 (s.frm + 1) = s.frm + 1:=by first | (unfold wrap64;omega) | exact (IntKind.wrap_i64 _).symm.trans x1
  obtain ⟨b2,h2⟩:∃ b,inB rf (s.frm + 1) 1439 = b:=⟨_,rfl⟩
  have HPB:Hid (y5w l i t = b2):=by show _ = _;unfold y5w;rw [if_neg hi0,← Hpa.out,h1,y8w hs,← Hfr.out,h2];rfl
  have hwfp:(Lit.int .i64 (p:Int)).wf = true:=by
   simp only [Lit.wf,Bool.and_eq_true,decide_eq_true_eq];simp [IntKind.min,IntKind.max,IntKind.signed,IntKind.bits];omega
  have Hwfp:=hd_ hwfp
  have H2:=hd_ h2;have Hhfm:=hd_ hfm
  clear hr1 hpi hs helq hq hfm hwfp
  cases b2
  case false =>
   have HE:Hid (Z = 180):=HBAD.out (y2o HPB.out)
   go_quiet ((go_at_call 75;exact Calls.quiet_of_same (j8y _ _ _ _)))
   go_wp2_with fail
   (try rw [Exit.noGoto_ret]);go_ret
   exact ⟨by rw [HE.out];rfl,z1c HB3.out nq⟩
  case true =>
  go_quiet ((go_at_call 75;exact Calls.quiet_of_same (j8y _ _ _ _)))
  have HB4:Hid (Below w.heap.size w (w2.drewN nq)):=z1c HB3.out nq
  have HA4:Hid (j1n (w2.drewN nq) w.heap.size k T):=HA3.out
  have f0:(w2.drewN nq).cell? ⟨wr.heap.size,0,none⟩ = some (.int .i64 (p:Int)):=e0
  have f1:(w2.drewN nq).cell? ⟨wr.heap.size,1,none⟩ = some (.int .i64 rf):=e1
  clear e0 e1 e2 g1 h1 h2 x1 x2
  generalize w2.drewN nq = w3 at *
  have hlook:=HA4.out.look Hwfp.out
  have hwfv:(Lit.int .i64 rf).wf = true:=by
   have:=H2.out;unfold inB at this;simp only [Bool.and_eq_true,decide_eq_true_eq] at this
   have:=Hhfm.out
   simp only [Lit.wf,Bool.and_eq_true,decide_eq_true_eq];simp [IntKind.min,IntKind.max,IntKind.signed,IntKind.bits];omega
  obtain ⟨w4,hrun,hK4,hg4⟩:=HA4.out.update hm32 Hwfp.out hwfv
  have HK4:=hd_ hK4
  have HB5:Hid (Below w.heap.size w w4):=HB4.out.grown hg4 HB4.out.size (fun k e=>by injection e;omega)
  clear hK4 hg4 hwfv
  have HDONE:Hid ((∀ f,T (p:Int) = some f→f = rf)→k0j l n w (.int .i64 ((i + 1:Nat):Int)) w4):=fun ho =>
   have ho':∀ f,T t.par = some f→f = t.frm:=fun f hf=>by rw [← Hfr.out];exact ho f (by rw [Hpa.out];exact hf)
   have hno:y7d l i t = true:=x8e HPB.out (k8i HKn.out ho') HCU.out
   ⟨i + 1,k + 1,_,rfl,Hlt.out,by omega,fun j z hj hz=>by
    rcases Nat.lt_succ_iff_lt_or_eq.1 hj with h | h
    · exact HS.out j z h hz
    · subst h
      have:=Ht.out.symm.trans hz
      injection this with this
      rw [← this];exact hno,by
    have:=j7y HKn.out (by omega) Ht.out ho'
    rw [← Hfr.out,← Hpa.out] at this
    exact this,HK4.out,HB5.out⟩
  cases hT:T (p:Int) with
  | none =>
   rw [hT] at hlook
   change _ = Result.ok (Value.tuple #[.int .i64 0,.bool false]) _ at hlook
   have HD:=hd_ (HDONE.out (fun f hf=>by rw [hT] at hf;cases hf))
   clear hT
   go_wp2_with fail
   go_roundw
   case rel=>exact HD.out
   case measure=>simp [z3e];have:=Hlt.out;omega
  | some f =>
   rw [hT] at hlook
   change _ = Result.ok (Value.tuple #[.int .i64 f,.bool true]) _ at hlook
   by_cases hf:f = rf
   · subst hf
     have HD:=hd_ (HDONE.out (fun f' hf=>by rw [hT] at hf;injection hf with hf;exact hf.symm))
     clear hT
     go_wp2_with fail
     go_roundw
     case rel=>exact HD.out
     case measure=>simp [z3e];have:=Hlt.out;omega
   · have HE:Hid (Z = 180):=HBAD.out (j3c (k9i HKn.out (f:=f) (by rw [← Hpa.out];exact hT) (by rw [← Hfr.out];exact hf)))
     have v1:decide (f = rf) = false:=decide_eq_false hf
     have v2:(f == rf) = false:=beq_false_of_ne hf
     clear hT hf
     go_wp2_with fail
     (try rw [Exit.noGoto_ret]);go_ret
     exact ⟨by rw [HE.out];rfl,HB4.out⟩
def k1j (l:List Nod) (i:Nat) (t:Nod) (w:World) (cs:List Value) (vi:Value) (wr:World):Prop :=
 ∃ k:Nat,vi = .int .i64 (k:Int)∧1 ≤ k∧(k ≤ i∨k = 1)∧(∀ j s,1 ≤ j→j < k→l[j]? = some s→s.par = t.par→s.frm = t.frm)∧CB wr w.heap.size 48 cs∧Below w.heap.size w wr
def k2j (t:Nod) (n:Nat) (w:World) (cs:List Value) (vi:Value) (wr:World):Prop :=
 ∃ k:Nat,vi = .int .i64 (k:Int)∧k ≤ n∧(∀ j c,j < k→t.cuts[j]? = some c→z6x t.frm c = true)∧CB wr w.heap.size 48 cs∧Below w.heap.size w wr
theorem x2m {l:List Nod} {i:Nat} {t:Nod} (h:i = 0):y5w l i t = (decide (t.par = -1) && decide (t.frm = 0)):=by unfold y5w;rw [if_pos h]
theorem x9e {l:List Nod} {i:Nat} {t:Nod} (h:i ≠ 0):y5w l i t = (inB t.par 0 ((i:Int) - 1) && inB t.frm (x2r l t.par + 1) 1439):=by unfold y5w;rw [if_neg h]
theorem z1s {n a b:Int} (h:n < a∨b < n):inB n a b = false:=by
 unfold inB
 by_cases h1:a ≤ n
 · have:¬ n ≤ b:=by omega
   simp [this]
 · simp [h1]
theorem j4c {n a b:Int} (h:a ≤ n∧n ≤ b):inB n a b = true:=by unfold inB;rw [decide_eq_true h.1,decide_eq_true h.2];rfl
theorem x5r (l:List Nod) (i:Nat) (t:Nod) (v:Value) (w:World) (hl:z6j w l v) (ht:l[i]? = some t) :
 Calls Tryz.prog 164 #[v,.int .i64 (i:Int)] w fun e w'=>e = .returned (.bool (y7d l i t))∧Below w.heap.size w w':=by
 obtain ⟨oa,cap,rfl,la⟩:=hl.shape
 have HL:=hd_ hl
 obtain ⟨n,hn⟩:∃ n,l.length = n:=⟨_,rfl⟩
 have hin:i < n:=by rw [← hn];exact (gS.1 ht).1
 rw [hn] at HL la ⊢
 have l1:(n:Int) ≤ 9223372036854775807:=by omega
 have HN:=hd_ hn;have Ht:=hd_ ht
 obtain ⟨ab,ao,r,rfl,_,hel,hr⟩:=HL.out.el ht
 obtain ⟨rp,rf,ro,rn,rc⟩:=r
 have c0:w.cell? ⟨ab,ao + i * 3,none⟩ = some (.int .i64 rp):=hel 0 _ rfl
 have c1:w.cell? ⟨ab,ao + i * 3 + 1,none⟩ = some (.int .i64 rf):=hel 1 _ rfl
 have c2:w.cell? ⟨ab,ao + i * 3 + 2,none⟩ = some (.slice ro rn rc):=hel 2 _ rfl
 have hbx:=z5b (w:=w) (.cells #[.int .i64 rp,.int .i64 rf,.slice ro rn rc] 48)
 have hcx:CB (w.alloc (.cells #[.int .i64 rp,.int .i64 rf,.slice ro rn rc] 48)) w.heap.size 48 [.int .i64 rp,.int .i64 rf,.slice ro rn rc]:=CB.new w _ _
 have HCX:=hd_ hcx
 have HBx:=hd_ hbx
 have hcu:z9f cuK (w.alloc (.cells #[.int .i64 rp,.int .i64 rf,.slice ro rn rc] 48)).heap.size (w.alloc (.cells #[.int .i64 rp,.int .i64 rf,.slice ro rn rc] 48)) t.cuts (.slice ro rn rc):=hr.cuts.ext hbx
 have HCU:=hd_ hr.cuts
 obtain ⟨oa2,ca2,he2,lq⟩:=hcu.shape
 injection he2 with q1 q2 q3
 have l2:(rn:Int) ≤ 9223372036854775807:=by omega
 have HRn:=hd_ q2
 have hpa:rp = t.par:=hr.par
 have hfr:rf = t.frm:=hr.frm
 have Hfr:=hd_ hfr;have Hpa:=hd_ hpa
 have d0:(w.alloc (.cells #[.int .i64 rp,.int .i64 rf,.slice ro rn rc] 48)).cell? ⟨w.heap.size,0,none⟩ = some (.int .i64 rp):=hcx.cell 0
 have d1:(w.alloc (.cells #[.int .i64 rp,.int .i64 rf,.slice ro rn rc] 48)).cell? ⟨w.heap.size,1,none⟩ = some (.int .i64 rf):=hcx.cell 1
 have kb:(i:Int) < (n:Int):=by omega
 have tj:decide ((i:Int) < (n:Int)) = true:=decide_eq_true kb
 have tj':decide (i < n) = true:=decide_eq_true hin
 obtain ⟨Z,hZ⟩:∃ z:Bool,y7d l i t = z:=⟨_,rfl⟩
 have HZ:=hd_ hZ
 rw [hZ]
 have HZ1:Hid (y5w l i t = false→Z = false):=fun h=>by rw [← HZ.out,y2o h]
 have HZ2:Hid (x3r l i t = false→Z = false):=fun h=>by rw [← HZ.out,j3c h]
 have HZ3:Hid (z6z t = false→Z = false):=fun h=>by rw [← HZ.out,y1o h]
 clear hl ht hn la hel hr hcu hcx hbx q1 q2 q3 hfr hpa lq hZ hin
 go_enter Tryz.func164,Tryz.ntmps164
 go_upto_region 2 with fail
 clear c0 c1 c2
 generalize w.alloc (.cells #[.int .i64 rp,.int .i64 rf,.slice ro rn rc] 48) = w1 at *
 by_cases hi0:i = 0
 case pos =>
  have v0:decide ((i:Int) = 0) = true:=decide_eq_true (by omega)
  have v0':((i:Int) == 0) = true:=by rw [beq_iff_eq];omega
  have v0'':decide (i = 0) = true:=decide_eq_true hi0
  have z0:decide ((0:Int) < (i:Int)) = false:=decide_eq_false (by omega)
  have z0':decide (0 < i) = false:=decide_eq_false (by omega)
  have HI0:=hd_ hi0
  clear hi0
  by_cases hp:rp = -1∧rf = 0
  case neg =>
   have HE:Hid (Z = false):=HZ1.out (by
    rw [x2m HI0.out,← Hpa.out,← Hfr.out]
    by_cases h1:rp = -1
    · have:rf ≠ 0:=fun h2=>hp ⟨h1,h2⟩
      simp [this]
    · simp [h1])
   by_cases h1:rp = -1
   · subst h1
     have h2:rf ≠ 0:=fun h2=>hp ⟨rfl,h2⟩
     have u1:decide (rf = 0) = false:=decide_eq_false h2
     have u2:(rf == 0) = false:=beq_false_of_ne h2
     clear hp h2
     go_wp2_with fail
     go_ret
     exact ⟨by rw [HE.out];rfl,HBx.out⟩
   · have u1:decide (rp = -1) = false:=decide_eq_false h1
     have u2:(rp == -1) = false:=beq_false_of_ne h1
     clear hp h1
     go_wp2_with fail
     go_ret
     exact ⟨by rw [HE.out];rfl,HBx.out⟩
  case pos =>
  have hp1:y5w l i t = true:=by rw [x2m HI0.out,← Hpa.out,← Hfr.out,hp.1,hp.2];rfl
  have HP:=hd_ hp1
  obtain ⟨rfl,rfl⟩:=hp
  clear hp1
  go_upto_region 4 with fail
  clear v0 v0' v0''
  go_quiet (fail)
  have HB2:Hid (Below w.heap.size w (w1.drewN nq)):=z1c HBx.out nq
  have HC2:Hid (CB (w1.drewN nq) w.heap.size 48 [.int .i64 (-1),.int .i64 0,.slice ro rn rc]):=HCX.out
  clear d0 d1 HBx HCX
  generalize w1.drewN nq = w2 at *
  go_wp2_with fail
  go_loopw [6] (fun vi wr=>k1j l i t w [.int .i64 (-1),.int .i64 0,.slice ro rn rc] vi wr) (fun vi _=>i + 1 - z3e vi)
  case atStart=>exact ⟨1,rfl,by omega,Or.inr rfl,fun j s h1 h2=>by omega,HC2.out,HB2.out⟩
  case round =>
   obtain ⟨k,rfl,hk1,hk,hs,hc,hb⟩:=hrel
   have HS:=hd_ hs;have HCr:=hd_ hc;have HBr:=hd_ hb
   have HK1:=hd_ hk1
   clear hs hc hb HC2 HB2
   by_cases hki:k < i
   case neg =>
    have tk:decide ((k:Int) < (i:Int)) = false:=decide_eq_false (by omega)
    have tk':decide (k < i) = false:=decide_eq_false (by omega)
    have HSB:Hid (x3r l i t = true):=y0o (fun j s h1 h2=>HS.out j s h1 (by omega))
    go_wp2_with fail
    clear tk tk' hki hk hk1
    generalize wr = wr0 at *
    go_loopw [7] (fun vi wr=>k2j t rn w [.int .i64 (-1),.int .i64 0,.slice ro rn rc] vi wr) (fun vi _=>rn - z3e vi)
    case atStart=>exact ⟨0,rfl,by omega,fun j c h=>by omega,HCr.out,HBr.out⟩
    case round =>
     obtain ⟨k,rfl,hk,hs,hc,hb⟩:=hrel
     have HQ:=hd_ hs;have HCi:=hd_ hc;have HBi:=hd_ hb
     have e1:wr.cell? ⟨w.heap.size,1,none⟩ = some (.int .i64 0):=hc.cell 1
     have e2:wr.cell? ⟨w.heap.size,2,none⟩ = some (.slice ro rn rc):=hc.cell 2
     clear hs hc hb HCr HBr
     by_cases hkn:k < rn
     case neg =>
      obtain rfl:k = rn:=by omega
      have tk:decide ((k:Int) < (k:Int)) = false:=by simp
      have HCT:Hid (z6z t = decide (k ≤ 64)):=by
       show _ = _
       rw [z1w (by
        rw [List.any_eq_false]
        intro c hc
        obtain ⟨j,hj⟩:=List.mem_iff_getElem?.1 hc
        have:=HQ.out j c (by have:=(gS.1 hj).1;have:=HRn.out;omega) hj
        simp [this]),HRn.out]
      by_cases h64:k ≤ 64
      · have u9:decide ((k:Int) ≤ 64) = true:=decide_eq_true (by omega)
        have HE:Hid (Z = true):=by show _ = _;rw [← HZ.out,x8e HP.out HSB.out (by rw [HCT.out,decide_eq_true h64])]
        go_wp2_with fail
        go_ret
        exact ⟨by rw [HE.out];first | done | rfl | simp,HBi.out⟩
      · have u9:decide ((k:Int) ≤ 64) = false:=decide_eq_false (by omega)
        have HE:Hid (Z = false):=HZ3.out (by rw [HCT.out,decide_eq_false h64])
        go_wp2_with fail
        go_ret
        exact ⟨by rw [HE.out];first | done | rfl | simp,HBi.out⟩
     case pos =>
     have tk:decide ((k:Int) < (rn:Int)) = true:=by simp;omega
     have tk':decide (k < rn) = true:=by simp;omega
     have kk:(k:Int) < (rn:Int):=by omega
     obtain ⟨x,hx⟩:∃ x,t.cuts[k]? = some x:=⟨_,gE (by rw [← HRn.out];exact hkn)⟩
     obtain ⟨cb,co,rfl⟩:=z7e HCU.out (k:=k) (by rw [← HRn.out];exact hkn)
     have Hkn:=hd_ hkn;have Hx:=hd_ hx
     go_upto_region 14 with fail
     have KB:=hd_ HBi.out.drew
     have KC:Hid (CB wr.drew w.heap.size 48 [.int .i64 (-1),.int .i64 0,.slice (some ⟨cb,co,none⟩) rn rc]):=HCi.out
     have R1:=hd_ (z2l (z3u HCU.out hx) KB.out)
     have R2:Hid (wr.drew.cell? ⟨w.heap.size,1,none⟩ = some (.int .i64 0)):=e1
     have R3:Hid (wr.drew.cell? ⟨w.heap.size,2,none⟩ = some (.slice (some ⟨cb,co,none⟩) rn rc)):=e2
     have S1:=R1;have S2:=R2;have S3:=R3
     have HC1:=hd_ (fun W=>y3w x 0 W)
     obtain ⟨b,h⟩:∃ b,z6x 0 x = b:=⟨_,rfl⟩
     rw [h] at HC1
     have Hb:=hd_ h
     clear hkn hx hk h e1 e2 HBi HCi
     refine wp_region_held_drew (S:=fun w'=>w'.rangeAt cb (co + k * 5) x.cells∧w'.cell? ⟨w.heap.size,1,none⟩ = some (.int .i64 0)∧w'.cell? ⟨w.heap.size,2,none⟩ = some (.slice (some ⟨cb,co,none⟩) rn rc)) (by kernel_rfl) ⟨R1.out,R2.out,R3.out⟩ (fun hHeld=>?_)
     clear R1 R2 R3
     generalize wr.drew = wA at *
     refine tkH (some 83) 0 ?_
     refine tkH (some 84) 1 ?_
     refine tkH (some 85) 2 ?_
     refine tkH (some 86) 3 ?_
     refine x5j (some 87) 4 rfl (.agg x.cells.toArray) (yieldsIf_load_mid (by rfl) 88 _ rfl cb (co + k * 5) rfl x.cells _ (fun wS hSw=>by obtain ⟨s1,s2,s3⟩:=hSw;exact s1) Tryz.underlying88 rfl (by kernel_rfl)) ?_
     refine tkH (some 88) 5 ?_
     refine tkH (some 89) 6 ?_
     refine rdH 7 fun K hK=>?_
     go_simp
     go_at_call 197
     refine (HC1.out wA).mono ?_
     rintro e w3 ⟨rfl,hb3⟩
     have HB3:=hd_ (z0a KB.out hb3)
     have HC3:=hd_ (KC.out.ext hb3)
     refine hK.out _ _ ⟨z2l S1.out hb3,z1a hb3 S2.out,z1a hb3 S3.out⟩ (fun hHeld=>?_)
     clear hK hb3
     try simp only [Act.put,List.setIfInBounds_toArray,List.set_cons_zero,List.set_cons_succ]
     refine tkH (some 91) 8 ?_
     refine wpAnyH_done (by kernel_rfl) ?_ _
     cases b
     · have HE:Hid (Z = false):=HZ3.out (y3o (List.any_eq_true.2 ⟨x,List.mem_of_getElem? Hx.out,by rw [← Hfr.out,Hb.out];rfl⟩))
       go_wp2_with fail
       go_ret
       exact ⟨by rw [HE.out];rfl,HB3.out⟩
     · go_wp2_with fail
       go_roundw
       case rel=>exact ⟨k + 1,by go_num,Hkn.out,fun j z hj hz=>by
        rcases Nat.lt_succ_iff_lt_or_eq.1 hj with h | h
        · exact HQ.out j z h hz
        · subst h
          have:=Hx.out.symm.trans hz
          injection this with this
          rw [← this,← Hfr.out];exact Hb.out,HC3.out,HB3.out⟩
       case measure=>simp [z3e];have:=Hkn.out;omega
   case pos =>
   exfalso;have:=HI0.out;omega
 case neg =>
 have v0:decide ((i:Int) = 0) = false:=decide_eq_false (by omega)
 have v0':((i:Int) == 0) = false:=beq_false_of_ne (by omega)
 have v0'':decide (i = 0) = false:=decide_eq_false (by omega)
 have z0:decide ((0:Int) < (i:Int)) = true:=decide_eq_true (by omega)
 have z0':decide (0 < i) = true:=decide_eq_true (by omega)
 have z1:(0:Int) < (i:Int):=by omega
 go_upto_region 4 with fail
 clear v0 v0' v0''
 by_cases hneg:rp < 0
 case pos =>
  have HE:Hid (Z = false):=HZ1.out (by rw [x9e hi0,← Hpa.out,z1s (Or.inl hneg)];rfl)
  have u1:decide (rp < 0) = true:=decide_eq_true hneg
  clear hneg
  go_quiet (fail)
  go_wp2_with fail
  go_ret
  exact ⟨by rw [HE.out];rfl,z1c HBx.out nq⟩
 case neg =>
 obtain ⟨p,rfl⟩:=Int.eq_ofNat_of_zero_le (by omega:0 ≤ rp)
 have u1:decide ((p:Int) < 0) = false:=decide_eq_false hneg
 clear hneg
 by_cases hpi:p < i
 case neg =>
  have HE:Hid (Z = false):=HZ1.out (by rw [x9e hi0,← Hpa.out,z1s (Or.inr (by omega))];rfl)
  have u2:decide ((i:Int) ≤ (p:Int)) = true:=decide_eq_true (by omega)
  have u2':decide (i ≤ p) = true:=decide_eq_true (by omega)
  clear hpi
  go_quiet (fail)
  go_wp2_with fail
  go_ret
  exact ⟨by rw [HE.out];rfl,z1c HBx.out nq⟩
 case pos =>
 have u2:decide ((i:Int) ≤ (p:Int)) = false:=decide_eq_false (by omega)
 have u2':decide (i ≤ p) = false:=decide_eq_false (by omega)
 have hpn:(p:Int) < (n:Int):=by omega
 have hpn':decide ((p:Int) < (n:Int)) = true:=decide_eq_true hpn
 have hpn'':decide (p < n) = true:=decide_eq_true (by omega)
 obtain ⟨s,hs⟩:∃ s,l[p]? = some s:=⟨_,gE (by rw [HN.out];omega)⟩
 obtain ⟨ab',ao',q,he,_,helq,hq⟩:=HL.out.el hs
 injection he with he;injection he with e1' e2' _
 subst e1' e2'
 have g1:w1.cell? ⟨ab,ao + p * 3 + 1,none⟩ = some (.int .i64 s.frm):=by rw [← hq.frm];exact z1a HBx.out (helq 1 _ rfl)
 have HPB:Hid (y5w l i t = inB rf (s.frm + 1) 1439):=by show _ = _;rw [x9e hi0,← Hpa.out,j4c ⟨by omega,by omega⟩,y8w hs,← Hfr.out];rfl
 clear hpi hs helq hq
 by_cases hlo:rf ≤ s.frm
 case pos =>
  have HE:Hid (Z = false):=HZ1.out (by rw [HPB.out,z1s (Or.inl (by omega))])
  have u3:decide (rf ≤ s.frm) = true:=decide_eq_true hlo
  clear hlo
  go_quiet (fail)
  go_wp2_with fail
  go_ret
  exact ⟨by rw [HE.out];rfl,z1c HBx.out nq⟩
 case neg =>
 have u3:decide (rf ≤ s.frm) = false:=decide_eq_false hlo
 by_cases hhi:1440 ≤ rf
 case pos =>
  have HE:Hid (Z = false):=HZ1.out (by rw [HPB.out,z1s (Or.inr (by omega))])
  have u4:decide (1440 ≤ rf) = true:=decide_eq_true hhi
  clear hhi hlo
  go_quiet (fail)
  go_wp2_with fail
  go_ret
  exact ⟨by rw [HE.out];rfl,z1c HBx.out nq⟩
 case neg =>
 have u4:decide (1440 ≤ rf) = false:=decide_eq_false hhi
 have HP:Hid (y5w l i t = true):=by show _ = _;rw [HPB.out];exact j4c ⟨by omega,by omega⟩
 clear hhi hlo
 go_quiet (fail)
 have HB2:Hid (Below w.heap.size w (w1.drewN nq)):=z1c HBx.out nq
 have HC2:Hid (CB (w1.drewN nq) w.heap.size 48 [.int .i64 (p:Int),.int .i64 rf,.slice ro rn rc]):=HCX.out
 clear d0 d1 HBx HCX
 generalize w1.drewN nq = w2 at *
 go_wp2_with fail
 go_loopw [6] (fun vi wr=>k1j l i t w [.int .i64 (p:Int),.int .i64 rf,.slice ro rn rc] vi wr) (fun vi _=>i + 1 - z3e vi)
 case atStart=>exact ⟨1,rfl,by omega,Or.inr rfl,fun j s h1 h2=>by omega,HC2.out,HB2.out⟩
 case round =>
  obtain ⟨k,rfl,hk1,hk,hs,hc,hb⟩:=hrel
  have HS:=hd_ hs;have HCr:=hd_ hc;have HBr:=hd_ hb
  have HK1:=hd_ hk1
  clear hs hc hb HC2 HB2
  by_cases hki:k < i
  case neg =>
   have tk:decide ((k:Int) < (i:Int)) = false:=decide_eq_false (by omega)
   have tk':decide (k < i) = false:=decide_eq_false (by omega)
   have HSB:Hid (x3r l i t = true):=y0o (fun j s h1 h2=>HS.out j s h1 (by omega))
   go_wp2_with fail
   clear tk tk' hki hk hk1
   generalize wr = wr0 at *
   go_loopw [7] (fun vi wr=>k2j t rn w [.int .i64 (p:Int),.int .i64 rf,.slice ro rn rc] vi wr) (fun vi _=>rn - z3e vi)
   case atStart=>exact ⟨0,rfl,by omega,fun j c h=>by omega,HCr.out,HBr.out⟩
   case round =>
    obtain ⟨k,rfl,hk,hs,hc,hb⟩:=hrel
    have HQ:=hd_ hs;have HCi:=hd_ hc;have HBi:=hd_ hb
    have e1:wr.cell? ⟨w.heap.size,1,none⟩ = some (.int .i64 rf):=hc.cell 1
    have e2:wr.cell? ⟨w.heap.size,2,none⟩ = some (.slice ro rn rc):=hc.cell 2
    clear hs hc hb HCr HBr
    by_cases hkn:k < rn
    case neg =>
     obtain rfl:k = rn:=by omega
     have tk:decide ((k:Int) < (k:Int)) = false:=by simp
     have HCT:Hid (z6z t = decide (k ≤ 64)):=by
      show _ = _
      rw [z1w (by
       rw [List.any_eq_false]
       intro c hc
       obtain ⟨j,hj⟩:=List.mem_iff_getElem?.1 hc
       have:=HQ.out j c (by have:=(gS.1 hj).1;have:=HRn.out;omega) hj
       simp [this]),HRn.out]
     by_cases h64:k ≤ 64
     · have u9:decide ((k:Int) ≤ 64) = true:=decide_eq_true (by omega)
       have HE:Hid (Z = true):=by show _ = _;rw [← HZ.out,x8e HP.out HSB.out (by rw [HCT.out,decide_eq_true h64])]
       go_wp2_with fail
       go_ret
       exact ⟨by rw [HE.out];first | done | rfl | simp,HBi.out⟩
     · have u9:decide ((k:Int) ≤ 64) = false:=decide_eq_false (by omega)
       have HE:Hid (Z = false):=HZ3.out (by rw [HCT.out,decide_eq_false h64])
       go_wp2_with fail
       go_ret
       exact ⟨by rw [HE.out];first | done | rfl | simp,HBi.out⟩
    case pos =>
    have tk:decide ((k:Int) < (rn:Int)) = true:=by simp;omega
    have tk':decide (k < rn) = true:=by simp;omega
    have kk:(k:Int) < (rn:Int):=by omega
    obtain ⟨x,hx⟩:∃ x,t.cuts[k]? = some x:=⟨_,gE (by rw [← HRn.out];exact hkn)⟩
    obtain ⟨cb,co,rfl⟩:=z7e HCU.out (k:=k) (by rw [← HRn.out];exact hkn)
    have Hkn:=hd_ hkn;have Hx:=hd_ hx
    go_upto_region 14 with fail
    have KB:=hd_ HBi.out.drew
    have KC:Hid (CB wr.drew w.heap.size 48 [.int .i64 (p:Int),.int .i64 rf,.slice (some ⟨cb,co,none⟩) rn rc]):=HCi.out
    have R1:=hd_ (z2l (z3u HCU.out hx) KB.out)
    have R2:Hid (wr.drew.cell? ⟨w.heap.size,1,none⟩ = some (.int .i64 rf)):=e1
    have R3:Hid (wr.drew.cell? ⟨w.heap.size,2,none⟩ = some (.slice (some ⟨cb,co,none⟩) rn rc)):=e2
    have S1:=R1;have S2:=R2;have S3:=R3
    have HC1:=hd_ (fun W=>y3w x rf W)
    obtain ⟨b,h⟩:∃ b,z6x rf x = b:=⟨_,rfl⟩
    rw [h] at HC1
    have Hb:=hd_ h
    clear hkn hx hk h e1 e2 HBi HCi
    refine wp_region_held_drew (S:=fun w'=>w'.rangeAt cb (co + k * 5) x.cells∧w'.cell? ⟨w.heap.size,1,none⟩ = some (.int .i64 rf)∧w'.cell? ⟨w.heap.size,2,none⟩ = some (.slice (some ⟨cb,co,none⟩) rn rc)) (by kernel_rfl) ⟨R1.out,R2.out,R3.out⟩ (fun hHeld=>?_)
    clear R1 R2 R3
    generalize wr.drew = wA at *
    refine tkH (some 83) 0 ?_
    refine tkH (some 84) 1 ?_
    refine tkH (some 85) 2 ?_
    refine tkH (some 86) 3 ?_
    refine x5j (some 87) 4 rfl (.agg x.cells.toArray) (yieldsIf_load_mid (by rfl) 88 _ rfl cb (co + k * 5) rfl x.cells _ (fun wS hSw=>by obtain ⟨s1,s2,s3⟩:=hSw;exact s1) Tryz.underlying88 rfl (by kernel_rfl)) ?_
    refine tkH (some 88) 5 ?_
    refine tkH (some 89) 6 ?_
    refine rdH 7 fun K hK=>?_
    go_simp
    go_at_call 197
    refine (HC1.out wA).mono ?_
    rintro e w3 ⟨rfl,hb3⟩
    have HB3:=hd_ (z0a KB.out hb3)
    have HC3:=hd_ (KC.out.ext hb3)
    refine hK.out _ _ ⟨z2l S1.out hb3,z1a hb3 S2.out,z1a hb3 S3.out⟩ (fun hHeld=>?_)
    clear hK hb3
    try simp only [Act.put,List.setIfInBounds_toArray,List.set_cons_zero,List.set_cons_succ]
    refine tkH (some 91) 8 ?_
    refine wpAnyH_done (by kernel_rfl) ?_ _
    cases b
    · have HE:Hid (Z = false):=HZ3.out (y3o (List.any_eq_true.2 ⟨x,List.mem_of_getElem? Hx.out,by rw [← Hfr.out,Hb.out];rfl⟩))
      go_wp2_with fail
      go_ret
      exact ⟨by rw [HE.out];rfl,HB3.out⟩
    · go_wp2_with fail
      go_roundw
      case rel=>exact ⟨k + 1,by go_num,Hkn.out,fun j z hj hz=>by
       rcases Nat.lt_succ_iff_lt_or_eq.1 hj with h | h
       · exact HQ.out j z h hz
       · subst h
         have:=Hx.out.symm.trans hz
         injection this with this
         rw [← this,← Hfr.out];exact Hb.out,HC3.out,HB3.out⟩
      case measure=>simp [z3e];have:=Hkn.out;omega
  case pos =>
  have tk:decide ((k:Int) < (i:Int)) = true:=decide_eq_true (by omega)
  have tk':decide (k < i) = true:=decide_eq_true hki
  have hkn:(k:Int) < (n:Int):=by omega
  have hkn':decide ((k:Int) < (n:Int)) = true:=decide_eq_true hkn
  have hkn'':decide (k < n) = true:=decide_eq_true (by omega)
  obtain ⟨y,hy⟩:∃ y,l[k]? = some y:=⟨_,gE (by rw [HN.out];omega)⟩
  obtain ⟨ab',ao',z,he,_,helz,hz⟩:=HL.out.el hy
  injection he with he;injection he with e1' e2' _
  subst e1' e2'
  obtain ⟨yp,yf,yo,yn,yc⟩:=z
  have k0:wr.cell? ⟨ab,ao + k * 3,none⟩ = some (.int .i64 yp):=z1a HBr.out (helz 0 _ rfl)
  have k1:wr.cell? ⟨ab,ao + k * 3 + 1,none⟩ = some (.int .i64 yf):=z1a HBr.out (helz 1 _ rfl)
  have e0:wr.cell? ⟨w.heap.size,0,none⟩ = some (.int .i64 (p:Int)):=HCr.out.cell 0
  have e1:wr.cell? ⟨w.heap.size,1,none⟩ = some (.int .i64 rf):=HCr.out.cell 1
  have hyp:yp = y.par:=hz.par
  have hyf:yf = y.frm:=hz.frm
  have Hyp:=hd_ hyp;have Hyf:=hd_ hyf;have Hy:=hd_ hy;have Hki:=hd_ hki
  have HST:Hid ((y.par = t.par→y.frm = t.frm)→∀ j s,1 ≤ j→j < k + 1→l[j]? = some s→s.par = t.par→s.frm = t.frm):=fun ho j s h1 hj hs hpp=>by
   rcases Nat.lt_succ_iff_lt_or_eq.1 hj with h | h
   · exact HS.out j s h1 h hs hpp
   · subst h
     have:=Hy.out.symm.trans hs
     injection this with this
     subst this
     exact ho hpp
  clear helz hz hyp hyf hy hki hk hk1
  go_upto_region 9 with fail
  by_cases hpp:yp = (p:Int)
  case neg =>
   have v1:decide (yp = (p:Int)) = false:=decide_eq_false hpp
   have v2:(yp == (p:Int)) = false:=beq_false_of_ne hpp
   have HX:=hd_ (HST.out (fun h=>absurd (by rw [Hyp.out,h,Hpa.out]) hpp))
   clear hpp
   go_quiet (fail)
   have K:Hid (Below w.heap.size w (wr.drewN nq)):=z1c HBr.out nq
   have KC:Hid (CB (wr.drewN nq) w.heap.size 48 [.int .i64 (p:Int),.int .i64 rf,.slice ro rn rc]):=HCr.out
   clear k0 k1 e0 e1 HBr HCr
   generalize wr.drewN nq = wA at *
   go_wp2_with fail
   go_roundw
   case rel=>exact ⟨k + 1,by go_num,by omega,Or.inl Hki.out,HX.out,KC.out,K.out⟩
   case measure=>simp [z3e];have:=Hki.out;omega
  case pos =>
  subst hpp
  by_cases hff:yf = rf
  case pos =>
   have HX:=hd_ (HST.out (fun _=>by rw [← Hyf.out,← Hfr.out];exact hff))
   subst hff
   go_quiet (fail)
   have K:Hid (Below w.heap.size w (wr.drewN nq)):=z1c HBr.out nq
   have KC:Hid (CB (wr.drewN nq) w.heap.size 48 [.int .i64 (p:Int),.int .i64 yf,.slice ro rn rc]):=HCr.out
   clear k0 k1 e0 e1 HBr HCr
   generalize wr.drewN nq = wA at *
   go_wp2_with fail
   go_roundw
   case rel=>exact ⟨k + 1,by go_num,by omega,Or.inl Hki.out,HX.out,KC.out,K.out⟩
   case measure=>simp [z3e];have:=Hki.out;omega
  case neg =>
  have HE:Hid (Z = false):=HZ2.out (y7w HK1.out Hki.out Hy.out (by rw [← Hyp.out,← Hpa.out]) (by rw [← Hyf.out,← Hfr.out];exact hff))
  have v1:decide (yf = rf) = false:=decide_eq_false hff
  have v2:(yf == rf) = false:=beq_false_of_ne hff
  clear hff
  go_quiet (fail)
  go_wp2_with fail
  go_ret
  exact ⟨by rw [HE.out];rfl,z1c HBr.out nq⟩
def k6s (l:List Nod) (n:Nat) (w:World) (vi:Value) (wr:World):Prop:=∃ i:Nat,vi = .int .i64 (i:Int)∧i ≤ n∧(∀ j t,j < i→l[j]? = some t→y7d l j t = true)∧Below w.heap.size w wr
theorem x0f (l:List Nod) (v:Value) (w:World) (hl:z6j w l v) :
 Calls Tryz.prog 107 #[v] w fun e w'=>e = .returned (.int .i64 (if z5n l then 0 else 180))∧Below w.heap.size w w':=by
 obtain ⟨oa,cap,rfl,la⟩:=hl.shape
 have HL:=hd_ hl
 obtain ⟨n,hn⟩:∃ n,l.length = n:=⟨_,rfl⟩
 rw [hn] at HL la ⊢
 have l1:(n:Int) ≤ 9223372036854775807:=by omega
 have HN:=hd_ hn
 obtain ⟨Z,hZ⟩:∃ z:Int,(if z5n l then (0:Int) else 180) = z:=⟨_,rfl⟩
 have HZ:=hd_ hZ
 rw [hZ]
 clear hl hn la hZ
 go_enter Tryz.func107,Tryz.ntmps107
 by_cases h1:n < 1
 case pos =>
  have u1:decide ((n:Int) < 1) = true:=decide_eq_true (by omega)
  have HE:Hid (Z = 180):=by
   show _ = _
   have:z5n l = false:=by unfold z5n;rw [HN.out,decide_eq_false (by omega)];rfl
   rw [← HZ.out,this];rfl
  clear h1
  go_wp2_with fail
  go_ret
  exact ⟨by rw [HE.out];rfl,Below.refl _ _⟩
 case neg =>
 have u1:decide ((n:Int) < 1) = false:=decide_eq_false (by omega)
 by_cases h2:32 < n
 case pos =>
  have u2:decide ((32:Int) < (n:Int)) = true:=decide_eq_true (by omega)
  have HE:Hid (Z = 180):=by
   show _ = _
   have:z5n l = false:=by unfold z5n;rw [HN.out,decide_eq_false (p:=n ≤ 32) (by omega)];simp
   rw [← HZ.out,this];rfl
  clear h1 h2
  go_wp2_with fail
  go_ret
  exact ⟨by rw [HE.out];rfl,Below.refl _ _⟩
 case neg =>
 have u2:decide ((32:Int) < (n:Int)) = false:=decide_eq_false (by omega)
 have HR1:Hid (1 ≤ n):=by show _ ≤ _;omega
 have HR2:Hid (n ≤ 32):=by show _ ≤ _;omega
 clear h1 h2
 go_wp2_with fail
 clear u1 u2
 go_loopw [3] (fun vi wr=>k6s l n w vi wr) (fun vi _=>n - z3e vi)
 case atStart=>exact ⟨0,rfl,by omega,fun j t h=>by omega,Below.refl _ _⟩
 case round =>
  obtain ⟨i,rfl,hi,hs,hb⟩:=hrel
  have HS:=hd_ hs;have HBr:=hd_ hb
  clear hs hb
  by_cases hlt:i < n
  case neg =>
   obtain rfl:i = n:=by omega
   have tj:decide ((i:Int) < (i:Int)) = false:=by simp
   have HE:Hid (Z = 0):=by
    show _ = _
    rw [← HZ.out,y6w (by rw [HN.out];exact HR1.out) (by rw [HN.out];exact HR2.out) (fun j t hj ht=>HS.out j t (by rw [← HN.out];exact hj) ht)];rfl
   go_wp2_with fail
   go_ret
   exact ⟨by rw [HE.out];rfl,HBr.out⟩
  case pos =>
  have tj:decide ((i:Int) < (n:Int)) = true:=by simp;omega
  have tj':decide (i < n) = true:=by simp;omega
  have kb:(i:Int) < (n:Int):=by omega
  obtain ⟨t,ht⟩:∃ t,l[i]? = some t:=⟨_,gE (by rw [HN.out];exact hlt)⟩
  have HC1:=hd_ (x5r l i t _ wr (HL.out.ext HBr.out) ht)
  obtain ⟨b,h⟩:∃ b,y7d l i t = b:=⟨_,rfl⟩
  rw [h] at HC1
  have Hlt:=hd_ hlt;have Ht:=hd_ ht;have Hb:=hd_ h
  clear hlt ht h hi
  cases b
  · have HE:Hid (Z = 180):=by show _ = _;rw [← HZ.out,y8d Ht.out Hb.out];rfl
    go_wp2_with (go_at_call 164;refine HC1.out.mono ?_;go_loud (rintro e w2 ⟨rfl,hb⟩;have HB2:=hd_ (z0a HBr.out hb);clear hb))
    go_ret
    exact ⟨by rw [HE.out];rfl,HB2.out⟩
  · go_wp2_with (go_at_call 164;refine HC1.out.mono ?_;go_loud (rintro e w2 ⟨rfl,hb⟩;have HB2:=hd_ (z0a HBr.out hb);clear hb))
    go_roundw
    case rel=>exact ⟨i + 1,by go_num,Hlt.out,fun j z hj hz=>by
     rcases Nat.lt_succ_iff_lt_or_eq.1 hj with h | h
     · exact HS.out j z h hz
     · subst h
       have:=Ht.out.symm.trans hz
       injection this with this
       rw [← this];exact Hb.out,HB2.out⟩
    case measure=>simp [z3e];have:=Hlt.out;omega
def j9y (cs:List Value):Nat→List Value→List Value
 | _,[]=>cs
 | o,v :: r=>j9y (cs.set o v) (o + 1) r
theorem j5c {g:Nat} {t:TypeId}:∀ (vs:List Value) (o:Nat) {w:World} {cs:List Value},CB w g t cs→CB (w.setCells g o vs) g t (j9y cs o vs)
 | [],_,_,_,h=>h
 | v :: r,o,_,_,h=>j5c r (o + 1) (h.set o v)
theorem y7j {w0:World} (g:Nat):∀ (vs:List Value) (o:Nat) (w:World),w0.grownBy w (some g)→w0.grownBy (w.setCells g o vs) (some g)
 | [],_,_,h=>h
 | v :: r,o,w,h=>y7j g r (o + 1) _ (z2a h (z8b w g o v) (.inl rfl))
theorem CB.there {w:World} {g:Nat} {t:TypeId} {cs:List Value} (h:CB w g t cs) (o n:Nat) (hl:o + n ≤ cs.length):w.there g o n:=fun j hj =>
 ⟨by rw [h.cell,gE (by omega)];rfl,h.frozen _⟩
section
variable {P:Program} {w:World} {ops:Array Oper} {rest:List Oper} {o:Oper} {a:Act} {Q:Exit→Act→World→Prop}
theorem z0b (hgd:o.guard = none) (ty:TypeId) (x y:Operand) (ho:o.op = .store ty x y) (g off:Nat) (vs:List Value) (hx:a.eval x = .pointer (some ⟨g,off,none⟩)) (hy:a.eval y = .agg vs.toArray)
 (t:TypeId) (cs:List Value) (hg:CB w g t cs) (hl:off + vs.length ≤ cs.length) (hi:(P.info? ty).map (·.size) = some vs.length) (h1:∀ u ∈ vs,u.oneCell' = true)
 (h:∀ w',Hid (CB w' g t (j9y cs off vs))→Hid (w.grownBy w' (some g))→wpList P ops Q rest (a.put o.dst undef) w'):wpList P ops Q (o :: rest) a w :=
 Go.wpList_store_mid hgd ty x y ho g off vs.toArray hx hy (by rw [List.size_toArray];exact hg.there off _ hl) (by rw [List.size_toArray];exact hi) (j1b h1)
  (h _ (j5c vs off hg) (y7j g vs off w (World.grownBy.refl w _)))
end
end Go.Proofs.YtdblnbnofjggnaaGreatDoor
