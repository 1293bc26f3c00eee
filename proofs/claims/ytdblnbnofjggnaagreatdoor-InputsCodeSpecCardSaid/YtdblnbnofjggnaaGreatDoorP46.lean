/- Parts of the proofs of chapter 49's laws. -/
import Derived.Test.YtdblnbnofjggnaaGreatDoorP45
import Derived.Laws.EntriesVeiled
set_option maxHeartbeats 4000000
set_option maxRecDepth 100000
open Go.Lib renaming hid → hd_
open List renaming setIfInBounds_toArray → aS, set_cons_zero → aZ, set_cons_succ → aU
open Nat renaming le_refl → lR
open Go.Value renaming int → J, agg → F
open Go.IntKind renaming i64 → I
open Go.Obj renaming cells → X
open Go.Ending renaming returned → O
open Option renaming none → G, some → Y
open Go renaming World → Z, Value → T, Calls → E
open Go.RowKit renaming Below → U, Hid → M
set_option linter.all false
namespace Go.Proofs.YtdblnbnofjggnaaGreatDoor
open Go.Proofs.Tryz
open Go.RowKit Go.Shelf
def k1v:ByteArray:=⟨#[110,111,110,99,101]⟩
def k2v:ByteArray:=⟨#[115,105,103,110]⟩
def k3a (x:Int) (m:List UInt8):Nat:=y8a k1v.data.toList ([x].flatMap b8++m)
def j2v (r p:Int) (m:List UInt8):Nat:=y8a k2v.data.toList ([r,p].flatMap b8++m)
theorem y8s (t l:List UInt8):1≤y8a t l∧y8a t l<cQ:=by
 have h:=y6s (y7b t l)
 have e:cM+1=cQ:=by decide
 unfold y8a;omega
theorem k7h (n:Nat) (v:T) (l:List UInt8) (w:Z) (k R c p m S:Nat) (hn:M (ZPr (n:Int))) (hl:l.length≤50000) (hb:z6c w.heap.size w l v) (hL:Laid w)
 (hk:M (k3a n l=k)) (hR:M (pw 4 k=R)) (hp:M (pw 4 n=p)) (hc:M (j2v R p l=c)) (hm:M (c * n % cQ=m)) (hS:M ((k+m) % cQ=S)) :
 E prog 67 #[J I n,v] w fun e w'=>e=O (.tuple #[F #[J I R,J I S],J I 0])∧U w.heap.size w w':=by
 have hmf:∀ (fn:Fn) (first cap:Array T) (w:Z),(Instr.makeFunc fn first cap).run prog w=.ok (.func fn first cap) w:=fun _ _ _ _=>rfl
 have HB:=hd_ hb;have HL:=hd_ hL;have Hl:=hd_ hl
 obtain ⟨oa,cap,rfl⟩:=hb.shape
 have hnl:M (n<cQ):=Int.ofNat_lt.1 hn.out.2
 have hkl:M (k<cQ):=by show _<_;rw [← hk.out];exact (y8s _ _).2
 have hcl:M (c<cQ):=by show _<_;rw [← hc.out];exact (y8s _ _).2
 have hml:M (m<cQ):=by show _<_;rw [← hm.out];exact Nat.mod_lt _ (by decide)
 clear hb hL hl
 have aX:M (CB (w.alloc (X #[J I 0,J I 0] 39)) w.heap.size 39 [J I 0,J I 0]):=heap_alloc_new w _
 have ax:=hd_ ((Below.refl w.heap.size w).alloc (lR _) (X #[J I 0,J I 0] 39))
 go_enter func67,ntmps67
 go_wp2_with fail
 refine (x5d n hn _).mono ?_
 rintro e w1 ⟨rfl,rfl⟩
 generalize w.alloc (X #[J I 0,J I 0] 39)=w0 at *
 go_wp2_with fail
 have hbx:=ax.out.alloc ax.out.size (X #[J I n] 3)
 refine (y7s k1v _ l _ 1 1 [(n:Int)] _ (by decide) Hl.out (HB.out.ext hbx) (HL.out.ext hbx) rfl (by decide) (v1f _ _ _)).mono ?_
 rw [show y8a k1v.data.toList ([(n:Int)].flatMap b8++l)=k from hk.out]
 rintro e w1 ⟨rfl,hb⟩
 have hcb1:=hd_ ((aX.out.alloc (X #[J I n] 3)).ext hb)
 have af:=hd_ (z0a hbx hb)
 clear hb hbx ax aX
 go_wp2_with fail
 refine (x9k k R hkl hR _).mono ?_
 rintro e w2 ⟨rfl,hb⟩
 have ik:=hd_ (hcb1.out.ext hb)
 have aj:=hd_ (z0a af.out hb)
 clear hb hcb1 af
 have c0:=ik.out.cell 0
 have f0:=ik.out.frozen 0
 go_wp2_with fail
 have im:M (CB (w2.setCell ⟨w.heap.size,0,G⟩ (J I R)) w.heap.size 39 [J I R,J I 0]):=ik.out.set 0 _
 have aB:=hd_ (aj.out.setCell (p:=⟨w.heap.size,0,G⟩) (lR _) (J I R))
 clear c0 f0 ik aj
 generalize w2.setCell ⟨w.heap.size,0,G⟩ (J I R)=w3 at *
 have c0:=im.out.cv 0 (J I R)
 have dK:=(Below.refl w3.heap.size w3).drew
 go_wp2_with fail
 go_region_held3 (fun w'=>w'.cell? ⟨w.heap.size,0,G⟩=Y (J I R))
  (first|go_keep|exact z1a dK (im.out.cell 0)|exact z1a (dK.alloc dK.size _) (im.out.cell 0))
  (first
   | (go_at_call 72;refine (y0o n p hnl hp _).mono ?_;rintro e w7 ⟨rfl,ag⟩;have dK:U w3.heap.size w3 w7:=by first|exact z0a dK ag|exact y2b ag)
   | (go_at_call 129;refine (y7s k2v _ l _ 2 2 [(R:Int),(p:Int)] _ (by decide) Hl.out (HB.out.ext (z0a aB.out (dK.alloc dK.size _))) (HL.out.ext (z0a aB.out (dK.alloc dK.size _))) rfl (by decide) (v2d _ _ _ _)).mono ?_
      rw [show y8a k2v.data.toList ([(R:Int),(p:Int)].flatMap b8++l)=c from hc.out]
      rintro e w8 ⟨rfl,kh⟩
      have dK:U w3.heap.size w3 w8:=z0a (dK.alloc dK.size _) kh)
   | (go_at_call 131;refine (j5u c n m hcl hnl hm _).mono ?_;rintro e w9 ⟨rfl,ki⟩;have dK:U w3.heap.size w3 w9:=z0a dK ki))
 have hcb9:=hd_ (im.out.ext dK)
 have ki:=hd_ (z0a aB.out dK)
 clear dK c0 im aB
 go_wp2_with fail
 refine (x8k k m S hkl hml hS _).mono ?_
 rintro e w10 ⟨rfl,hb⟩
 have hcb10:=hd_ (hcb9.out.ext hb)
 have bL:=hd_ (z0a ki.out hb)
 clear hb hcb9 ki
 have c0:=hcb10.out.cv 0 (J I R)
 have f0:=hcb10.out.frozen 0
 have c1:=hcb10.out.cv 1 (J I 0)
 have f1:=hcb10.out.frozen 1
 go_wp2_with fail
 refine bodyPost_ret (v:=.tuple #[F #[J I R,J I S],J I 0]) (by simp [results,results67,go_sem,c0,c1]) rfl ⟨rfl,?_⟩
 exact ((bL.out.setCell (p:=⟨w.heap.size,1,G⟩) (lR _) _).setCell (p:=⟨w.heap.size,0,G⟩) (lR _) _).setCell (p:=⟨w.heap.size,1,G⟩) (lR _) _
theorem j3v (x:Int) (oa:Option Addr) (len cap:Nat) (w:Z) (hx:M (¬ ZPr x)) :
 E prog 67 #[J I x,.slice oa len cap] w fun e w'=>e=O (.tuple #[F #[J I 0,J I 0],J I 40])∧U w.heap.size w w':=by
 have hmf:∀ (fn:Fn) (first cap:Array T) (w:Z),(Instr.makeFunc fn first cap).run prog w=.ok (.func fn first cap) w:=fun _ _ _ _=>rfl
 go_enter func67,ntmps67
 go_wp2_with fail
 refine (x5q x hx _).mono ?_
 rintro e w1 ⟨rfl,rfl⟩
 go_wp2_with fail
 refine bodyPost_ret (v:=.tuple #[F #[J I 0,J I 0],J I 40]) (by simp [results,results67,go_sem]) rfl ⟨rfl,?_⟩
 exact (Below.refl w.heap.size w).alloc (lR _) _
section
open Go.RowKit Go.Shelf
theorem j9m.ok {x y r:Nat} {f:Nat→Nat→Nat} {w w':Z} {e:Ending} (hx:x<cQ) (hy:y<cQ) (hr:f x y=r) (h:j9m (x:Int) (y:Int) f w e w'):e=O (.tuple #[J I r,J I 0])∧U w.heap.size w w':=by
 obtain ⟨⟨a,b,rfl,hc⟩,hb⟩:=h
 rcases hc with ⟨_,_,rfl,rfl⟩|⟨h1,_,_⟩
 ·exact ⟨by rw [← hr];rfl,hb⟩
 ·exact absurd ⟨⟨by omega,Int.ofNat_lt.2 hx⟩,⟨by omega,Int.ofNat_lt.2 hy⟩⟩ h1
end
def ElE (a x:Int):Prop:=(ZEl a∧x=0)∨(¬ ZEl a∧x=30)
def ScE (a x:Int):Prop:=(ZSc a∧x=0)∨(¬ ZSc a∧x=1)
theorem k3v {a:Int} (h:ZEl a):∃ n:Nat,a=(n:Int)∧y7k n:=⟨a.toNat,by have:=h.1;omega,h.2⟩
theorem k8h {n:Nat} (h:y7k n):ZEl (n:Int):=⟨by have:=h.1;omega,h⟩
theorem k9h {n:Nat} (h:n<cQ):ZSc (n:Int):=⟨by omega,Int.ofNat_lt.2 h⟩
theorem z6s (a x:Int) (h:M (ElE a x)) (w:Z):E prog 142 #[J I a] w fun e w'=>e=O (J I x)∧U w.heap.size w w':=by
 rcases h.out with ⟨h1,rfl⟩|⟨h1,rfl⟩
 ·obtain ⟨n,rfl,hn⟩:=k3v h1;exact y8d n hn w
 ·exact j5m a h1 w
theorem z2u (a x:Int) (h:M (ScE a x)) (w:Z):E prog 143 #[J I a] w fun e w'=>e=O (J I x)∧U w.heap.size w w':=by
 rcases h.out with ⟨h1,rfl⟩|⟨h1,rfl⟩
 ·exact x1y a h1 w
 ·exact j1n a h1 w
theorem eq3 (a b c:Int) (w:Z):(Op.equalIn 10000 171 (F #[J I a,J I b,J I c]) (F #[J I 0,J I 0,J I 0])).run prog w=.ok (a == 0&&b == 0&&c == 0) w:=by
 have hu:=underlying171
 have hE:=underlying44
 have ha:(isAgg 44).run prog w=.ok false w:=by kernel_rfl
 have hs:(sizeOf 44).run prog w=.ok 1 w:=by kernel_rfl
 have p0:∀ x y z:Int,(part 44 #[J I x,J I y,J I z] 0).run prog w=.ok (J I x) w:=fun x y z=>by simp [part,ha]
 have p1:∀ x y z:Int,(part 44 #[J I x,J I y,J I z] 1).run prog w=.ok (J I y) w:=fun x y z=>by simp [part,ha]
 have p2:∀ x y z:Int,(part 44 #[J I x,J I y,J I z] 2).run prog w=.ok (J I z) w:=fun x y z=>by simp [part,ha]
 have q:∀ x:Int,(Op.equalIn 9999 44 (J I x) (J I 0)).run prog w=.ok (x == 0) w:=fun x=>run_equalIn_int w 9998 _ I I _ _ hE
 rw [show (10000:Nat)=9999+1 from rfl,Op.equalIn]
 simp only [Sem.run_bind,run_underlying hu,Result.andThen_ok,hs,Std.Legacy.Range.forIn_eq_forIn_range']
 rw [show List.range' ({ stop:=3,step_pos:=(by decide) }:Std.Legacy.Range).start ({ stop:=3,step_pos:=(by decide) }:Std.Legacy.Range).size ({ stop:=3,step_pos:=(by decide) }:Std.Legacy.Range).step=[0,1,2] from rfl]
 simp only [List.forIn_cons,List.forIn_nil,Sem.run_bind,Nat.mul_one,p0,q,Result.andThen_ok]
 by_cases h1:a=0 <;> by_cases h2:b=0 <;> by_cases h3:c=0 <;> simp [h1,h2,h3,p1,p2,q]
theorem gd3 (op:BinOp) (x y:Operand) (a b:Array T) (w:Z):(eqGuard op 171 x y (F a) (F b)).run prog w=.ok () w :=
 run_eqGuard_agg w op _ x y _ _ (by kernel_rfl)
theorem CB.three {w:Z} {g:Nat} {t:TypeId} {a b c:Value} (h:CB w g t [a,b,c]):w.cell? ⟨g,0,G⟩=Y a∧w.cell? ⟨g,1,G⟩=Y b∧w.cell? ⟨g,2,G⟩=Y c∧w.frozen? ⟨g,0,G⟩=false∧w.frozen? ⟨g,1,G⟩=false∧w.frozen? ⟨g,2,G⟩=false :=
 ⟨h.cell 0,h.cell 1,h.cell 2,h.frozen 0,h.frozen 1,h.frozen 2⟩
def k0i (w:Z) (e1 e2 e3 R S:Int) (v:T) (wx:Z):Prop :=
 ∃ B,v=.pointer (Y ⟨B,0,G⟩)∧CB wx B 171 [J I e1,J I e2,J I e3]∧CB wx w.heap.size 39 [J I R,J I S]∧U w.heap.size w wx
theorem k5x (a b c:Int):(#[J I a,J I b,J I c].all fun x=>x.oneCell')=true:=by simp [Value.oneCell']
theorem x6q {w w0 W:Z} {A:Nat} {R S:Int} (e1 e2 e3:Int) (hbw:U w.heap.size w w0) (hH:U w0.heap.size w0 W) (hA:CB W A 171 [J I 0,J I 0,J I 0])
 (pi:CB w0 w.heap.size 39 [J I R,J I S]) (gZ:w0.heap.size≤A):k0i w e1 e2 e3 R S (.pointer (Y ⟨A,0,G⟩)) (W.setRow A #[J I e1,J I e2,J I e3]):=by
 have hlt:=pi.lt
 have hS:=pi.ext hH
 refine ⟨A,rfl,setRow_heap _ _ _ _ _ _ hA,hS.keep (setRow_other W A _ _ (by omega)),?_⟩
 have hb:=z0a hbw hH
 exact ⟨hb.os,hb.tape,hb.output,by rw [size_setRow];exact hb.size,fun k hk=>by rw [setRow_other W A k _ (by have:=hbw.size;omega)];exact hb.block k hk⟩
theorem y9s {w wx:Z} {e1 e2 e3 R S:Int} {v:Value} (h:k0i w e1 e2 e3 R S v wx):wx.cell? ⟨w.heap.size,0,G⟩=Y (J I R)∧wx.cell? ⟨w.heap.size,1,G⟩=Y (J I S):=by
 obtain ⟨_,_,_,h,_⟩:=h
 exact ⟨h.cell 0,h.cell 1⟩
theorem take_dst {P:Program} {md:Region.Mode} {ops:Array Oper} {Q:Exit→Act→Z→Prop} {S:Z→Prop} (d:Option Tmp) {i:Nat} {oi:Oper} {v:Value} {fuel:Nat} {listed:Array Bool} {a:Act} {w:Z} (hi:ops[i]? = Y oi) (hd:oi.dst=d)
 (hs:Region.noSelect ops=true) (hf:Region.free md ops listed i=true) (hr:(Region.ready md ops listed).contains i=true)
 (hQ:∀ c a w,Q (.panic c) (a.put d v) w→Q (.panic c) a w) (hy:YieldsIf P ops S oi v a) (hS:S w)
 (h:wpAnyH P md ops Q S fuel (listed.setIfInBounds i true) (a.put d v) w):wpAnyH P md ops Q S (fuel+1) listed a w:=by
 subst hd
 exact wpAnyH_take hi hs hf hr hQ hy hS h
def z3w (P R S e1 e2 e3:Int) (l:List UInt8) (t:Bool):Prop :=
 (¬ (e1=0∧e2=0∧e3=0)∧t=false) ∨
 (e1=0∧e2=0∧e3=0∧∃ p r s a b c d:Nat,P=(p:Int)∧R=(r:Int)∧S=(s:Int)∧y7k p∧y7k r∧s<cQ∧j2v r p l=c∧pw 4 s=a∧pw p c=b∧r * b % cP=d∧((a:Int) == (d:Int))=t)
theorem x2y (P R S e1 e2 e3:Int) (v:T) (l:List UInt8) (t:Bool) (w:Z) (hl:l.length≤50000) (hb:z6c w.heap.size w l v) (hL:Laid w) (h1:M (ElE P e1)) (h2:M (ElE R e2)) (h3:M (ScE S e3)) (h:M (z3w P R S e1 e2 e3 l t)) :
 E prog 73 #[J I P,v,F #[J I R,J I S]] w fun e w'=>e=O (.bool t)∧U w.heap.size w w':=by
 have HB:=hd_ hb;have HL:=hd_ hL;have Hl:=hd_ hl
 obtain ⟨oa,cap,rfl⟩:=hb.shape
 clear hb hL hl
 have aX:M (CB (w.alloc (X #[J I R,J I S] 39)) w.heap.size 39 [J I R,J I S]):=heap_alloc_new w _
 have ax:=hd_ ((Below.refl w.heap.size w).alloc (lR _) (X #[J I R,J I S] 39))
 go_enter func73,ntmps73
 go_upto_region 1 with fail
 generalize w.alloc (X #[J I R,J I S] 39)=w0 at *
 go_cut [7] (fun v wx=>k0i w e1 e2 e3 R S v wx)
 case first =>
  clear h HB HL Hl
  have c0:=aX.out.cv 0 (J I R)
  have c1:=aX.out.cv 1 (J I S)
  have H0:=hd_ ((Below.refl w0.heap.size w0).drew)
  refine wp_region_held_drew (S:=(fun w'=>w'.cell? ⟨w.heap.size,0,G⟩=Y (J I R)∧w'.cell? ⟨w.heap.size,1,G⟩=Y (J I S))) (by kernel_rfl) ⟨z1a H0.out c0,z1a H0.out c1⟩ (fun hHeld=>?_)
  generalize w0.drew=W0 at *
  refine take_dst (Y 14) (i:=0) (v:=?va0) rfl rfl (by kernel_rfl) (by kernel_rfl) (by kernel_rfl) (fun _ _ _ h=>h) (Or.inl ⟨by rfl,fun wS aa=>?hya0⟩) (by assumption) ?resta0
  case hya0=>(obtain ⟨s0,s1⟩:=aa;go_simp;first|done|with_reducible rfl)
  try simp only [Act.put,aS,aZ,aU]
  refine take_dst (Y 16) (i:=2) (v:=?va2) rfl rfl (by kernel_rfl) (by kernel_rfl) (by kernel_rfl) (fun _ _ _ h=>h) (Or.inl ⟨by rfl,fun wS aa=>?hya2⟩) (by assumption) ?resta2
  case hya2=>(obtain ⟨s0,s1⟩:=aa;go_simp;first|done|with_reducible rfl)
  try simp only [Act.put,aS,aZ,aU]
  refine take_dst (Y 17) (i:=3) (v:=?va3) rfl rfl (by kernel_rfl) (by kernel_rfl) (by kernel_rfl) (fun _ _ _ h=>h) (Or.inl ⟨by rfl,fun wS aa=>?hya3⟩) (by assumption) ?resta3
  case hya3=>(obtain ⟨s0,s1⟩:=aa;go_simp;first|done|with_reducible rfl)
  try simp only [Act.put,aS,aZ,aU]
  refine take_dst (Y 19) (i:=5) (v:=?va5) rfl rfl (by kernel_rfl) (by kernel_rfl) (by kernel_rfl) (fun _ _ _ h=>h) (Or.inl ⟨by rfl,fun wS aa=>?hya5⟩) (by assumption) ?resta5
  case hya5=>(obtain ⟨s0,s1⟩:=aa;go_simp;first|done|with_reducible rfl)
  try simp only [Act.put,aS,aZ,aU]
  refine take_dst (Y 20) (i:=6) (v:=?va6) rfl rfl (by kernel_rfl) (by kernel_rfl) (by kernel_rfl) (fun _ _ _ h=>h) (Or.inl ⟨by rfl,fun wS aa=>?hya6⟩) (by assumption) ?resta6
  case hya6=>(obtain ⟨s0,s1⟩:=aa;go_simp;first|done|with_reducible rfl)
  try simp only [Act.put,aS,aZ,aU]
  refine wpAnyH_ready (rs:=[1,9]) (by kernel_rfl) (by simp) ?_
  refine AllReadyH.cons rfl (fun K hK=>?_) (AllReadyH.cons rfl (fun K hK=>?_) AllReadyH.nil)
  ·skip
   go_simp
   refine (z6s P e1 h1 _).mono ?_
   rintro e W1 ⟨rfl,hb⟩
   have H1:=hd_ (z0a H0.out hb)
   clear hb
   refine hK.out _ _ ⟨z1a H1.out c0,z1a H1.out c1⟩ (fun hHeld1=>?_)
   clear hK K
   try simp only [Act.put,aS,aZ,aU]
   refine wpAnyH_ready (rs:=[4,9]) (by kernel_rfl) (by simp) ?_
   refine AllReadyH.cons rfl (fun K hK=>?_) (AllReadyH.cons rfl (fun K hK=>?_) AllReadyH.nil)
   ·skip
    go_simp
    refine (z6s R e2 h2 _).mono ?_
    rintro e W2 ⟨rfl,hb⟩
    have H2:=hd_ (z0a H1.out hb)
    clear hb
    refine hK.out _ _ ⟨z1a H2.out c0,z1a H2.out c1⟩ (fun hHeld2=>?_)
    clear hK K
    try simp only [Act.put,aS,aZ,aU]
    refine wpAnyH_ready (rs:=[7,9]) (by kernel_rfl) (by simp) ?_
    refine AllReadyH.cons rfl (fun K hK=>?_) (AllReadyH.cons rfl (fun K hK=>?_) AllReadyH.nil)
    ·skip
     go_simp
     refine (z2u S e3 h3 _).mono ?_
     rintro e W3 ⟨rfl,hb⟩
     have H3:=hd_ (z0a H2.out hb)
     clear hb
     refine hK.out _ _ ⟨z1a H3.out c0,z1a H3.out c1⟩ (fun hHeld3=>?_)
     clear hK K
     try simp only [Act.put,aS,aZ,aU]
     refine take_dst (Y 22) (i:=8) (v:=?vt4) rfl rfl (by kernel_rfl) (by kernel_rfl) (by kernel_rfl) (fun _ _ _ h=>h) (Or.inl ⟨by rfl,fun wS aa=>?hyt4⟩) (by assumption) ?restt4
     case hyt4=>(obtain ⟨s0,s1⟩:=aa;go_simp;first|done|with_reducible rfl)
     try simp only [Act.put,aS,aZ,aU]
     refine wpAnyH_ready (rs:=[9]) (by kernel_rfl) (by simp) ?_
     refine AllReadyH.cons rfl (fun K hK=>?_) AllReadyH.nil
     go_simp
     have H5:=hd_ (H3.out.alloc H3.out.size (X #[J I 0,J I 0,J I 0] 171))
     have HA5:M (CB (W3.alloc (X #[J I 0,J I 0,J I 0] 171)) W3.heap.size 171 [J I 0,J I 0,J I 0]):=CB.new W3 _ _
     have HL:M (w0.heap.size≤W3.heap.size):=H3.out.size
     refine hK.out _ _ ⟨z1a H5.out c0,z1a H5.out c1⟩ (fun hHeld5=>?_)
     clear hK K
     generalize W3.alloc (X #[J I 0,J I 0,J I 0] 171)=W5 at *
     try simp only [Act.put,aS,aZ,aU]
     refine wpAnyH_ready (rs:=[10]) (by kernel_rfl) (by simp) ?_
     refine AllReadyH.cons rfl (fun K hK=>?_) AllReadyH.nil
     rw [if_pos (by simp [Region.wanted])]
     refine wp_store_row 171 (.tmp 7) (.tmp 22) rfl W3.heap.size #[J I e1,J I e2,J I e3] rfl rfl 171 #[J I 0,J I 0,J I 0] HA5.out (by kernel_rfl) rfl (k5x _ _ _) ?_
     have hend:=hd_ (x6q e1 e2 e3 ax.out H5.out HA5.out aX.out HL.out)
     refine hK.out _ _ (y9s hend.out) (fun hHeldE=>?_)
     clear hK K
     refine wpAnyH_done (by kernel_rfl) ?_ _
     go_wp2_with fail
     go_meet
     exact hend.out
    ·skip
     go_simp
     have H6:=hd_ (H2.out.alloc H2.out.size (X #[J I 0,J I 0,J I 0] 171))
     have HA6:M (CB (W2.alloc (X #[J I 0,J I 0,J I 0] 171)) W2.heap.size 171 [J I 0,J I 0,J I 0]):=CB.new W2 _ _
     have HL:M (w0.heap.size≤W2.heap.size):=H2.out.size
     refine hK.out _ _ ⟨z1a H6.out c0,z1a H6.out c1⟩ (fun hHeld6=>?_)
     clear hK K
     generalize W2.alloc (X #[J I 0,J I 0,J I 0] 171)=W6 at *
     try simp only [Act.put,aS,aZ,aU]
     refine wpAnyH_ready (rs:=[7]) (by kernel_rfl) (by simp) ?_
     refine AllReadyH.cons rfl (fun K hK=>?_) AllReadyH.nil
     go_simp
     refine (z2u S e3 h3 _).mono ?_
     rintro e W7 ⟨rfl,hb⟩
     have H7:=hd_ (z0a H6.out hb)
     have HA7:=hd_ (CB.ext HA6.out hb)
     clear hb
     refine hK.out _ _ ⟨z1a H7.out c0,z1a H7.out c1⟩ (fun hHeld7=>?_)
     clear hK K
     try simp only [Act.put,aS,aZ,aU]
     refine take_dst (Y 22) (i:=8) (v:=?vt8) rfl rfl (by kernel_rfl) (by kernel_rfl) (by kernel_rfl) (fun _ _ _ h=>h) (Or.inl ⟨by rfl,fun wS aa=>?hyt8⟩) (by assumption) ?restt8
     case hyt8=>(obtain ⟨s0,s1⟩:=aa;go_simp;first|done|with_reducible rfl)
     try simp only [Act.put,aS,aZ,aU]
     refine wpAnyH_ready (rs:=[10]) (by kernel_rfl) (by simp) ?_
     refine AllReadyH.cons rfl (fun K hK=>?_) AllReadyH.nil
     rw [if_pos (by simp [Region.wanted])]
     refine wp_store_row 171 (.tmp 7) (.tmp 22) rfl W2.heap.size #[J I e1,J I e2,J I e3] rfl rfl 171 #[J I 0,J I 0,J I 0] HA7.out (by kernel_rfl) rfl (k5x _ _ _) ?_
     have hend:=hd_ (x6q e1 e2 e3 ax.out H7.out HA7.out aX.out HL.out)
     refine hK.out _ _ (y9s hend.out) (fun hHeldE=>?_)
     clear hK K
     refine wpAnyH_done (by kernel_rfl) ?_ _
     go_wp2_with fail
     go_meet
     exact hend.out
   ·skip
    go_simp
    have H9:=hd_ (H1.out.alloc H1.out.size (X #[J I 0,J I 0,J I 0] 171))
    have HA9:M (CB (W1.alloc (X #[J I 0,J I 0,J I 0] 171)) W1.heap.size 171 [J I 0,J I 0,J I 0]):=CB.new W1 _ _
    have HL:M (w0.heap.size≤W1.heap.size):=H1.out.size
    refine hK.out _ _ ⟨z1a H9.out c0,z1a H9.out c1⟩ (fun hHeld9=>?_)
    clear hK K
    generalize W1.alloc (X #[J I 0,J I 0,J I 0] 171)=W9 at *
    try simp only [Act.put,aS,aZ,aU]
    refine wpAnyH_ready (rs:=[4]) (by kernel_rfl) (by simp) ?_
    refine AllReadyH.cons rfl (fun K hK=>?_) AllReadyH.nil
    go_simp
    refine (z6s R e2 h2 _).mono ?_
    rintro e W10 ⟨rfl,hb⟩
    have dN:=hd_ (z0a H9.out hb)
    have HA10:=hd_ (CB.ext HA9.out hb)
    clear hb
    refine hK.out _ _ ⟨z1a dN.out c0,z1a dN.out c1⟩ (fun hHeld10=>?_)
    clear hK K
    try simp only [Act.put,aS,aZ,aU]
    refine wpAnyH_ready (rs:=[7]) (by kernel_rfl) (by simp) ?_
    refine AllReadyH.cons rfl (fun K hK=>?_) AllReadyH.nil
    go_simp
    refine (z2u S e3 h3 _).mono ?_
    rintro e W11 ⟨rfl,hb⟩
    have mn:=hd_ (z0a dN.out hb)
    have HA11:=hd_ (CB.ext HA10.out hb)
    clear hb
    refine hK.out _ _ ⟨z1a mn.out c0,z1a mn.out c1⟩ (fun hHeld11=>?_)
    clear hK K
    try simp only [Act.put,aS,aZ,aU]
    refine take_dst (Y 22) (i:=8) (v:=?vt12) rfl rfl (by kernel_rfl) (by kernel_rfl) (by kernel_rfl) (fun _ _ _ h=>h) (Or.inl ⟨by rfl,fun wS aa=>?hyt12⟩) (by assumption) ?restt12
    case hyt12=>(obtain ⟨s0,s1⟩:=aa;go_simp;first|done|with_reducible rfl)
    try simp only [Act.put,aS,aZ,aU]
    refine wpAnyH_ready (rs:=[10]) (by kernel_rfl) (by simp) ?_
    refine AllReadyH.cons rfl (fun K hK=>?_) AllReadyH.nil
    rw [if_pos (by simp [Region.wanted])]
    refine wp_store_row 171 (.tmp 7) (.tmp 22) rfl W1.heap.size #[J I e1,J I e2,J I e3] rfl rfl 171 #[J I 0,J I 0,J I 0] HA11.out (by kernel_rfl) rfl (k5x _ _ _) ?_
    have hend:=hd_ (x6q e1 e2 e3 ax.out mn.out HA11.out aX.out HL.out)
    refine hK.out _ _ (y9s hend.out) (fun hHeldE=>?_)
    clear hK K
    refine wpAnyH_done (by kernel_rfl) ?_ _
    go_wp2_with fail
    go_meet
    exact hend.out
  ·skip
   go_simp
   have nh:=hd_ (H0.out.alloc H0.out.size (X #[J I 0,J I 0,J I 0] 171))
   have HA13:M (CB (W0.alloc (X #[J I 0,J I 0,J I 0] 171)) W0.heap.size 171 [J I 0,J I 0,J I 0]):=CB.new W0 _ _
   have HL:M (w0.heap.size≤W0.heap.size):=H0.out.size
   refine hK.out _ _ ⟨z1a nh.out c0,z1a nh.out c1⟩ (fun hHeld13=>?_)
   clear hK K
   generalize W0.alloc (X #[J I 0,J I 0,J I 0] 171)=W13 at *
   try simp only [Act.put,aS,aZ,aU]
   refine wpAnyH_ready (rs:=[1]) (by kernel_rfl) (by simp) ?_
   refine AllReadyH.cons rfl (fun K hK=>?_) AllReadyH.nil
   go_simp
   refine (z6s P e1 h1 _).mono ?_
   rintro e W14 ⟨rfl,hb⟩
   have iG:=hd_ (z0a nh.out hb)
   have HA14:=hd_ (CB.ext HA13.out hb)
   clear hb
   refine hK.out _ _ ⟨z1a iG.out c0,z1a iG.out c1⟩ (fun hHeld14=>?_)
   clear hK K
   try simp only [Act.put,aS,aZ,aU]
   refine wpAnyH_ready (rs:=[4]) (by kernel_rfl) (by simp) ?_
   refine AllReadyH.cons rfl (fun K hK=>?_) AllReadyH.nil
   go_simp
   refine (z6s R e2 h2 _).mono ?_
   rintro e W15 ⟨rfl,hb⟩
   have jF:=hd_ (z0a iG.out hb)
   have HA15:=hd_ (CB.ext HA14.out hb)
   clear hb
   refine hK.out _ _ ⟨z1a jF.out c0,z1a jF.out c1⟩ (fun hHeld15=>?_)
   clear hK K
   try simp only [Act.put,aS,aZ,aU]
   refine wpAnyH_ready (rs:=[7]) (by kernel_rfl) (by simp) ?_
   refine AllReadyH.cons rfl (fun K hK=>?_) AllReadyH.nil
   go_simp
   refine (z2u S e3 h3 _).mono ?_
   rintro e W16 ⟨rfl,hb⟩
   have nj:=hd_ (z0a jF.out hb)
   have HA16:=hd_ (CB.ext HA15.out hb)
   clear hb
   refine hK.out _ _ ⟨z1a nj.out c0,z1a nj.out c1⟩ (fun hHeld16=>?_)
   clear hK K
   try simp only [Act.put,aS,aZ,aU]
   refine take_dst (Y 22) (i:=8) (v:=?vt17) rfl rfl (by kernel_rfl) (by kernel_rfl) (by kernel_rfl) (fun _ _ _ h=>h) (Or.inl ⟨by rfl,fun wS aa=>?hyt17⟩) (by assumption) ?restt17
   case hyt17=>(obtain ⟨s0,s1⟩:=aa;go_simp;first|done|with_reducible rfl)
   try simp only [Act.put,aS,aZ,aU]
   refine wpAnyH_ready (rs:=[10]) (by kernel_rfl) (by simp) ?_
   refine AllReadyH.cons rfl (fun K hK=>?_) AllReadyH.nil
   rw [if_pos (by simp [Region.wanted])]
   refine wp_store_row 171 (.tmp 7) (.tmp 22) rfl W0.heap.size #[J I e1,J I e2,J I e3] rfl rfl 171 #[J I 0,J I 0,J I 0] HA16.out (by kernel_rfl) rfl (k5x _ _ _) ?_
   have hend:=hd_ (x6q e1 e2 e3 ax.out nj.out HA16.out aX.out HL.out)
   refine hK.out _ _ (y9s hend.out) (fun hHeldE=>?_)
   clear hK K
   refine wpAnyH_done (by kernel_rfl) ?_ _
   go_wp2_with fail
   go_meet
   exact hend.out
 case rest =>
  obtain ⟨B,rfl,hcB,pi,hbw⟩:=hcut
  obtain ⟨a0,a1,a2,_,_,_⟩:=hcB.three
  have c0:=pi.cv 0 (J I R)
  have c1:=pi.cv 1 (J I S)
  have eJ:=eq3 e1 e2 e3 wc
  have bj:=fun x y=>gd3 .neq x y #[J I e1,J I e2,J I e3] #[J I 0,J I 0,J I 0] wc
  have kn:=hd_ pi;have aV:=hd_ hbw
  clear pi hbw hcB aX ax
  rcases h.out with ⟨hne,rfl⟩|⟨rfl,rfl,rfl,p,r,s,a,b,c,d,rfl,rfl,rfl,hp,hr,hs,hc,ha,hB,hd,ht3⟩
  ·have ht:(e1 == 0&&e2 == 0&&e3 == 0)=false:=by simp;omega
   rw [ht] at eJ
   clear hne ht h
   go_wp2_with fail
   go_ret
   exact ⟨rfl,aV.out⟩
  ·have ht:((0:Int) == 0&&(0:Int) == 0&&(0:Int) == 0)=true:=by decide
   rw [ht] at eJ
   have Hp:=hd_ hp;have Hr:=hd_ hr;have Hs:=hd_ hs;have Hc:=hd_ hc;have Ha:=hd_ ha;have jz:=hd_ hB;have Hd:=hd_ hd
   have hcl:M (c<cQ):=by show _<_;rw [← hc];exact (y8s _ _).2
   have hbe:M (y7k b):=by show y7k b;rw [← hB];exact x4z hp c
   clear ht h hp hr hs hc ha hB hd
   go_wp2_with fail
   refine (x9k s a Hs Ha _).mono ?_
   rintro e w1 ⟨rfl,hb⟩
   have af:=hd_ (z0a aV.out hb)
   have d0:w1.cell? ⟨w.heap.size,0,G⟩=Y (J I r):=z1a hb c0
   have d1:w1.cell? ⟨w.heap.size,1,G⟩=Y (J I s):=z1a hb c1
   have hcs1:=hd_ (kn.out.ext hb)
   clear hb
   go_wp2_with fail
   have hbx:=af.out.alloc af.out.size (X #[J I r,J I p] 3)
   refine (y7s k2v _ l _ 2 2 [(r:Int),(p:Int)] _ (by decide) Hl.out (HB.out.ext hbx) (HL.out.ext hbx) rfl (by decide) (v2d _ _ _ _)).mono ?_
   rw [show y8a k2v.data.toList ([(r:Int),(p:Int)].flatMap b8++l)=c from Hc.out]
   rintro e w2 ⟨rfl,hb⟩
   have aj:=hd_ (z0a hbx hb)
   have hcs2:=hd_ (CB.ext (hcs1.out.alloc (X #[J I r,J I p] 3)) hb)
   clear hb hbx hcs1 d0 d1
   go_wp2_with fail
   refine (k1a p c b Hp hcl jz _).mono ?_
   rintro e w3 ⟨rfl,hb⟩
   have aB:=hd_ (z0a aj.out hb)
   have d0:w3.cell? ⟨w.heap.size,0,G⟩=Y (J I r):=(hcs2.out.ext hb).cell 0
   clear hb hcs2
   go_wp2_with fail
   refine (k8u r b d Hr hbe Hd _).mono ?_
   rintro e w4 ⟨rfl,hb⟩
   have cO:=hd_ (z0a aB.out hb)
   clear hb
   go_wp2_with fail
   go_ret
   exact ⟨rfl,cO.out⟩
def k6x (x r e:Int):Prop:=(∃ n p:Nat,x=(n:Int)∧ZPr (n:Int)∧pw 4 n=p∧r=(p:Int)∧e=0)∨(¬ ZPr x∧r=0∧e=40)
theorem k1i (x:Int):∃ r e,k6x x r e:=by
 by_cases h:ZPr x
 ·obtain ⟨n,rfl,_⟩:=k2a h
  exact ⟨_,_,.inl ⟨n,_,rfl,h,rfl,rfl,rfl⟩⟩
 ·exact ⟨_,_,.inr ⟨h,rfl,rfl⟩⟩
theorem x3y (x r e:Int) (h:M (k6x x r e)) (w:Z):E prog 25 #[J I x] w fun q w'=>q=O (.tuple #[J I r,J I e])∧U w.heap.size w w':=by
 rcases h.out with ⟨n,p,rfl,h1,h2,rfl,rfl⟩|⟨h1,rfl,rfl⟩
 ·exact j0n n p h1 h2 w
 ·refine (x0y x h1 w).mono ?_
  rintro q w' ⟨rfl,rfl⟩
  exact ⟨rfl,Below.refl _ _⟩
def k4a (x:Int) (l:List UInt8) (R S e:Int):Prop :=
 (∃ n k r c p m s:Nat,x=(n:Int)∧ZPr (n:Int)∧k3a n l=k∧pw 4 k=r∧pw 4 n=p∧j2v r p l=c∧c * n % cQ=m∧(k+m) % cQ=s∧R=(r:Int)∧S=(s:Int)∧e=0)∨(¬ ZPr x∧R=0∧S=0∧e=40)
theorem j2n (x:Int) (l:List UInt8):∃ R S e,k4a x l R S e:=by
 by_cases h:ZPr x
 ·obtain ⟨n,rfl,_⟩:=k2a h
  exact ⟨_,_,_,.inl ⟨n,_,_,_,_,_,_,rfl,h,rfl,rfl,rfl,rfl,rfl,rfl,rfl,rfl,rfl⟩⟩
 ·exact ⟨_,_,_,.inr ⟨h,rfl,rfl,rfl⟩⟩
theorem x7q (x R S e:Int) (v:T) (l:List UInt8) (w:Z) (h:M (k4a x l R S e)) (hl:l.length≤50000) (hb:z6c w.heap.size w l v) (hL:Laid w) :
 E prog 67 #[J I x,v] w fun q w'=>q=O (.tuple #[F #[J I R,J I S],J I e])∧U w.heap.size w w':=by
 rcases h.out with ⟨n,k,r,c,p,m,s,rfl,h1,h2,h3,h4,h5,h6,h7,rfl,rfl,rfl⟩|⟨h1,rfl,rfl,rfl⟩
 ·exact k7h n v l w k r c p m s h1 hl hb hL h2 h3 h4 h5 h6 h7
 ·obtain ⟨oa,cap,rfl⟩:=hb.shape
  exact j3v x oa _ cap w h1
theorem ElE.z {a x:Int} (h:ElE a x) (hx:x=0):ZEl a:=by
 rcases h with ⟨h,_⟩|⟨_,h⟩
 ·exact h
 ·omega
theorem ScE.z {a x:Int} (h:ScE a x) (hx:x=0):ZSc a:=by
 rcases h with ⟨h,_⟩|⟨_,h⟩
 ·exact h
 ·omega
end Go.Proofs.YtdblnbnofjggnaaGreatDoor
