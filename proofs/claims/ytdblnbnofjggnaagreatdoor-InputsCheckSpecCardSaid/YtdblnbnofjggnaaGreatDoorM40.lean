/- Parts of the proofs of chapter 49's laws: Jmo Jrh Jmx. -/
import Derived.Test.YtdblnbnofjggnaaGreatDoorM39
set_option maxHeartbeats 8000000
set_option maxRecDepth 100000
open Go
open Lib renaming hid → hd_
namespace Go.Proofs.YtdblnbnofjggnaaGreatDoor
open Go.RowKit
def DB (B:Nat) (w:World):Nat→Prop:=fun j=>(False∨B ≤ j)∧j < w.heap.size
theorem DB.mono {B:Nat} {w w':World} (hb:Below w.heap.size w w'):∀ k,DB B w k→DB B w' k:=fun _ h=>⟨h.1,Nat.lt_of_lt_of_le h.2 hb.size⟩
theorem It.ok_keepD {D D':Nat→Prop} {w w':World} {t:It} (h:t.ok D w) (hb:Below w.heap.size w w') (hD:∀ k,D k→k < w.heap.size) (hB:∀ k,D k→D' k):t.ok D' w':=by
 cases t with
 | nums l v=>exact ⟨h.1,h.2.1,h.2.2.ext hb⟩
 | val x lx=>exact y2e.keep h hB (fun k hk=>hb.block k (hD k hk))
 | _=>exact h
theorem z6p.keepD {D D':Nat→Prop} {w w':World} {l:List It} {v:Value} (h:z6p D w l v) (hb:Below w.heap.size w w') (hD:∀ k,D k→k < w.heap.size) (hB:∀ k,D k→D' k):z6p D' w' l v:=by
 refine ⟨fun t ht=>It.ok_keepD (h.1 t ht) hb hD hB,?_⟩
 rcases h.2 with h | ⟨b,cap,h1,h2,h3⟩
 · exact .inl h
 · exact .inr ⟨b,cap,h1,Nat.lt_of_lt_of_le h2 hb.size,fun j t ht=>(World.cell?_of_block (w:=w) (hb.block b h2)).trans (h3 j t ht)⟩
inductive GK where
 | eq (u:Value)
 | its (l:List It)
 | val (x:V)
 | ifv (x:V)
 | itx (xs:List V)
 | own (xs:List V)
 | vals (xs:List V)
 | ints (l:List Int)
 | owns (xs:List V)
 | one (x:V)
def GK.ok (B:Nat) (v:Value) (w:World):GK→Prop
 | .eq u=>v = u
 | .its l=>z6p (fun _=>False) w l v
 | .val x=>∃ lx,v = .agg #[.int .i64 x.kind,.int .i64 x.n,.string x.s,lx]∧y2e (DB B w) w x lx
 | .ifv x=>∃ lx,v = .iface 80 (.agg #[.int .i64 x.kind,.int .i64 x.n,.string x.s,lx])∧y2e (DB B w) w x lx
 | .itx xs=>∃ its,its.map It.x = xs∧z6p (DB B w) w its v
 | .own xs=>∃ lv,v = .agg (lvC lv).toArray∧z3j (fun _=>False) B w lv xs
 | .vals xs=>y0i (DB B w) w xs v
 | .ints l=>z9f nuK w.heap.size w l v
 | .owns xs=>z3j (fun _=>False) B w v xs
 | .one x=>∃ Bk lx,v = .slice (some ⟨Bk,0,none⟩) 1 1∧Bk < w.heap.size∧(w.cell? ⟨Bk,0,none⟩ = some (.int .i64 x.kind)∧w.cell? ⟨Bk,1,none⟩ = some (.int .i64 x.n)∧w.cell? ⟨Bk,2,none⟩ = some (.string x.s)∧w.cell? ⟨Bk,3,none⟩ = some lx)∧y2e (DB B w) w x lx
theorem GK.keep {B:Nat} {v:Value} {w w':World} {g:GK} (h:g.ok B v w) (hb:Below w.heap.size w w'):g.ok B v w':=by
 cases g with
 | eq u=>exact h
 | its l=>exact z6p.keep h hb (fun k hk=>hk.elim)
 | val x=>obtain ⟨lx,h1,h2⟩:=h;exact ⟨lx,h1,y2e.keep h2 (DB.mono hb) (fun k hk=>hb.block k hk.2)⟩
 | ifv x=>obtain ⟨lx,h1,h2⟩:=h;exact ⟨lx,h1,y2e.keep h2 (DB.mono hb) (fun k hk=>hb.block k hk.2)⟩
 | itx xs=>obtain ⟨its,h1,h2⟩:=h;exact ⟨its,h1,h2.keepD hb (fun k hk=>hk.2) (DB.mono hb)⟩
 | own xs=>obtain ⟨lv,h1,h2⟩:=h;exact ⟨lv,h1,h2.ext hb⟩
 | vals xs=>exact y0i.keep h (DB.mono hb) (fun k hk=>hb.block k hk.2)
 | ints l=>exact z9f.ext h hb
 | owns xs=>exact z3j.ext h hb
 | one x =>
  obtain ⟨Bk,lx,h1,h2,⟨c0,c1,c2,c3⟩,h4⟩:=h
  have hc:∀ o,w'.cell? ⟨Bk,o,none⟩ = w.cell? ⟨Bk,o,none⟩:=fun o=>World.cell?_of_block (w:=w) (hb.block Bk h2)
  exact ⟨Bk,lx,h1,Nat.lt_of_lt_of_le h2 hb.size,⟨(hc 0).trans c0,(hc 1).trans c1,(hc 2).trans c2,(hc 3).trans c3⟩,y2e.keep h4 (DB.mono hb) (fun k hk=>hb.block k hk.2)⟩
def GT (B:Nat) (tab:List GK) (k:Nat) (v:Value) (w:World):Prop:=match tab[k]? with | some g=>g.ok B v w | none=>True
theorem GT.keep {B:Nat} {tab:List GK} {k:Nat} {v:Value} {w w':World} (h:GT B tab k v w) (hb:Below w.heap.size w w'):GT B tab k v w':=by
 unfold GT at *
 cases hk:tab[k]? with
 | none=>trivial
 | some g=>rw [hk] at h;exact GK.keep h hb
theorem GT.mk {B:Nat} {tab:List GK} {k:Nat} {v:Value} {w:World} {g:GK} (h:tab[k]? = some g) (hg:g.ok B v w):GT B tab k v w:=by
 unfold GT;rw [h];exact hg
theorem GT.out {B:Nat} {tab:List GK} {k:Nat} {v:Value} {w:World} {g:GK} (h:tab[k]? = some g) (hg:GT B tab k v w):g.ok B v w:=by
 unfold GT at hg;rw [h] at hg;exact hg
theorem z9h {B:Nat} {w:World} (xs:List V) (lxs:List Value) (hB:B ≤ w.heap.size) (h:z2t (DB B w) w xs lxs) (hl:xs.length ≤ maxLen) :
 z3j (fun _=>False) B (w.alloc (.cells (z7d xs lxs).toArray 80)) (.slice (some ⟨w.heap.size,0,none⟩) xs.length xs.length) xs:=by
 have hlen:=z7r xs lxs h
 refine ⟨⟨lxs,⟨z6r xs lxs hlen,.inr ⟨w.heap.size,xs.length,_,rfl,hB,z6a w _ _ _ rfl,Nat.le_refl _,hl,by rw [List.size_toArray];exact z6r xs lxs hlen,by
  show List.take (xs.length * 4) (z7d xs lxs) = _
  exact List.take_of_length_le (by rw [z6r xs lxs hlen];exact Nat.le_refl _)⟩⟩,?_,hl,fun k hk=>hk.2.2⟩,fun j h=>h.elim⟩
 refine z9e (fun k hk=>⟨hk.1,by rw [World.size_alloc];have:=hk.2;omega,fun e=>?_⟩) (fun k hk=>Below.heap_alloc w _ k hk.2) _ _ h
 have:=hk.2
 have e2:k = w.heap.size:=Option.some.inj e
 omega
theorem j7d {B:Nat} {w:World} (x:V) (lx:Value) (h:y2e (DB B w) w x lx):(GK.one x).ok B (.slice (some ⟨w.heap.size,0,none⟩) 1 1) (w.alloc (.cells [.int .i64 x.kind,.int .i64 x.n,.string x.s,lx].toArray 80)):=by
 have hc:=z6a w (.cells [.int .i64 x.kind,.int .i64 x.n,.string x.s,lx].toArray 80) _ _ rfl
 exact ⟨w.heap.size,lx,rfl,hc.lt,⟨hc.cell 0,hc.cell 1,hc.cell 2,hc.cell 3⟩,y2e.keep h (DB.mono (z5b _)) (fun k hk=>Below.heap_alloc w _ k hk.2)⟩
theorem z7n {D:Nat→Prop} {B B':Nat} {w:World} {lv:Value} {xs:List V} (h:z3j D B w lv xs) (hB:B' ≤ B) (hD:∀ j,D j→B' ≤ j):z3j (fun _=>False) B' w lv xs:=by
 obtain ⟨⟨lvs,h1,h2,h3,h4⟩,h5⟩:=h
 refine ⟨⟨lvs,⟨h1.1,?_⟩,z9e (fun k hk=>⟨.inr (hk.1.elim (hD k) (Nat.le_trans hB)),hk.2⟩) (fun _ _=>rfl) _ _ h2,h3,fun k hk=>hk.2.2⟩,fun j h=>h.elim⟩
 rcases h1.2 with h | ⟨g,cap,cur,e1,e2,e3⟩
 · exact .inl h
 · exact .inr ⟨g,cap,cur,e1,Nat.le_trans hB e2,e3⟩
theorem x7s {D:Nat→Prop} {B0 B:Nat} {w:World} {lv:Value} {xs:List V} (h:z3j D B w lv xs) (hB:B0 ≤ B) (hD:∀ j,D j→B0 ≤ j):y2e (DB B0 w) w (lV xs) lv :=
 ⟨by show I64 3;unfold I64;omega,by show I64 0;unfold I64;omega,by show (0:Nat) ≤ _;unfold maxLen;decide,h.sl.keep (fun k hk=>⟨.inr (hk.1.elim (hD k) (Nat.le_trans hB)),hk.2⟩) (fun _ _=>rfl)⟩
theorem j9j {B:Nat} {w:World} {lv:Value} {xs:List V} (h:z3j (fun _=>False) B w lv xs):y2e (DB B w) w (lV xs) lv:=x7s h (Nat.le_refl _) (fun _j h=>h.elim)
section
variable {P:Program} {md:Region.Mode} {ops:Array Oper} {Q:Exit→Act→World→Prop} {S:World→Prop} {late:Nat→Bool}
def k3p (P:Program) (md:Region.Mode) (ops:Array Oper) (Q:Exit→Act→World→Prop) (S:World→Prop) (ps:List (Nat × Nat)) (B:Nat) (tab:List GK) (a0:Act) (i:Nat):Prop :=
 ∀ o,ops[i]? = some o→∀ a w,(∀ d,(ps.all fun p=>!(p.2 == d)) = true→a.tmps[d]? = a0.tmps[d]?)→S w→(∀ k d,ps.contains (k,d) = true→z2n md ops i k = true→∃ v,a.tmps[d]? = some v∧GT B tab k v w) →
  ∀ K':Act→World→Prop,Shut (∀ v w',GT B tab i v w'→Below w.heap.size w w'→K' (a.put o.dst v) w')→if Region.wanted o (yielded ops a.tmps) = true then Oper.wp P o a w K' Q else K' (a.put o.dst undef) w
theorem k3p.mk {ps:List (Nat × Nat)} {B:Nat} {tab:List GK} {a0:Act} {i:Nat} {o:Oper} (ho:ops[i]? = some o)
 (h:∀ a w,(∀ d,(ps.all fun p=>!(p.2 == d)) = true→a.tmps[d]? = a0.tmps[d]?)→S w→(∀ k d,ps.contains (k,d) = true→z2n md ops i k = true→∃ v,a.tmps[d]? = some v∧GT B tab k v w) →
 ∀ K':Act→World→Prop,Shut (∀ v w',GT B tab i v w'→Below w.heap.size w w'→K' (a.put o.dst v) w')→if Region.wanted o (yielded ops a.tmps) = true then Oper.wp P o a w K' Q else K' (a.put o.dst undef) w):k3p P md ops Q S ps B tab a0 i:=fun o' ho'=>by
 rw [ho] at ho'
 cases ho'
 exact h
def x6m (P:Program) (md:Region.Mode) (ops:Array Oper) (Q:Exit→Act→World→Prop) (S:World→Prop) (ps:List (Nat × Nat)) (B:Nat) (tab:List GK) (a0:Act):List Nat→Prop
 | []=>True
 | i :: r=>k3p P md ops Q S ps B tab a0 i∧x6m P md ops Q S ps B tab a0 r
theorem x6m.cons {ps:List (Nat × Nat)} {B:Nat} {tab:List GK} {a0:Act} {i:Nat} {r:List Nat} (h:k3p P md ops Q S ps B tab a0 i) (hr:x6m P md ops Q S ps B tab a0 r):x6m P md ops Q S ps B tab a0 (i :: r):=⟨h,hr⟩
theorem x6m.all {ps:List (Nat × Nat)} {B:Nat} {tab:List GK} {a0:Act}:∀ {l:List Nat},x6m P md ops Q S ps B tab a0 l→∀ i ∈ l,k3p P md ops Q S ps B tab a0 i
 | [],_,_,h=>by cases h
 | j :: r,h,i,hi=>by
  rcases List.mem_cons.1 hi with rfl | hi
  · exact h.1
  · exact x6m.all h.2 i hi
theorem ocO {ps:List (Nat × Nat)} {B:Nat} {tab:List GK} {a0:Act} {i:Nat} {o:Oper} {r:List Nat}
 (h:∀ a w,(∀ d,(ps.all fun p=>!(p.2 == d)) = true→a.tmps[d]? = a0.tmps[d]?)→S w→(∀ k d,ps.contains (k,d) = true→z2n md ops i k = true→∃ v,a.tmps[d]? = some v∧GT B tab k v w) →
 ∀ K':Act→World→Prop,Shut (∀ v w',GT B tab i v w'→Below w.heap.size w w'→K' (a.put o.dst v) w')→if Region.wanted o (yielded ops a.tmps) = true then Oper.wp P o a w K' Q else K' (a.put o.dst undef) w) (hr:x6m P md ops Q S ps B tab a0 r) (ho:ops[i]? = some o:=by exact rfl):x6m P md ops Q S ps B tab a0 (i :: r):=⟨k3p.mk ho h,hr⟩
theorem dpO {ps:List (Nat × Nat)} {B:Nat} {tab:List GK} {i:Nat} {a:Act} {w:World} {u:Value} (hd:∀ k d,ps.contains (k,d) = true→z2n md ops i k = true→∃ v,a.tmps[d]? = some v∧GT B tab k v w) (k d:Nat)
 (h1:ps.contains (k,d) = true:=by kernel_rfl) (h2:z2n md ops i k = true:=by kernel_rfl) (hg:tab[k]? = some (.eq u):=by exact rfl):a.tmps[d]? = some u:=by
 obtain ⟨v,e,q⟩:=hd k d h1 h2
 have q:=GT.out hg q
 replace q:v = u:=q
 rw [e,q]
theorem daO {ps:List (Nat × Nat)} {a a0:Act} {v:Value} (ha:∀ d,(ps.all fun p=>!(p.2 == d)) = true→a.tmps[d]? = a0.tmps[d]?) (d:Nat) (h1:(ps.all fun p=>!(p.2 == d)) = true:=by kernel_rfl) (h2:a0.tmps[d]? = some v:=by exact rfl):a.tmps[d]? = some v:=(ha d h1).trans h2
theorem gqO {B:Nat} {tab:List GK} {i:Nat} {a:Act} {w:World} {v:Value} {d:Option Tmp} {K':Act→World→Prop} (hK:Shut (∀ v w',GT B tab i v w'→Below w.heap.size w w'→K' (a.put d v) w')) (hg:tab[i]? = some (.eq v):=by exact rfl):K' (a.put d v) w:=hK.out _ _ (GT.mk hg rfl) (Below.refl _ _)
theorem oc0 {ps:List (Nat × Nat)} {B:Nat} {tab:List GK} {a0:Act} {i:Nat} {o:Oper} {r:List Nat} {u:Value} (d:Nat) (hr:x6m P md ops Q S ps B tab a0 r) (ho:ops[i]? = some o:=by exact rfl) (h1:(ps.all fun p=>!(p.2 == d)) = true:=by kernel_rfl) (h2:a0.tmps[d]? = some u:=by exact rfl)
 (h:∀ a w,a.tmps[d]? = some u→S w→∀ K':Act→World→Prop,Shut (∀ v w',GT B tab i v w'→Below w.heap.size w w'→K' (a.put o.dst v) w')→if Region.wanted o (yielded ops a.tmps) = true then Oper.wp P o a w K' Q else K' (a.put o.dst undef) w:=by intro a w e0 hs K hK;go_simp;exact gqO hK):x6m P md ops Q S ps B tab a0 (i :: r) :=
 ⟨k3p.mk ho fun a w ha hs _=>h a w (daO ha d h1 h2) hs,hr⟩
theorem oc1 {ps:List (Nat × Nat)} {B:Nat} {tab:List GK} {a0:Act} {i:Nat} {o:Oper} {r:List Nat} {u:Value} (k d:Nat) (hr:x6m P md ops Q S ps B tab a0 r) (ho:ops[i]? = some o:=by exact rfl) (h1:ps.contains (k,d) = true:=by kernel_rfl) (h2:z2n md ops i k = true:=by kernel_rfl) (hg:tab[k]? = some (.eq u):=by exact rfl)
 (h:∀ a w,a.tmps[d]? = some u→S w→∀ K':Act→World→Prop,Shut (∀ v w',GT B tab i v w'→Below w.heap.size w w'→K' (a.put o.dst v) w')→if Region.wanted o (yielded ops a.tmps) = true then Oper.wp P o a w K' Q else K' (a.put o.dst undef) w:=by intro a w e0 hs K hK;go_simp;exact gqO hK):x6m P md ops Q S ps B tab a0 (i :: r) :=
 ⟨k3p.mk ho fun a w _ hs hd=>h a w (dpO hd k d h1 h2 hg) hs,hr⟩
theorem z8g {ps:List (Nat × Nat)} {B:Nat} {tab:List GK} {a0:Act} {i:Nat} {o:Oper} {r:List Nat} {u:Value} {C:World→Prop} (k d:Nat) (hc:∀ w,S w→C w) (hr:x6m P md ops Q S ps B tab a0 r) (ho:ops[i]? = some o:=by exact rfl) (h1:ps.contains (k,d) = true:=by kernel_rfl) (h2:z2n md ops i k = true:=by kernel_rfl) (hg:tab[k]? = some (.eq u):=by exact rfl)
 (h:∀ a w,a.tmps[d]? = some u→C w→∀ K':Act→World→Prop,Shut (∀ v w',GT B tab i v w'→Below w.heap.size w w'→K' (a.put o.dst v) w')→if Region.wanted o (yielded ops a.tmps) = true then Oper.wp P o a w K' Q else K' (a.put o.dst undef) w:=by intro a w e0 c0 K hK;go_simp;exact gqO hK):x6m P md ops Q S ps B tab a0 (i :: r) :=
 ⟨k3p.mk ho fun a w _ hs hd=>h a w (dpO hd k d h1 h2 hg) (hc w hs),hr⟩
theorem z9y (ps:List (Nat × Nat)) {listed:Array Bool} (listedEnd:Array Bool) (fuelEnd:Nat) {fuel:Nat} {a0:Act} {w:World} (B:Nat) (tab:List GK)
 (hck:y3s md ops listed (ps.map Prod.fst) = true) (hnd:(ps.map Prod.fst).Nodup) (hnd2:(ps.map Prod.snd).Nodup) (hd:(ps.all fun p=>z1n ops p.1 == p.2 && Nat.blt p.2 a0.tmps.size) = true)
 (hl:(y4g listed (fun _=>false) == listed) = true) (hle:(y4g listed (fun k=>(ps.map Prod.fst).contains k) == listedEnd) = true) (hf:(fuel == ps.length + fuelEnd) = true)
 (hS:∀ w w',S w→Below w.heap.size w w'→S w') (hs:S w)
 (hop:x6m P md ops Q S ps B tab a0 (ps.map Prod.fst))
 (hend:∀ (a:Act) w',(∀ d,(ps.all fun p=>!(p.2 == d)) = true→a.tmps[d]? = a0.tmps[d]?)→a.defers = a0.defers→a.tmps.size = a0.tmps.size→S w'→(∀ k d,ps.contains (k,d) = true→∃ v,a.tmps[d]? = some v∧GT B tab k v w')→z2e P md ops Q S late fuelEnd listedEnd a w') :
 z2e P md ops Q S late fuel listed a0 w:=by
 have hd':∀ p ∈ ps,z1n ops p.1 = p.2∧p.2 < a0.tmps.size:=fun p hp=>by
  have:=List.all_eq_true.1 hd p hp
  rw [Bool.and_eq_true,beq_iff_eq,Nat.blt_eq] at this
  exact this
 have hno:∀ d,(ps.all fun p=>!(p.2 == d)) = true→∀ p ∈ ps,p.2 ≠ d:=fun d h p hp e=>by
  have:=List.all_eq_true.1 h p hp
  simp [e] at this
 refine z3m ps listedEnd fuelEnd (GT B tab) hck hnd hnd2 hd hl hle hf (fun _ _ _ _ h hb=>GT.keep h hb) hS hs (fun i hi o ho a wa ha hsa hda K' hK=>?_) (fun vals w' hs' hg=>?_)
 · refine x6m.all hop i hi o ho a wa (fun d hx=>ha.tmp d fun j hj e=>?_) hsa (fun k d hx hdep=>hda (k,d) (by simpa using hx) hdep) K' hK
   obtain ⟨p,hp,rfl⟩:=List.mem_map.1 hj
   rw [(hd' p hp).1] at e
   exact hno d hx p hp e
 · exact hend _ w' (fun d hx=>y2a vals ps a0 d (hno d hx)) (z8t vals ps a0) (y7s vals ps a0) hs' (fun k d hx=>by
    have hp:(k,d) ∈ ps:=by simpa using hx
    exact ⟨_,y8l vals ps a0 (k,d) hp hnd2 (hd' _ hp).2,hg _ hp⟩)
end
def vC (x:V) (lx:Value):List Value:=[.int .i64 x.kind,.int .i64 x.n,.string x.s,lx]
theorem z8f (oa:Option Addr) (n cap:Nat) (w:World):Calls Tryz.prog 52 #[.slice oa n cap] w fun e w'=>e = .returned (.agg ([.int .i64 3,.int .i64 0,.string ⟨#[]⟩,.slice oa n cap]:List Value).toArray)∧Below w.heap.size w w':=by
 have H2:Hid (CB (w.alloc Z4) w.heap.size 80 Z4c):=z6a w Z4 _ _ rfl
 have Hb:=hd_ (z5b (w:=w) Z4)
 have H1:Hid (∀ u ∈ ([.int .i64 3,.int .i64 0,.string ⟨#[]⟩,.slice oa n cap]:List Value),u.oneCell' = true):=hd_ (by intro u hu;simp only [List.mem_cons,List.not_mem_nil,or_false] at hu;rcases hu with rfl | rfl | rfl | rfl <;> rfl)
 go_enter Tryz.func52,Tryz.ntmps52
 go_wp2_with (have _g:=H1.out;refine z4a rfl 80 (.tmp 2) (.tmp 4) rfl w.heap.size [.int .i64 3,.int .i64 0,.string ⟨#[]⟩,.slice oa n cap] rfl rfl 80 Z4c H2.out rfl (by kernel_rfl) H1.out (fun w6 HC6 HW6 HZ6=>?_);clear H1)
 refine bodyPost_ret (v:=.agg ([.int .i64 3,.int .i64 0,.string ⟨#[]⟩,.slice oa n cap]:List Value).toArray) (results_cell_row rfl _ _ w.heap.size 80 _ (0,0) _ rfl HC6.out Tryz.underlying80 rfl (by kernel_rfl)) rfl ?_
 exact ⟨rfl,Hb.out.grown HW6.out Hb.out.size (fun k hk=>by injection hk with hk;omega)⟩
theorem z4b (n:Int) (w:World):Calls Tryz.prog 114 #[.int .i64 n] w fun e w'=>e = .returned (.agg ([.int .i64 1,.int .i64 n,.string ⟨#[]⟩,.slice none 0 0]:List Value).toArray)∧Below w.heap.size w w':=by
 have H2:Hid (CB (w.alloc Z4) w.heap.size 80 Z4c):=z6a w Z4 _ _ rfl
 have Hb:=hd_ (z5b (w:=w) Z4)
 have H1:Hid (∀ u ∈ ([.int .i64 1,.int .i64 n,.string ⟨#[]⟩,.slice none 0 0]:List Value),u.oneCell' = true):=hd_ (by intro u hu;simp only [List.mem_cons,List.not_mem_nil,or_false] at hu;rcases hu with rfl | rfl | rfl | rfl <;> rfl)
 go_enter Tryz.func114,Tryz.ntmps114
 go_wp2_with (have _g:=H1.out;refine z4a rfl 80 (.tmp 2) (.tmp 4) rfl w.heap.size [.int .i64 1,.int .i64 n,.string ⟨#[]⟩,.slice none 0 0] rfl rfl 80 Z4c H2.out rfl (by kernel_rfl) H1.out (fun w6 HC6 HW6 HZ6=>?_);clear H1)
 refine bodyPost_ret (v:=.agg ([.int .i64 1,.int .i64 n,.string ⟨#[]⟩,.slice none 0 0]:List Value).toArray) (results_cell_row rfl _ _ w.heap.size 80 _ (0,0) _ rfl HC6.out Tryz.underlying80 rfl (by kernel_rfl)) rfl ?_
 exact ⟨rfl,Hb.out.grown HW6.out Hb.out.size (fun k hk=>by injection hk with hk;omega)⟩
theorem y3e (s:ByteArray) (w:World):Calls Tryz.prog 115 #[.string s] w fun e w'=>e = .returned (.agg ([.int .i64 2,.int .i64 0,.string s,.slice none 0 0]:List Value).toArray)∧Below w.heap.size w w':=by
 have H2:Hid (CB (w.alloc Z4) w.heap.size 80 Z4c):=z6a w Z4 _ _ rfl
 have Hb:=hd_ (z5b (w:=w) Z4)
 have H1:Hid (∀ u ∈ ([.int .i64 2,.int .i64 0,.string s,.slice none 0 0]:List Value),u.oneCell' = true):=hd_ (by intro u hu;simp only [List.mem_cons,List.not_mem_nil,or_false] at hu;rcases hu with rfl | rfl | rfl | rfl <;> rfl)
 go_enter Tryz.func115,Tryz.ntmps115
 go_wp2_with (have _g:=H1.out;refine z4a rfl 80 (.tmp 2) (.tmp 4) rfl w.heap.size [.int .i64 2,.int .i64 0,.string s,.slice none 0 0] rfl rfl 80 Z4c H2.out rfl (by kernel_rfl) H1.out (fun w6 HC6 HW6 HZ6=>?_);clear H1)
 refine bodyPost_ret (v:=.agg ([.int .i64 2,.int .i64 0,.string s,.slice none 0 0]:List Value).toArray) (results_cell_row rfl _ _ w.heap.size 80 _ (0,0) _ rfl HC6.out Tryz.underlying80 rfl (by kernel_rfl)) rfl ?_
 exact ⟨rfl,Hb.out.grown HW6.out Hb.out.size (fun k hk=>by injection hk with hk;omega)⟩
theorem y4e (b:Bool) (w:World):Calls Tryz.prog 113 #[.bool b] w fun e w'=>e = .returned (.agg (vC (bV b) (.slice none 0 0)).toArray)∧Below w.heap.size w w':=by
 have H2:Hid (CB (w.alloc Z4) w.heap.size 80 Z4c):=z6a w Z4 _ _ rfl
 have Hb:=hd_ (z5b (w:=w) Z4)
 have H1:=hd_ (z8y 1 1 ⟨#[]⟩ (.slice none 0 0) rfl)
 have H0:=hd_ (z8y 1 0 ⟨#[]⟩ (.slice none 0 0) rfl)
 go_enter Tryz.func113,Tryz.ntmps113
 cases b
 · go_wp2_with (first
    | (go_at_call 114;refine (z4b 0 _).mono ?_;go_loud (rintro e w3 ⟨rfl,hb3⟩;have HB3:=hd_ hb3;clear hb3;replace H2:=hd_ (H2.out.ext HB3.out);replace Hb:=hd_ (z0a Hb.out HB3.out);clear HB3))
    | (have _g:=H0.out;refine z4a rfl 80 (.tmp 2) (.tmp 5) rfl w.heap.size [.int .i64 1,.int .i64 0,.string ⟨#[]⟩,.slice none 0 0] rfl rfl 80 Z4c H2.out rfl (by kernel_rfl) H0.out (fun w6 HC6 HW6 HZ6=>?_);clear H0))
   refine bodyPost_ret (v:=.agg ([.int .i64 1,.int .i64 0,.string ⟨#[]⟩,.slice none 0 0]:List Value).toArray) (results_cell_row rfl _ _ w.heap.size 80 _ (0,0) _ rfl HC6.out Tryz.underlying80 rfl (by kernel_rfl)) rfl ?_
   exact ⟨rfl,Hb.out.grown HW6.out Hb.out.size (fun k hk=>by injection hk with hk;omega)⟩
 · go_wp2_with (first
    | (go_at_call 114;refine (z4b 1 _).mono ?_;go_loud (rintro e w3 ⟨rfl,hb3⟩;have HB3:=hd_ hb3;clear hb3;replace H2:=hd_ (H2.out.ext HB3.out);replace Hb:=hd_ (z0a Hb.out HB3.out);clear HB3))
    | (have _g:=H1.out;refine z4a rfl 80 (.tmp 2) (.tmp 4) rfl w.heap.size [.int .i64 1,.int .i64 1,.string ⟨#[]⟩,.slice none 0 0] rfl rfl 80 Z4c H2.out rfl (by kernel_rfl) H1.out (fun w6 HC6 HW6 HZ6=>?_);clear H1))
   refine bodyPost_ret (v:=.agg ([.int .i64 1,.int .i64 1,.string ⟨#[]⟩,.slice none 0 0]:List Value).toArray) (results_cell_row rfl _ _ w.heap.size 80 _ (0,0) _ rfl HC6.out Tryz.underlying80 rfl (by kernel_rfl)) rfl ?_
   exact ⟨rfl,Hb.out.grown HW6.out Hb.out.size (fun k hk=>by injection hk with hk;omega)⟩
def k0l (l:List Int) (w:World) (v3 v4:Value) (wr:World):Prop :=
 ∃ (xs:List V),xs = (l.take xs.length).map iV∧xs.length ≤ l.length∧v4 = .int .i64 (xs.length:Int)∧z3j (fun _=>False) (w.heap.size + 1) wr v3 xs∧CB wr w.heap.size 80 Z4c∧Below w.heap.size w wr
theorem x8g {α:Type} {f:α→V} {l:List α} {xs:List V} {c:α} (hc:l[xs.length]? = some c) (hx:xs = (l.take xs.length).map f):xs ++ [f c] = (l.take (xs ++ [f c]).length).map f:=by
 rw [List.length_append,List.length_singleton,List.take_add_one,hc]
 simp [← hx]
theorem x8s {l:List Int} {w w9:World} {xs:List V} {n:Int} {oa:Option Addr} {cp:Nat} (hc:l[xs.length]? = some n) (hx:xs = (l.take xs.length).map iV) (hO:z3j (fun _=>False) (w.heap.size + 1) w9 (.slice oa (xs.length + 1) cp) (xs ++ [iV n])) (h2:CB w9 w.heap.size 80 Z4c) (hb:Below w.heap.size w w9) :
 k0l l w (.slice oa (xs.length + 1) cp) (.int .i64 ((xs.length:Int) + 1)) w9:=by
 have hl:(xs ++ [iV n]).length = xs.length + 1:=by simp
 have hlt:=(List.getElem?_eq_some_iff.1 hc).1
 exact ⟨xs ++ [iV n],x8g hc hx,by omega,by rw [hl];simp,hO,h2,hb⟩
theorem z0g (l:List Int) (v:Value) (w:World) (hl:z9f nuK w.heap.size w l v) (hi:∀ n ∈ l,I64 n) (hn:l.length ≤ 1000000) :
 Calls Tryz.prog 54 #[v] w fun e w'=>∃ lv,e = .returned (.agg (lvC lv).toArray)∧z3j (fun _=>False) w.heap.size w' lv (l.map iV)∧Below w.heap.size w w':=by
 obtain ⟨oa,cap,rfl,-⟩:=hl.shape
 have HL:=hd_ hl;have Hi:=hd_ hi;have Hn:=hd_ hn
 have H2:Hid (CB (w.alloc Z4) w.heap.size 80 Z4c):=z6a w Z4 _ _ rfl
 have Hb:=hd_ (z5b (w:=w) Z4)
 have l1:(l.length:Int) ≤ 9223372036854775807:=by omega
 clear hl hi hn
 go_enter Tryz.func54,Tryz.ntmps54
 go_upto_region 1 with fail
 change Code.wp _ _ _ _ (w.alloc Z4)
 have HZ:Hid ((w.alloc Z4).heap.size = w.heap.size + 1):=World.size_alloc _ _
 generalize w.alloc Z4 = w1 at *
 have hO0:=z9h (B:=w.heap.size + 1) (w:=w1) [] [] (by rw [HZ.out];exact Nat.le_refl _) trivial (by simp)
 have HO0:=hd_ hO0
 have hbz:Below w1.heap.size w1 (w1.alloc (.cells (z7d [] []).toArray 80)):=z5b _
 replace H2:=hd_ (H2.out.ext hbz);replace Hb:=hd_ (z0a Hb.out hbz)
 clear hO0 hbz
 go_upto_region 2 with fail
 change Code.wp _ _ _ _ (w1.alloc (.cells (z7d [] []).toArray 80))
 generalize w1.alloc (.cells (z7d [] []).toArray 80) = w2 at *
 clear HZ
 go_wp2_with fail
 go_loopw [3,4] (fun v3 v4 wr=>k0l l w v3 v4 wr) (fun _ v4 _=>l.length - (intOf v4).toNat)
 case atStart=>exact ⟨[],rfl,by simp,rfl,HO0.out,H2.out,Hb.out⟩
 case round =>
  obtain ⟨xs,hxs,hle,rfl,hO,h2,hb⟩:=hrel
  obtain ⟨ol,cl,rfl⟩:=hO.shape
  have Hxs:=hd_ hxs;have HO:=hd_ hO;have H2':=hd_ h2;have Hb':=hd_ hb
  clear hO h2 hb hxs H2 Hb HO0
  by_cases hlt:xs.length < l.length
  case pos =>
   obtain ⟨n,hn⟩:∃ n,l[xs.length]? = some n:=⟨_,List.getElem?_eq_getElem hlt⟩
   obtain ⟨nb,no,hon,_,hat⟩:=(HL.out.ext Hb'.out).at (k:=xs.length) hlt
   have hcn:wr.cell? ⟨nb,no + xs.length,none⟩ = some (.int .i64 n):=by have:=hat xs.length n hn 0 _ rfl;simpa [nuK] using this
   subst hon
   have Hc:=hd_ hn;have Hni:Hid (I64 n):=Hi.out n (List.mem_of_getElem? hn);have Hlt:=hd_ hlt
   have tj:decide ((xs.length:Int) < (l.length:Int)) = true:=decide_eq_true (by omega)
   have tj':decide (xs.length < l.length) = true:=decide_eq_true hlt
   clear hat hn
   go_wp2_with (first
    | (go_at_call 114;refine (z4b n _).mono ?_;go_loud (rintro e w5 ⟨rfl,hb5⟩;have HB5:=hd_ hb5;clear hb5;have HBk:Hid (CB (w5.alloc (.cells [.int .i64 1,.int .i64 n,.string ⟨#[]⟩,.slice none 0 0].toArray 80)) w5.heap.size 80 [.int .i64 1,.int .i64 n,.string ⟨#[]⟩,.slice none 0 0]):=z6a w5 _ _ _ rfl;have HOA:=hd_ ((HO.out.ext HB5.out).alloc (.cells [.int .i64 1,.int .i64 n,.string ⟨#[]⟩,.slice none 0 0].toArray 80));have H2A:=hd_ ((H2'.out.ext HB5.out).alloc (.cells [.int .i64 1,.int .i64 n,.string ⟨#[]⟩,.slice none 0 0].toArray 80));have HbA:=hd_ (z0a (z0a Hb'.out HB5.out) (z5b (w:=w5) (.cells [.int .i64 1,.int .i64 n,.string ⟨#[]⟩,.slice none 0 0].toArray 80)));clear HB5 HO H2' Hb'))
    | (refine z4d Tryz.underlying78 z1m rfl (.tmp 12) (.tmp 18) rfl (fun _=>False) (w.heap.size + 1) (.slice ol xs.length cl) xs rfl ?q1 w5.heap.size (iV n) (.slice none 0 0) rfl ?q2 ?q3 ?q4 ?q5 ?_;(case q1=>exact HOA.out);(case q2=>exact y2e.int _ _ n Hni.out);(case q3=>(refine ⟨?_,?_,?_,?_⟩ <;> first | exact HBk.out.cell 0 | exact HBk.out.cell 1 | exact HBk.out.cell 2 | exact HBk.out.cell 3));(case q4=>(have:=Hn.out;have:=Hlt.out;omega));(case q5=>exact H2A.out.lt);intro oa2 cp2 w7 hO7 hg7;have H27:=hd_ (H2A.out.keep (hg7.out.block _ H2A.out.lt (fun e=>by have:=(HOA.out.own _ e.symm).1;omega)));have Hb7:=hd_ (HbA.out.grown hg7.out HbA.out.size (fun q e=>by have:=(HOA.out.own q e).1;omega));clear hg7 H2A HOA HbA HBk))
   go_roundw
   case rel=>exact x8s Hc.out Hxs.out hO7.out H27.out Hb7.out
   case measure=>(simp [intOf];have:=Hlt.out;omega)
  case neg =>
   have hk:xs.length = l.length:=by omega
   have tj:decide ((xs.length:Int) < (l.length:Int)) = false:=decide_eq_false (by omega)
   have HX:Hid (xs = l.map iV):=hd_ (by have h:=Hxs.out;rw [hk,List.take_length] at h;exact h)
   have H1:=hd_ (z8y 3 0 ⟨#[]⟩ (.slice ol xs.length cl) rfl)
   clear hk
   go_wp2_with (first
    | (go_at_call 52;refine (z8f _ _ _ _).mono ?_;go_loud (rintro e w5 ⟨rfl,hb5⟩;have HB5:=hd_ hb5;clear hb5;replace H2':=hd_ (H2'.out.ext HB5.out);replace Hb':=hd_ (z0a Hb'.out HB5.out);replace HO:=hd_ (HO.out.ext HB5.out);clear HB5))
    | (have _g:=H1.out;refine z4a rfl 80 (.tmp 2) (.tmp 21) rfl w.heap.size [.int .i64 3,.int .i64 0,.string ⟨#[]⟩,.slice ol xs.length cl] rfl rfl 80 Z4c H2'.out rfl (by kernel_rfl) H1.out (fun w6 HC6 HW6 HZ6=>?_);clear H1))
   refine bodyPost_ret (v:=.agg (lvC (.slice ol xs.length cl)).toArray) (results_cell_row rfl _ _ w.heap.size 80 _ (0,0) _ rfl HC6.out Tryz.underlying80 rfl (by kernel_rfl)) rfl ?_
   refine ⟨_,rfl,?_,Hb'.out.grown HW6.out Hb'.out.size (fun k hk=>by injection hk with hk;omega)⟩
   rw [← HX.out]
   exact z7n (HO.out.keep HW6.out (fun q e=>by injection e with e;subst e;exact ⟨by omega,fun h=>h⟩)) (by omega) (fun j h=>h.elim)
theorem y6o (w:World) (l:List Int) (hl:l.length ≤ maxLen):z9f nuK (w.alloc (.cells (l.map (Value.int .i64)).toArray 3)).heap.size (w.alloc (.cells (l.map (Value.int .i64)).toArray 3)) l (.slice (some ⟨w.heap.size,0,none⟩) l.length l.length):=by
 refine .inr ⟨w.heap.size,0,l.length,rfl,Nat.le_refl _,hl,by simp,fun j n hj i u hu=>?_⟩
 have hi:i = 0:=by have:=(List.getElem?_eq_some_iff.1 hu).1;simp [nuK] at this;omega
 subst hi
 have hu':u = .int .i64 n:=by simp [nuK] at hu;exact hu.symm
 subst hu'
 have:=k0q w l 3 j n hj
 simpa [nuK] using this
section
variable {P:Program} {md:Region.Mode} {ops:Array Oper} {Q:Exit→Act→World→Prop} {S:World→Prop} {late:Nat→Bool}
theorem z4w (ps:List (Nat × Nat)) {listed:Array Bool} (listedEnd:Array Bool) (fuelEnd:Nat) {fuel:Nat} {a0:Act} {w:World} (B:Nat) (tab:List GK)
 (hck:y3s md ops listed (ps.map Prod.fst) = true) (hnd:(ps.map Prod.fst).Nodup) (hnd2:(ps.map Prod.snd).Nodup) (hd:(ps.all fun p=>z1n ops p.1 == p.2 && Nat.blt p.2 a0.tmps.size) = true)
 (hl:(y4g listed (fun _=>false) == listed) = true) (hle:(y4g listed (fun k=>(ps.map Prod.fst).contains k) == listedEnd) = true) (hf:(fuel == ps.length + fuelEnd) = true)
 (hS:∀ w w',S w→Below w.heap.size w w'→S w') (hs:S w)
 (hop:x6m P md ops Q S ps B tab a0 (ps.map Prod.fst))
 (hend:∀ (vals:Nat→Value) w',S w'→(∀ k d,ps.contains (k,d) = true→GT B tab k (vals k) w')→z2e P md ops Q S late fuelEnd listedEnd (y6s vals ps a0) w') :
 z2e P md ops Q S late fuel listed a0 w:=by
 have hd':∀ p ∈ ps,z1n ops p.1 = p.2∧p.2 < a0.tmps.size:=fun p hp=>by
  have:=List.all_eq_true.1 hd p hp
  rw [Bool.and_eq_true,beq_iff_eq,Nat.blt_eq] at this
  exact this
 refine z3m ps listedEnd fuelEnd (GT B tab) hck hnd hnd2 hd hl hle hf (fun _ _ _ _ h hb=>GT.keep h hb) hS hs (fun i hi o ho a wa ha hsa hda K' hK=>?_) (fun vals w' hs' hg=>?_)
 · refine x6m.all hop i hi o ho a wa (fun d hx=>ha.tmp d fun j hj e=>?_) hsa (fun k d hx hdep=>hda (k,d) (by simpa using hx) hdep) K' hK
   obtain ⟨p,hp,rfl⟩:=List.mem_map.1 hj
   rw [(hd' p hp).1] at e
   have:=List.all_eq_true.1 hx p hp
   simp [e] at this
 · exact hend vals w' hs' (fun k d hx=>hg (k,d) (by simpa using hx))
end
theorem y2e.dl {B B0:Nat} {w:World} {lv lx:Value} {x:V} (h:y2e (DB B w) w x lx) (hB:B0 ≤ B) (hlv:∀ g,lv.ownBlock = some g→g < B):y2e (DL (fun _=>False) B0 w lv) w x lx :=
 h.keep (fun k hk=>⟨.inr (Nat.le_trans hB (hk.1.resolve_left id)),hk.2,fun e=>by have:=hlv k e.symm;have:=hk.1.resolve_left id;omega⟩) (fun _ _=>rfl)
end Go.Proofs.YtdblnbnofjggnaaGreatDoor
