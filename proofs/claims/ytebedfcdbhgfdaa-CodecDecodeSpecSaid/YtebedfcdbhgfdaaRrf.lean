/- the reference's Reader: Value, lists. -/
import Derived.Test.YtebedfcdbhgfdaaRre
import Derived.Test.YtebedfcdbhgfdaaRdy
import Derived.Deep.RegionLaw
namespace Go.Proofs.Ytebedfcdbhgfdaa
open Go.RowKit

def RvOut (l : List UInt8) (o : Option (V × List UInt8)) (x : V) (bad : Bool) (q : Nat) : Prop := match o with | some (y, r) => x = y ∧ bad = false ∧ l.drop q = r | none => bad = true
def RlOut (d n : Nat) (l r0 : List UInt8) (xs : List V) (k q : Nat) : Bool → Prop
  | true => rdVs (rdV d) n r0 = none
  | false => rdVs (rdV d) k r0 = some (xs, l.drop q)
def RListRel (B R T : Nat) (d n : Nat) (w : World) (l r0 : List UInt8) (i : Value) (wr : World) : Prop :=
  ∃ (k : Nat) (xs : List V) (q : Nat) (bad : Bool) (lv : Value), k ≤ n ∧ i = .int .u64 (k : Int) ∧ xs.length = k ∧ BoxAt wr T (.int .i64 3) (.int .i64 0) (.string ⟨#[]⟩) lv ∧
    (∃ oa cap, lv = .slice oa k cap) ∧ OwnV 24 (fun g => T < g ∧ some g ≠ lv.ownBlock ∧ g < wr.heap.size) wr (T + 1) lv xs ∧ RefAt B wr R l q bad ∧ w.grownBy wr (some R) ∧
    RlOut d n l r0 xs k q bad
theorem rl_step {d n k q q2 : Nat} {bad : Bool} {l r0 : List UInt8} {xs : List V} {x : V} (hk : k < n) (h : rdVs (rdV d) k r0 = some (xs, l.drop q)) (hm : RvOut l (rdV d (l.drop q)) x bad q2) : RlOut d n l r0 (xs ++ [x]) (k + 1) q2 bad := by
  cases hE : rdV d (l.drop q) with
  | none => rw [hE] at hm; have hb : bad = true := hm
            rw [hb]; exact rdVs_none _ n k r0 _ xs hk h hE
  | some pr =>
    obtain ⟨y, r⟩ := pr
    rw [hE] at hm
    obtain ⟨h1, h2, hr⟩ := hm
    rw [h2, h1]
    show rdVs (rdV d) (k + 1) r0 = some (xs ++ [y], l.drop q2)
    rw [hr]; exact rdVs_some _ k _ _ _ _ _ h hE
/-- a round of the list's loop: what stands behind it -/
theorem rlistRel_next {B R T d n k q : Nat} {bad : Bool} {w wr w9 w' : World} {l r0 : List UInt8} {x : V} {xs : List V} {oa oa2 : Option Addr} {cp cp2 : Nat} (hT : T = w.heap.size) (hRT : R < T) (hkn : k < n) (hxl : xs.length = k)
    (hn : RlOut d n l r0 (xs ++ [x]) (k + 1) q bad) (hbx : BoxAt wr T (.int .i64 3) (.int .i64 0) (.string ⟨#[]⟩) (.slice oa k cp))
    (hg3 : w.grownBy wr (some R)) (hTw : T < wr.heap.size) (hg9 : wr.grownBy w9 (some R)) (hrd9 : RefAt B w9 R l q bad) (ob : Obj)
    (hown0 : ∀ g, (Value.slice oa k cp).ownBlock = some g → T + 1 ≤ g ∧ g < wr.heap.size)
    (ho : OwnV 24 (fun g => T < g ∧ some g ≠ (Value.slice oa k cp).ownBlock ∧ g < (w9.alloc ob).heap.size) w' (T + 1) (.slice oa2 (xs ++ [x]).length cp2) (xs ++ [x])) (hg : (w9.alloc ob).grownBy w' (Value.slice oa k cp).ownBlock) :
    RListRel B R T d n w l r0 (.int .u64 ((k : Int) + 1)) (w'.setCell ⟨T, 3, none⟩ (.slice oa2 (xs ++ [x]).length cp2)) := by
  have hl : (xs ++ [x]).length = k + 1 := by simp [hxl]
  have hTo : some T ≠ (Value.slice oa k cp).ownBlock := fun e => by have := hown0 _ e.symm; omega
  have hRo : ∀ j, j ≤ R → some j ≠ (Value.slice oa k cp).ownBlock := fun j hj e => by have := hown0 _ e.symm; omega
  have hs9 := hg9.size
  have hs' := hg.size
  have hbx9 := hbx.grown hg9 (by omega)
  have hTa : T < (w9.alloc ob).heap.size := by simp; omega
  have cl : ∀ i, w'.cell? ⟨T, i, none⟩ = w9.cell? ⟨T, i, none⟩ := fun i => World.cell?_of_block (w := w9) ((hg.block T hTa hTo).trans (Below.heap_alloc w9 ob T (by omega)))
  have fl : ∀ i, w'.frozen? ⟨T, i, none⟩ = w9.frozen? ⟨T, i, none⟩ := fun i => World.frozen?_of_block (w := w9) ((hg.block T hTa hTo).trans (Below.heap_alloc w9 ob T (by omega)))
  have hwg : w.grownBy w' (some R) := grown_trans (grown_alloc (grown_trans hg3 hg9 (.inl rfl)) ob) hg (.inr fun g hg => by have := hown0 g hg; omega)
  rw [hl] at ho ⊢
  have hob := OwnV.own_lt ho
  refine ⟨k + 1, xs ++ [x], q, bad, .slice oa2 (k + 1) cp2, by omega, by simp, hl, ?_, ⟨oa2, cp2, rfl⟩, ?_, ?_, grown_set_new hwg (by omega), hn⟩
  · refine ⟨?_, ?_, ?_, ?_, ?_⟩
    · rw [World.cell?_setCell_other _ _ _ _ (by simp), cl 0]; exact hbx9.c0
    · rw [World.cell?_setCell_other _ _ _ _ (by simp), cl 1]; exact hbx9.c1
    · rw [World.cell?_setCell_other _ _ _ _ (by simp), cl 2]; exact hbx9.c2
    · exact World.cell?_setCell_same' _ _ _ (by rw [cl 3, hbx9.c3]; rfl)
    · intro o; rw [World.frozen?_setCell, fl o]; exact hbx9.fr o
  · obtain ⟨lvs, _, _, _, hd4⟩ := id ho
    refine ((OwnV.kept ho (grown_setT w' T 3 _) (.inr fun e => by have := hob T e; omega) (fun j hj e => by injection e with e; have := hj.1; omega) (fun j hj => by have := hj.2.2; omega))).mono (fun j hj => ⟨hj.1, hd4 j hj, by have := hj.2.2; simp [World.setCell]; omega⟩) ?_
    exact fun j hj => hj.2.1
  · refine RefAt.setT ?_ hRT
    exact hrd9.keep fun j hj => (hg.block j (by simp; omega) (hRo j hj)).trans (Below.heap_alloc w9 ob j (by omega))
set_option maxRecDepth 100000 in
set_option maxHeartbeats 4000000 in
theorem rvalue_3s (d : Nat) (hd : d + 1 ≤ 16) (ih : RValSaid d) (B R p : Nat) (l : List UInt8) (hl : l.length ≤ 1000000) (di : Int) (hdi : di = 16 - ((d + 1 : Nat) : Int)) (w : World) (h : RefAt B w R l p false) (hRw : R < w.heap.size) (hp : l[p]? = some 3) (n : Nat) (r' : List UInt8) (hN : rdNum 0 0 (l.drop (p + 1)) = some (n, r')) (hnr : n ≤ r'.length) :
    Calls Try.prog 34 #[.pointer (some ⟨R, 0, none⟩), .int .i64 di] w (RValPost B R l (rdV (d + 1) (l.drop p)) w) := by
  have H := Lib.hid h; clear h
  have Hp := Lib.hid hp; clear hp
  have hn64 := Lib.hid (rdNum_lt _ 0 0 n r' (by decide) (by simp) hN)
  have hlr := rdNum_len _ 0 0 _ _ hN
  have hlp : (l.drop (p + 1)).length ≤ 1000000 := by simp; omega
  have HN := Lib.hid hN; clear hN
  have hlen : rdLen (l.drop (p + 1)) = some (n, r') := by unfold rdLen; rw [HN.out]; simp only; rw [if_pos hnr]
  have hv : Hid (∀ xs r2, rdVs (rdV d) n r' = some (xs, r2) → rdV (d + 1) (l.drop p) = some (.mk 3 0 ⟨#[]⟩ xs, r2)) := by
    intro xs r2 hx; rw [drop_at Hp.out, rdV_3, hlen]; simp only; rw [hx]
  have hv0 : Hid (rdVs (rdV d) n r' = none → rdV (d + 1) (l.drop p) = none) := by
    intro hx; rw [drop_at Hp.out, rdV_3, hlen]; simp only; rw [hx]
  clear hlen
  have IH := Lib.hid ih; clear ih
  have td : (di == 16) = false := by rw [beq_eq_false_iff_ne]; omega
  obtain ⟨di2, hdi2⟩ : ∃ di2, 16 - (d : Int) = di2 := ⟨_, rfl⟩
  have td2 : wrap64 (di + 1) = di2 := by unfold wrap64; omega
  have Hdi2 := Lib.hid hdi2
  clear hdi hdi2 hd
  have Hnr := Lib.hid hnr
  have Hlr := Lib.hid hlr; have Hlp := Lib.hid hlp
  clear hnr hlr hlp
  go_enter Try.func34, Try.ntmps34
  go_wp2_with fail
  refine (rhead B R p 3 l hl w H.out hRw Hp.out).mono ?_
  rintro e w1 ⟨rfl, hh⟩
  go_wp2_with fail
  refine (rnumber_any B R (p + 1) l hl _ hh.rd).mono ?_
  rw [HN.out]
  rintro e w2 ⟨rfl, q, hq, hr2, hg2⟩
  obtain ⟨⟨x0, x1, x2, x3, xf⟩, hgw⟩ := hh.num hRw hg2
  have f2 := hr2.fr 2; have r2 := hr2.c2; have r1 := hr2.c1
  obtain ⟨v, r0, hb⟩ := hr2.c0
  obtain ⟨oa, cap, rfl, _, _⟩ := hb.form
  have hRT : R ≠ w.heap.size := by omega
  have hql := hr2.hp
  have hm : l.length - q = r'.length := by rw [← hq]; simp
  obtain ⟨m, hmm⟩ : ∃ m, r'.length = m := ⟨_, rfl⟩
  have e1 : wrap64 ((l.length : Int) - (q : Int)) = (m : Int) := by unfold wrap64; omega
  have e2 : IntKind.u64.wrap (m : Int) = (m : Int) := by rw [IntKind.wrap_u64]; omega
  have t1 : decide (m < n) = false := decide_eq_false (by have := Hnr.out; omega)
  have HH := Lib.hid hh; have HR2 := Lib.hid hr2
  have Hn : Hid (n ≤ 1000000) := by show _ ≤ _; have h1 := Hnr.out; have h2 := Hlr.out; have h3 := Hlp.out; omega
  have Hq := Lib.hid hq
  clear hh hr2 hg2 hb hq hm hmm hql
  go_wp2
  go_quiet (fail)
  have z0 : (w2.drewN nq).cell? ⟨w.heap.size, 0, none⟩ = some (.int .i64 0) := x0
  have z1 : (w2.drewN nq).cell? ⟨w.heap.size, 1, none⟩ = some (.int .i64 0) := x1
  have z2 : (w2.drewN nq).cell? ⟨w.heap.size, 2, none⟩ = some (.string ⟨#[]⟩) := x2
  have z3 : (w2.drewN nq).cell? ⟨w.heap.size, 3, none⟩ = some (.slice none 0 0) := x3
  have zf : ∀ o, (w2.drewN nq).frozen? ⟨w.heap.size, o, none⟩ = false := xf
  have HR3 : Hid (RefAt B (w2.drewN nq) R l q false) := HR2.out.drewN _
  have hg3 : w.grownBy (w2.drewN nq) (some R) := grown_drewN' hgw _
  clear x0 x1 x2 x3 xf f2 r2 r1 r0 hgw HR2
  generalize w2.drewN nq = w3 at *
  have HB3 := Lib.hid (BoxAt.mk z0 z1 z2 z3 zf)
  clear z0 z1 z2 z3 zf
  go_wp2
  have hTT : w.heap.size < w3.heap.size := World.block_lt_of_cell? w3 _ HB3.out.c0
  have hRT3 : R < w3.heap.size := by omega
  have HB4 := Lib.hid (BoxAt.made w3 24 (.int .i64 3) (.int .i64 0) (.string ⟨#[]⟩) (.slice none 0 0))
  have HR4 := Lib.hid (HR3.out.alloc hRT3 (.cells #[.int .i64 3, .int .i64 0, .string ⟨#[]⟩, .slice none 0 0] 24))
  clear e1 e2 t1
  go_loopw [9] (fun i wr => RListRel B R w3.heap.size d n w3 l r' i wr) (fun i _ => n - (intOf i).toNat)
  case atStart => exact ⟨0, [], q, false, .slice none 0 0, Nat.zero_le _, rfl, rfl, HB4.out, ⟨none, 0, rfl⟩, ⟨[], World.ownsRow_nil _ _ _ _, trivial, by simp, by simp [Value.ownBlock]⟩, HR4.out, grown_alloc (grown_refl _ _) _, by show rdVs (rdV d) 0 r' = some ([], l.drop q); rw [Hq.out]; rfl⟩
  case round =>
    obtain ⟨k, xs, q2, bad, lv, hkn, rfl, hxl, hbx, ⟨oa, cp, rfl⟩, hown, hrd3, hg3r, hmt⟩ := hrel
    have hsz3 := hg3r.size
    have hRwr : R < wr.heap.size := by omega
    have hT0 := Lib.hid (HB3.out.grown hg3r (by omega))
    have hgr := Lib.hid (grown_trans hg3 hg3r (.inl rfl))
    have Hxl := Lib.hid hxl; have Hown := Lib.hid hown; have Hrd3 := Lib.hid hrd3; have Hbx := Lib.hid hbx; have Hmt := Lib.hid hmt
    have c2 := hrd3.c2
    clear hxl hown hrd3 hmt
    by_cases hgo : k < n ∧ bad = false
    case neg =>
      obtain ⟨x0, x1, x2, x3, xf⟩ := hbx
      obtain ⟨u0, u1, u2, u3, uf⟩ := hT0.out
      have hne : w.heap.size ≠ w3.heap.size := by omega
      have hdd : (decide (k < n) = false) ∨ (decide (k < n) = true ∧ bad = true) := by
        by_cases h : k < n
        · exact .inr ⟨decide_eq_true h, by cases bad <;> simp_all⟩
        · exact .inl (decide_eq_false h)
      have hfin : Hid (RvOut l (rdV (d + 1) (l.drop p)) (V.mk 3 0 ⟨#[]⟩ xs) bad q2) := by
        show RvOut l (rdV (d + 1) (l.drop p)) (V.mk 3 0 ⟨#[]⟩ xs) bad q2
        cases bad with
        | true => rw [hv0.out Hmt.out]; rfl
        | false =>
          obtain rfl : k = n := by
            by_cases h : k < n
            · exact absurd ⟨h, rfl⟩ hgo
            · omega
          rw [hv.out _ _ Hmt.out]; exact ⟨rfl, rfl, rfl⟩
      have hsl : Hid (SlVD (fun g => w3.heap.size < g ∧ g < wr.heap.size) wr xs (.slice oa k cp)) := Hown.out.sl (fun g hg => by have := hg.1; have := hg.2.2; omega) (fun g hg => by have := Hown.out.own_lt g hg; omega)
      clear hgo
      rcases hdd with tk | ⟨tk, hbt⟩
      rotate_left
      rw [hbt] at c2
      clear hbt
      all_goals
        go_wp2
        refine bodyPost_ret (v := .agg #[.int .i64 3, .int .i64 0, .string ⟨#[]⟩, .slice oa k cp]) (by simp [results, Try.results34, go_sem, u0, u1, u2, u3]) rfl ?_
        refine ⟨.mk 3 0 ⟨#[]⟩ xs, _, q2, bad, rfl, ⟨by show I64 3; unfold I64; omega, I64_0, Nat.zero_le maxLen, _, rfl, hsl.out.keep (fun g hg => ⟨by omega, by simp [World.setCell]; omega⟩) (fun g hg => by repeat (first | rfl | refine (Below.heap_setCell _ _ _ _ (by show g ≠ w.heap.size; omega)).trans ?_))⟩, by repeat (first | exact Hrd3.out | refine RefAt.setT ?_ hRw), by repeat (first | exact hgr.out | refine grown_set_new ?_ (Nat.le_refl _)), hfin.out⟩
    case pos =>
      obtain ⟨hlt, rfl⟩ := hgo
      have tk : decide (k < n) = true := decide_eq_true hlt
      have e9 : IntKind.u64.wrap ((k : Int) + 1) = ((k + 1 : Nat) : Int) := by have := Hn.out; rw [IntKind.wrap_u64]; omega
      have td3 : IntKind.i64.wrap (di + 1) = di2 := (IntWalk.i64_left _).trans td2
      have Hlt := Lib.hid hlt
      obtain ⟨x0, x1, x2, x3, xf⟩ := hbx
      go_wp2
      have hTwr : w3.heap.size < wr.heap.size := World.block_lt_of_cell? wr _ x0
      have ho0 := Hown.out.own_lt
      have hTo : some w3.heap.size ≠ (Value.slice oa k cp).ownBlock := fun e => by have := ho0 _ e.symm; omega
      have hO0 := Lib.hid ho0; clear ho0
      go_region_law (first
        | (go_simp; go_at_call 34; refine (IH.out B R q2 l di2 Hdi2.out.symm hl wr.drew (RefAt.keep Hrd3.out fun j hj => rfl) (by simpa using hRwr)).mono ?_; rintro e w9 ⟨x, v9, q4, bad4, rfl, hv9, hrd9, hg9', hm9⟩
           have Hm9 := Lib.hid (rl_step Hlt.out Hmt.out hm9)
           have Hrd9 := Lib.hid hrd9
           have hg9 : wr.grownBy w9 (some R) := grown_trans (grown_drew' (grown_refl wr _)) hg9' (.inl rfl)
           have y0 : w9.cell? ⟨w3.heap.size, 3, none⟩ = some (.slice oa k cp) := hg9.cell x3 (fun e => by injection e with e; exact absurd e (by show w3.heap.size ≠ R; omega))
           have hs9 := hg9.size
           have hTw9 : w3.heap.size < w9.heap.size := by omega
           obtain ⟨z1, z2, z3, lx, rfl, z4⟩ := hv9
           have Z := Lib.hid (And.intro z1 (And.intro z2 (And.intro z3 z4)))
           clear z1 z2 z3 z4 hg9' hm9 hrd9)
        | (refine step_append_V (e := 24) (z := .agg #[.int .i64 0, .int .i64 0, .string ⟨#[]⟩, .slice none 0 0]) (bytes := 56) Try.underlying22 (by kernel_rfl) rfl (by decide) rfl _ _ rfl (fun g => w3.heap.size < g ∧ some g ≠ (Value.slice oa k cp).ownBlock ∧ g < (w9.alloc (.cells #[.int .i64 x.kind, .int .i64 x.n, .string x.s, lx] 24)).heap.size) (w3.heap.size + 1) (.slice oa k cp) xs rfl ?q1 _ x lx rfl ?q2 Z.out.2.2.2.one ?q3 ?q4 ?q5 ?q6 ?_
           case q1 =>
             refine ((Hown.out.kept hg9 (.inr fun e => by have := hO0.out R e; omega) (fun j hj e => by injection e with e; have := hj.1; omega) (fun j hj => hj.2.2)).kept (row := some R) (grown_alloc (grown_refl w9 _) _) (.inr fun e => by have := hO0.out R e; omega) (fun j hj e => by injection e with e; have := hj.1; omega) (fun j hj => by have := hj.2.2; omega)).mono (fun j hj => ⟨hj.1, hj.2.1, by have := hj.2.2; simp; omega⟩) (fun j hj => hj.2.1)
           case q2 => exact ⟨Z.out.1, Z.out.2.1, Z.out.2.2.1, Z.out.2.2.2.keep (fun j hj => ⟨by have : wr.heap.size ≤ j := hj.1; omega, fun e => by have h1 := (hO0.out j e.symm).2; have h2 : wr.heap.size ≤ j := hj.1; omega, by have := hj.2; simp; omega⟩) (fun j hj => Below.heap_alloc w9 _ j hj.2)⟩
           case q3 => simp
           case q4 => (have := Hxl.out; have := Hn.out; have := Hlt.out; omega)
           case q5 => simp; omega
           case q6 => exact fun j hj => hj.2.2
           intro v' w' ho hg hnx
           obtain ⟨oa2, cp2, rfl⟩ := ho.shape
           have hTb := (hg.block w3.heap.size (by simp; omega) hTo).trans (Below.heap_alloc w9 _ w3.heap.size (by omega))
           have y3 : w'.cell? ⟨w3.heap.size, 3, none⟩ = some (.slice oa k cp) := (World.cell?_of_block (w := w9) hTb).trans y0
           have yf : w'.frozen? ⟨w3.heap.size, 3, none⟩ = false := (World.frozen?_of_block (w := w9) hTb).trans ((World.frozen?_of_block (w := wr) (hg9.block w3.heap.size (by omega) (fun e => by injection e with e; omega))).trans (xf 3))
           clear hTb
           have HO := Lib.hid ho; clear ho))
      all_goals
        go_wp2
        go_roundw
        case rel =>
          have hll : (xs ++ [x]).length = xs.length + 1 := by simp
          have qq := rlistRel_next rfl hRT3 Hlt.out Hxl.out Hm9.out Hbx.out hg3r hTwr hg9 Hrd9.out _ hO0.out HO.out hg
          rw [hll] at qq
          first | exact qq | ((repeat apply Exists.intro); exact ⟨qq, rfl⟩)
        case measure => simp [intOf]; omega
end Go.Proofs.Ytebedfcdbhgfdaa
