/- Parts of the proofs of chapter 49's laws: Jnb Jtp Jtd. -/
import Derived.Test.YtdblnbnofjggnaaGreatDoorK40
import Derived.Test.YtdblnbnofjggnaaGreatDoorK28
namespace Go.Proofs.YtdblnbnofjggnaaGreatDoor
open Go.RowKit
def lenOf : Value → Nat | .slice _ n _ => n | _ => 0
def NssP (B c : Nat) (l : List V) (w : World) (e : Ending) (w' : World) : Prop :=
 (∃ q r v, nssR l = some (q, r) ∧ e = .returned v ∧ OwnK nuK 3 w' w.heap.size v q ∧ CurAt B w' c r ∧ w.grownBy w' (some c)) ∨ (nssR l = none ∧ e = .panicked badI ∧ w.grownBy w' (some c))
theorem dst_one {B c : Nat} {l : List V} {w : World} (hc : CurAt B w c l) (hB : B ≤ w.heap.size) (hz : szs l ≤ 1000000) : DSt w (some c) B [(c, l)] [] w :=
 ⟨grown_refl w _, hB, fun p hp => by rcases List.mem_singleton.1 hp with rfl; exact hc, fun p hp => by rcases List.mem_singleton.1 hp with rfl; exact hz, fun p hp => by rcases List.mem_singleton.1 hp with rfl; exact .inr rfl, by simp, fun t ht => (List.not_mem_nil ht).elim, fun t ht => (List.not_mem_nil ht).elim⟩
structure NbRel (B c n : Nat) (w : World) (pl pr : List V) (v : Value) (wr : World) : Prop where
 h : ∃ q rest, numsA pl = (numsA rest).map (q ++ ·) ∧ DSt w (some c) B [(n, rest), (c, pr)] [ownT nuK 3 w.heap.size v q] wr ∧ q.length + rest.length = pl.length
theorem numsA_step {x : V} {r q pl : List V} {n : Int} {u : List Int} (h : numsA pl = (numsA (x :: r)).map (u ++ ·)) (hn : numR (x :: r) = some (n, q)) : q = r ∧ numsA pl = (numsA r).map ((u ++ [n]) ++ ·) := by
 have hq : q = r := by
  unfold numR at hn
  obtain ⟨⟨y, t⟩, e1, e2⟩ := Option.bind_eq_some_iff.1 hn
  injection e2 with e2; injection e2 with _ e2
  have e1 : (if x.kind = 1 then some (x, r) else none) = some (y, t) := e1
  by_cases hk : x.kind = 1
  · rw [if_pos hk] at e1; injection e1 with e1; injection e1 with _ e1; rw [← e2, ← e1]
  · rw [if_neg hk] at e1; cases e1
 refine ⟨hq, h.trans ?_⟩
 simp only [numsA, hn, Option.bind_some]
 cases numsA r with
 | none => rfl
 | some t => simp
theorem numsA_stop {x : V} {r pl : List V} {u : List Int} (h : numsA pl = (numsA (x :: r)).map (u ++ ·)) (hn : numR (x :: r) = none) : numsA pl = none := by
 rw [h]; simp only [numsA, hn, Option.bind_none, Option.map_none]
theorem nss_some {l pl pr : List V} {u : List Int} (hL : lstR l = some (pl, pr)) (h : numsA pl = (numsA []).map (u ++ ·)) : nssR l = some (u, pr) := by
 unfold nssR; rw [hL]; show (numsA pl).bind _ = _; rw [h]; simp [numsA]
theorem nss_none {l pl pr : List V} (hL : lstR l = some (pl, pr)) (h : numsA pl = none) : nssR l = none := by
 unfold nssR; rw [hL]; show (numsA pl).bind _ = _; rw [h]; rfl
theorem nu_info : (Tryz.prog.info? 3).map (fun i => (i.zero, i.size, i.bytes)) = some (some (.int .i64 0), 1, 8) := by kernel_rfl
set_option maxRecDepth 100000 in
set_option maxHeartbeats 4000000 in
theorem nss49_any (B c : Nat) (l : List V) (w : World) (hc : CurAt B w c l) (hB : B ≤ w.heap.size) (hz : szs l ≤ 1000000) : Calls Tryz.prog 61 #[.pointer (some ⟨c, 0, none⟩)] w (NssP B c l w) := by
 have HS := Lib.hid (dst_one hc hB hz)
 have HB := Lib.hid hB
 clear hc hB hz
 go_enter Tryz.func61, Tryz.ntmps61
 go_wp2_with (go_at_call 58; refine HS.out.lis.mono ?_; go_loud (rintro e w1 (⟨pl, pr, n, hL, rfl, hn, hs⟩ | ⟨hL, rfl, hf⟩)))
 case inr => exact ⟨rfl, .inr ⟨by unfold nssR; rw [hL]; rfl, rfl, hf.gr⟩⟩
 have HL := Lib.hid hL; have Hs := Lib.hid hs
 have HP : Hid (pl.length ≤ 100000) := Lib.hid (by
  have h1 := len_sz pl
  have h2 : szs pl ≤ 1000000 := hs.sm (n, pl) List.mem_cons_self
  omega)
 clear HS hL hn hs
 go_loopw [2] (fun v wr => NbRel B c n w pl pr v wr) (fun v _ => pl.length - lenOf v)
 case atStart => exact ⟨⟨[], pl, by simp, Hs.out.add _ (OwnK.nil _ _ _) (fun p hp h => by cases h), by simp⟩⟩
 case round =>
  obtain ⟨q, rest, hA, hS, hlq⟩ := hrel.h
  clear hrel
  obtain ⟨oc, cp, c0⟩ := hS.len
  have HO := Lib.hid (hS.thg _ List.mem_cons_self)
  replace HO : Hid (OwnK nuK 3 wr w.heap.size _ q) := HO
  obtain ⟨ov, cv, hv, -⟩ := HO.out.rd.shape
  subst hv
  have HS := Lib.hid hS; have HA := Lib.hid hA; have HQ := Lib.hid hlq
  have hsm : szs rest ≤ 1000000 := hS.sm (n, rest) List.mem_cons_self
  clear hS hA hlq
  cases rest with
  | nil =>
   clear hsm
   go_wp2_with fail
   go_ret
   exact .inl ⟨q, pr, _, nss_some HL.out HA.out, rfl, HO.out, HS.out.cur (c, pr) (by simp), HS.out.gr⟩
  | cons x r =>
   obtain ⟨nn, hnn⟩ : ∃ nn, r.length + 1 = nn := ⟨_, rfl⟩
   have hlen := len_sz (x :: r)
   have c0 : wr.cell? ⟨n, 0, none⟩ = some (Value.slice oc nn cp) := by rw [← hnn]; exact c0
   have z0 : (0 : Int) < (nn : Int) := by omega
   have z1 : decide ((0 : Int) < (nn : Int)) = true := decide_eq_true z0
   have z2 : 0 < nn := by omega
   have z3 : decide (0 < nn) = true := decide_eq_true z2
   have Hq : Hid (q.length ≤ 100000) := Lib.hid (by have := HQ.out; have := HP.out; omega)
   clear hnn hlen hsm
   go_wp2_with (first
    | (have _g := HS.out; go_at_call 59; refine HS.out.num.mono ?_; go_loud (rintro e w2 (⟨a, r2, hN, rfl, hs⟩ | ⟨hN, rfl, hf⟩)); rotate_left; (have hbad := Lib.hid (numsA_stop HA.out hN); clear HS); rotate_left; (
     obtain ⟨rfl, hA2⟩ := numsA_step HA.out hN
     have HA3 := Lib.hid hA2
     have HS3 := Lib.hid (hs.grow (b_al (.cells [Value.int .i64 a].toArray 3)))
     have HO3 := Lib.hid (show OwnK nuK 3 (w2.alloc (.cells [Value.int .i64 a].toArray 3)) w.heap.size (.slice ov q.length cv) q from HS3.out.thg _ List.mem_cons_self)
     have HS4 : Hid (Src Tryz.prog 1 24 (.slice (some ⟨w2.heap.size, 0, none⟩) 1 1) 1 (nuK.flat [a]) (w2.alloc (.cells [Value.int .i64 a].toArray 3))) := src_el (K := nuK) (a := a) Tryz.underlying24 (CB.new w2 _ _)
     have HW3 : Hid (w.heap.size ≤ (w2.alloc (.cells [Value.int .i64 a].toArray 3)).heap.size) := HS3.out.gr.size
     clear hs hN hA2 HS))
    | (at_builtin; have _g := HS4.out; refine wpList_append_x (e := 3) (z := (.int .i64 0)) (size := 1) (bytes := 8) Tryz.underlying24 nu_info rfl rfl _ _ rfl w.heap.size _ q.length (nuK.flat q) rfl HO3.out _ 1 (nuK.flat [a]) rfl HS4.out (by have := Hq.out; unfold maxLen; omega) (by have := Hq.out; omega) HW3.out ?_; intro v5 w5 ho5 hg5 hn5; have HO5 : Hid (OwnK nuK 3 w5 w.heap.size v5 (q ++ [a])) := OwnK.append (K := nuK) ho5 (by simp); have Hg5 := Lib.hid hg5; have Hn5 := Lib.hid hn5; clear HS4 ho5 hg5 hn5))
   all_goals (try (exact ⟨rfl, .inr ⟨nss_none HL.out hbad.out, rfl, hf.gr⟩⟩))
   go_roundw
   case rel =>
    have hlt := HO3.out.lt
    refine ⟨⟨q ++ [a], r2, HA3.out, HS3.out.put [ownT nuK 3 w.heap.size (.slice ov q.length cv) q] (ownT nuK 3 w.heap.size v5 (q ++ [a])) _ Hg5.out (fun k hk => ⟨⟨_, List.mem_singleton.2 rfl, hk⟩, (hlt k hk).1, Nat.le_trans HB.out (hlt k hk).1⟩) HO5.out (fun k hk => ?_) (fun u hu => (List.not_mem_nil hu).elim), ?_⟩⟩
    · rcases Hn5.out with h | h
      · exact .inl ⟨_, List.mem_singleton.2 rfl, h.symm.trans hk⟩
      · exact .inr (h k hk)
    · have := HQ.out; simp at this ⊢; omega
   case measure =>
    obtain ⟨o5, c5, hv5, -⟩ := HO5.out.rd.shape
    rw [hv5]
    have := HQ.out
    simp [lenOf] at this ⊢
    omega
end Go.Proofs.YtdblnbnofjggnaaGreatDoor
namespace Go.Proofs.YtdblnbnofjggnaaGreatDoor
open Go.RowKit
def TreO (b : Nat) (v : Value) (rl : List Nb) (q : List Nod) (W : World) : Prop :=
 OwnK ndK 48 W b v rl ∧ rl.length = q.length ∧ ∀ (i : Nat) (t : Nod) (r : Nb), q[i]? = some t → rl[i]? = some r → r.par = t.par ∧ r.frm = t.frm ∧ OwnK cuK 88 W b r.cv t.cuts ∧ ∀ k, r.cv.ownBlock = some k → v.ownBlock ≠ some k
def TreB (v : Value) (rl : List Nb) (k : Nat) : Prop := v.ownBlock = some k ∨ ∃ r ∈ rl, r.cv.ownBlock = some k
theorem TreO.mem {b : Nat} {v : Value} {rl : List Nb} {q : List Nod} {W : World} (h : TreO b v rl q W) {r : Nb} (hr : r ∈ rl) : ∃ t : Nod, OwnK cuK 88 W b r.cv t.cuts ∧ ∀ k, r.cv.ownBlock = some k → v.ownBlock ≠ some k := by
 obtain ⟨i, hi, rfl⟩ := List.mem_iff_getElem.1 hr
 have hq : i < q.length := by have := h.2.1; omega
 obtain ⟨-, -, h3, h4⟩ := h.2.2 i q[i] rl[i] (List.getElem?_eq_getElem hq) (List.getElem?_eq_getElem hi)
 exact ⟨_, h3, h4⟩
theorem TreO.low {b : Nat} {v : Value} {rl : List Nb} {q : List Nod} {W : World} (h : TreO b v rl q W) {k : Nat} (hk : TreB v rl k) : b ≤ k ∧ k < W.heap.size := by
 rcases hk with hk | ⟨r, hr, hk⟩
 · exact h.1.lt k hk
 · obtain ⟨t, h1, -⟩ := h.mem hr
   exact h1.lt k hk
theorem own_keep {α : Type} {K : EK α} {e : TypeId} {w w' : World} {base : Nat} {v : Value} {l : List α} {row : Option Nat} (h : OwnK K e w base v l) (hg : w.grownBy w' row) (hne : ∀ k, v.ownBlock = some k → row ≠ some k) : OwnK K e w' base v l :=
 (ownT K e base v l).keep h hg hne
def treT (b : Nat) (v : Value) (rl : List Nb) (q : List Nod) : Thing :=
 ⟨TreO b v rl q, TreB v rl, fun h k hk => (h.low hk).2, fun {W W'} {row} h hg hr =>
  ⟨own_keep h.1 hg (fun k hk => hr k (.inl hk)), h.2.1, fun i t r ht hi => by
   obtain ⟨a1, a2, a3, a4⟩ := h.2.2 i t r ht hi
   exact ⟨a1, a2, own_keep a3 hg (fun k hk => hr k (.inr ⟨r, List.mem_of_getElem? hi, hk⟩)), a4⟩⟩⟩
theorem TreO.nil (b : Nat) (W : World) : TreO b (.slice none 0 0) [] [] W := ⟨OwnK.nil _ _ _, rfl, fun i t r h => by simp at h⟩
theorem TreO.app {b : Nat} {v v' : Value} {rl : List Nb} {q : List Nod} {W W' : World} {t : Nod} {r : Nb} (h : TreO b v rl q W) (hr : r.par = t.par ∧ r.frm = t.frm) (hc : OwnK cuK 88 W b r.cv t.cuts)
 (hd : ∀ k, r.cv.ownBlock = some k → ¬ TreB v rl k) (hg : W.grownBy W' v.ownBlock) (ho : OwnK ndK 48 W' b v' (rl ++ [r])) (hn : Next W v v') : TreO b v' (rl ++ [r]) (q ++ [t]) W' := by
 have hnew : ∀ (x : Nb) (u : Nod), OwnK cuK 88 W b x.cv u.cuts → (∀ k, x.cv.ownBlock = some k → v.ownBlock ≠ some k) → OwnK cuK 88 W' b x.cv u.cuts ∧ ∀ k, x.cv.ownBlock = some k → v'.ownBlock ≠ some k := fun x u h1 h2 => by
  refine ⟨own_keep h1 hg h2, fun k hk e => ?_⟩
  rcases hn with hn | hn
  · exact h2 k hk (hn ▸ e)
  · have := hn k e; have := (h1.lt k hk).2; omega
 refine ⟨ho, by simp [h.2.1], fun i u x hu hx => ?_⟩
 by_cases hi : i < q.length
 · rw [List.getElem?_append_left hi] at hu
   rw [List.getElem?_append_left (by rw [h.2.1]; exact hi)] at hx
   obtain ⟨a1, a2, a3, a4⟩ := h.2.2 i u x hu hx
   obtain ⟨b1, b2⟩ := hnew x u a3 a4
   exact ⟨a1, a2, b1, b2⟩
 · have hi2 : i = q.length := by
    have := (List.getElem?_eq_some_iff.1 hu).1; simp at this; omega
   subst hi2
   rw [List.getElem?_append_right (Nat.le_refl _), Nat.sub_self] at hu
   rw [← h.2.1, List.getElem?_append_right (Nat.le_refl _), Nat.sub_self] at hx
   simp at hu hx
   subst hu hx
   obtain ⟨b1, b2⟩ := hnew r t hc (fun k hk e => hd k hk (.inl e))
   exact ⟨hr.1, hr.2, b1, b2⟩
theorem TreO.at {b : Nat} {v : Value} {rl : List Nb} {q : List Nod} {W : World} (h : TreO b v rl q W) : TreeAt W q v :=
 ⟨rl, h.1.rd, h.2.1, fun i t r ht hi => by
  obtain ⟨a1, a2, a3, a4⟩ := h.2.2 i t r ht hi
  exact ⟨a1, a2, a3.rd⟩⟩
theorem cutR_1 {l : List V} (h : flgR l = none) : cutR l = none := by unfold cutR; rw [h]; rfl
theorem cutR_2 {l r : List V} {a : Bool} (h : flgR l = some (a, r)) (h2 : numR r = none) : cutR l = none := by unfold cutR; rw [h]; show (numR r).bind _ = none; rw [h2]; rfl
theorem cutR_3 {l r s : List V} {a : Bool} {b : Int} (h : flgR l = some (a, r)) (h2 : numR r = some (b, s)) (h3 : spnR s = none) : cutR l = none := by unfold cutR; rw [h]; show (numR r).bind _ = none; rw [h2]; show (spnR s).bind _ = none; rw [h3]; rfl
theorem cutR_4 {l r s t : List V} {a : Bool} {b : Int} {c : Int × Int} (h : flgR l = some (a, r)) (h2 : numR r = some (b, s)) (h3 : spnR s = some (c, t)) (h4 : numR t = none) : cutR l = none := by
 unfold cutR; rw [h]; show (numR r).bind _ = none; rw [h2]; show (spnR s).bind _ = none; rw [h3]; show (numR t).bind _ = none; rw [h4]; rfl
theorem cutR_5 {l r s t u : List V} {a : Bool} {b d : Int} {c : Int × Int} (h : flgR l = some (a, r)) (h2 : numR r = some (b, s)) (h3 : spnR s = some (c, t)) (h4 : numR t = some (d, u)) : cutR l = some ⟨a, b, c.1, c.2, d⟩ := by
 unfold cutR; rw [h]; show (numR r).bind _ = _; rw [h2]; show (spnR s).bind _ = _; rw [h3]; show (numR t).bind _ = _; rw [h4]; rfl
theorem nodR_1 {l : List V} (h : numR l = none) : nodR l = none := by unfold nodR; rw [h]; rfl
theorem nodR_2 {l r : List V} {a : Int} (h : numR l = some (a, r)) (h2 : numR r = none) : nodR l = none := by unfold nodR; rw [h]; show (numR r).bind _ = none; rw [h2]; rfl
theorem nodR_3 {l r s : List V} {a b : Int} (h : numR l = some (a, r)) (h2 : numR r = some (b, s)) (h3 : lstR s = none) : nodR l = none := by unfold nodR; rw [h]; show (numR r).bind _ = none; rw [h2]; show (lstR s).bind _ = none; rw [h3]; rfl
theorem nodR_4 {l r s p t : List V} {a b : Int} (h : numR l = some (a, r)) (h2 : numR r = some (b, s)) (h3 : lstR s = some (p, t)) (h4 : cutsA p = none) : nodR l = none := by
 unfold nodR; rw [h]; show (numR r).bind _ = none; rw [h2]; show (lstR s).bind _ = none; rw [h3]; show (cutsA p).bind _ = none; rw [h4]; rfl
theorem nodR_5 {l r s p t : List V} {a b : Int} {q : List Cut} (h : numR l = some (a, r)) (h2 : numR r = some (b, s)) (h3 : lstR s = some (p, t)) (h4 : cutsA p = some q) : nodR l = some ⟨a, b, q⟩ := by
 unfold nodR; rw [h]; show (numR r).bind _ = _; rw [h2]; show (lstR s).bind _ = _; rw [h3]; show (cutsA p).bind _ = _; rw [h4]; rfl
theorem lst_tl {x : V} {r p t : List V} (h : lstR (x :: r) = some (p, t)) : t = r := by
 unfold lstR at h
 obtain ⟨⟨y, u⟩, e1, e2⟩ := Option.bind_eq_some_iff.1 h
 injection e2 with e2; injection e2 with _ e2
 have e1 : (if x.kind = 3 then some (x, r) else none) = some (y, u) := e1
 by_cases hk : x.kind = 3
 · rw [if_pos hk] at e1; injection e1 with e1; injection e1 with _ e1; rw [← e2, ← e1]
 · rw [if_neg hk] at e1; cases e1
theorem cutsA_1 {x : V} {r pl : List V} {u : List Cut} (h : cutsA pl = (cutsA (x :: r)).map (u ++ ·)) (h1 : lstR (x :: r) = none) : cutsA pl = none := by rw [h]; simp only [cutsA, h1, Option.bind_none, Option.map_none]
theorem cutsA_2 {x : V} {r p t pl : List V} {u : List Cut} (h : cutsA pl = (cutsA (x :: r)).map (u ++ ·)) (h1 : lstR (x :: r) = some (p, t)) (h2 : cutR p = none) : cutsA pl = none := by rw [h]; simp only [cutsA, h1, h2, Option.bind_some, Option.bind_none, Option.map_none]
theorem cutsA_3 {x : V} {r p t pl : List V} {u : List Cut} {c : Cut} (h : cutsA pl = (cutsA (x :: r)).map (u ++ ·)) (h1 : lstR (x :: r) = some (p, t)) (h2 : cutR p = some c) : cutsA pl = (cutsA r).map ((u ++ [c]) ++ ·) := by
 refine h.trans ?_
 simp only [cutsA, h1, h2, Option.bind_some]
 cases cutsA r with
 | none => rfl
 | some t => simp
theorem cutsA_end {pl : List V} {u : List Cut} (h : cutsA pl = (cutsA []).map (u ++ ·)) : cutsA pl = some u := by rw [h]; simp [cutsA]
theorem nodsA_1 {x : V} {r pl : List V} {u : List Nod} (h : nodsA pl = (nodsA (x :: r)).map (u ++ ·)) (h1 : lstR (x :: r) = none) : nodsA pl = none := by rw [h]; simp only [nodsA, h1, Option.bind_none, Option.map_none]
theorem nodsA_2 {x : V} {r p t pl : List V} {u : List Nod} (h : nodsA pl = (nodsA (x :: r)).map (u ++ ·)) (h1 : lstR (x :: r) = some (p, t)) (h2 : nodR p = none) : nodsA pl = none := by rw [h]; simp only [nodsA, h1, h2, Option.bind_some, Option.bind_none, Option.map_none]
theorem nodsA_3 {x : V} {r p t pl : List V} {u : List Nod} {c : Nod} (h : nodsA pl = (nodsA (x :: r)).map (u ++ ·)) (h1 : lstR (x :: r) = some (p, t)) (h2 : nodR p = some c) : nodsA pl = (nodsA r).map ((u ++ [c]) ++ ·) := by
 refine h.trans ?_
 simp only [nodsA, h1, h2, Option.bind_some]
 cases nodsA r with
 | none => rfl
 | some t => simp
theorem nodsA_end {pl : List V} {u : List Nod} (h : nodsA pl = (nodsA []).map (u ++ ·)) : nodsA pl = some u := by rw [h]; simp [nodsA]
theorem tre_some {l pl pr : List V} {u : List Nod} (hL : lstR l = some (pl, pr)) (h : nodsA pl = (nodsA []).map (u ++ ·)) : treR l = some (u, pr) := by
 unfold treR; rw [hL]; show (nodsA pl).bind _ = _; rw [nodsA_end h]; rfl
theorem tre_none {l pl pr : List V} (hL : lstR l = some (pl, pr)) (h : nodsA pl = none) : treR l = none := by
 unfold treR; rw [hL]; show (nodsA pl).bind _ = _; rw [h]; rfl
def TreP (B c : Nat) (l : List V) (w : World) (e : Ending) (w' : World) : Prop :=
 (∃ q r v rl, treR l = some (q, r) ∧ e = .returned v ∧ TreO w.heap.size v rl q w' ∧ CurAt B w' c r ∧ w.grownBy w' (some c)) ∨ (treR l = none ∧ e = .panicked badI ∧ w.grownBy w' (some c))
structure TdRel (B c s : Nat) (w : World) (sl pr : List V) (v : Value) (wr : World) : Prop where
 h : ∃ q rl rest, nodsA sl = (nodsA rest).map (q ++ ·) ∧ DSt w (some c) B [(s, rest), (c, pr)] [treT w.heap.size v rl q] wr ∧ q.length + rest.length = sl.length
structure CtRel (B c s x k n bn : Nat) (w : World) (cl xr r pr : List V) (par frm : Int) (v : Value) (rl : List Nb) (q : List Nod) (wr : World) : Prop where
 h : ∃ cv cq crest, cutsA cl = (cutsA crest).map (cq ++ ·) ∧ DSt w (some c) B [(k, crest), (x, xr), (s, r), (c, pr)] [ownT cuK 88 bn cv cq, boxT n 48 [.int .i64 par, .int .i64 frm, cv], treT w.heap.size v rl q] wr ∧ cq.length + crest.length = cl.length
theorem cu_info : (Tryz.prog.info? 88).map (fun i => (i.zero, i.size, i.bytes)) = some (some (.agg #[.bool false, .int .i64 0, .int .i64 0, .int .i64 0, .int .i64 0]), 5, 40) := by kernel_rfl
theorem nd_info : (Tryz.prog.info? 48).map (fun i => (i.zero, i.size, i.bytes)) = some (some (.agg #[.int .i64 0, .int .i64 0, .slice none 0 0]), 3, 40) := by kernel_rfl
theorem cut_built (a : Bool) (b c d e : Int) : Tryz.prog.built 88 [(0, .bool a), (1, .int .i64 b), (2, .agg #[.int .i64 c, .int .i64 d]), (3, .int .i64 e)] = some ((⟨a, b, c, d, e⟩ : Cut).cells).toArray := by kernel_rfl
theorem own_far9 {n bn b k : Nat} {v : Value} {rl : List Nb} {q : List Nod} {cs : List Value} {u : Thing} (hu : u ∈ [boxT n 48 cs, treT b v rl q]) (hk : bn ≤ k) (hl : n < bn ∧ ∀ j, TreB v rl j → j < bn) (h : u.blk k) : False := by
 simp only [List.mem_cons, List.not_mem_nil, or_false] at hu
 rcases hu with rfl | rfl
 · have h : k = n := h
   omega
 · have := hl.2 k h; omega
theorem yields_built {P : Program} {ops : Array Oper} {o : Oper} {a : Act} {S : World → Prop} (hw : Region.wanted o (yielded ops a.tmps) = true) (t : TypeId) (parts : Array (Nat × Operand)) (ho : o.op = .build t parts) (cells : List Value) (ps : List (Nat × Value)) (hps : (parts.toList.map fun (i, x) => (i, a.eval x)) = ps)
 (hb : P.built t ps = some cells.toArray) : YieldsIf P ops S o (.agg cells.toArray) a :=
 .inl ⟨hw, fun w _ => by
  unfold execOp
  subst hps
  rw [← Array.toList_map] at hb
  simp only [ho, Sem.run_bind, run_build w t _ _ hb, Result.andThen_ok, Sem.run_pure]⟩
end Go.Proofs.YtdblnbnofjggnaaGreatDoor
namespace Go.Proofs.YtdblnbnofjggnaaGreatDoor
open Go.RowKit
set_option maxRecDepth 100000 in
set_option maxHeartbeats 8000000 in
theorem tree49_any (B c : Nat) (l : List V) (w : World) (hc : CurAt B w c l) (hB : B ≤ w.heap.size) (hz : szs l ≤ 1000000) : Calls Tryz.prog 64 #[.pointer (some ⟨c, 0, none⟩)] w (TreP B c l w) := by
 have HS := Lib.hid (dst_one hc hB hz)
 have HB := Lib.hid hB
 clear hc hB hz
 go_enter Tryz.func64, Tryz.ntmps64
 go_wp2_with (go_at_call 58; refine HS.out.lis.mono ?_; go_loud (rintro e w1 (⟨sl, pr, s, hL, rfl, hn, hs⟩ | ⟨hL, rfl, hf⟩)))
 case inr => exact ⟨rfl, .inr ⟨by unfold treR; rw [hL]; rfl, rfl, hf.gr⟩⟩
 have HL := Lib.hid hL; have Hs := Lib.hid hs
 have HP : Hid (sl.length ≤ 100000) := Lib.hid (by
  have h1 := len_sz sl
  have h2 : szs sl ≤ 1000000 := hs.sm (s, sl) List.mem_cons_self
  omega)
 clear HS hL hn hs
 go_loopw [2] (fun v wr => TdRel B c s w sl pr v wr) (fun v _ => sl.length - lenOf v)
 case atStart => exact ⟨⟨[], [], sl, by simp, Hs.out.add (treT w.heap.size (.slice none 0 0) [] []) (TreO.nil _ _) (fun p hp h => by rcases h with h | ⟨r, h, _⟩ <;> cases h), by simp⟩⟩
 case round =>
  obtain ⟨q, rl, rest, hA, hS, hlq⟩ := hrel.h
  clear hrel Hs
  obtain ⟨oc, cp, c0⟩ := hS.len
  have hO : TreO w.heap.size _ rl q wr := hS.thg _ List.mem_cons_self
  obtain ⟨ov, cv, hv, -⟩ := hO.1.rd.shape
  subst hv
  have HO := Lib.hid hO; have HS := Lib.hid hS; have HA := Lib.hid hA; have HQ := Lib.hid hlq; have HRL := Lib.hid hO.2.1
  clear hS hA hlq hO
  cases rest with
  | nil =>
   go_wp2_with fail
   go_ret
   exact .inl ⟨q, pr, _, rl, tre_some HL.out HA.out, rfl, HO.out, HS.out.cur (c, pr) (by simp), HS.out.gr⟩
  | cons a r =>
   obtain ⟨nn, hnn⟩ : ∃ nn, r.length + 1 = nn := ⟨_, rfl⟩
   have c0 : wr.cell? ⟨s, 0, none⟩ = some (Value.slice oc nn cp) := by rw [← hnn]; exact c0
   have z0nn : (0 : Int) < (nn : Int) := by omega
   have z1nn : decide ((0 : Int) < (nn : Int)) = true := decide_eq_true z0nn
   have z2nn : 0 < nn := by omega
   have z3nn : decide (0 < nn) = true := decide_eq_true z2nn
   clear hnn
   go_upto_region 5 with (first
    | (have _g := HS.out; go_at_call 58; refine HS.out.lis.mono ?_; go_loud (rintro e w2 (⟨xl, r2, x, hX, rfl, hxn, h1⟩ | ⟨hX, rfl, hf⟩)); rotate_left; (have hbad := Lib.hid (nodsA_1 HA.out hX); clear HS); rotate_left; (obtain rfl := lst_tl hX; have HX := Lib.hid hX; have H1 := Lib.hid h1; have Hxn := Lib.hid hxn; clear hX h1 hxn HS))
    | (have _g := H1.out; go_at_call 59; refine H1.out.num.mono ?_; go_loud (rintro e w3 (⟨p1, x2, hN1, rfl, h2⟩ | ⟨hN1, rfl, hf⟩)); rotate_left; (have hbad := Lib.hid (nodsA_2 HA.out HX.out (nodR_1 hN1)); clear H1); rotate_left; (have HN1 := Lib.hid hN1; have H2 := Lib.hid h2; clear hN1 h2 H1))
    | (have _g := H2.out; go_at_call 59; refine H2.out.num.mono ?_; go_loud (rintro e w4 (⟨p2, x3, hN2, rfl, h3⟩ | ⟨hN2, rfl, hf⟩)); rotate_left; (have hbad := Lib.hid (nodsA_2 HA.out HX.out (nodR_2 HN1.out hN2)); clear H2); rotate_left; (have HN2 := Lib.hid hN2; have H3 := Lib.hid h3; clear hN2 h3 H2)))
   all_goals (try (exact ⟨rfl, .inr ⟨tre_none HL.out hbad.out, rfl, hf.gr⟩⟩))
   obtain ⟨n, hn⟩ : ∃ n, w4.heap.size = n := ⟨_, rfl⟩
   have hcb : CB (w4.alloc (.cells [.int .i64 p1, .int .i64 p2, .slice none 0 0].toArray 48)) n 48 [.int .i64 p1, .int .i64 p2, .slice none 0 0] := by rw [← hn]; exact cb_one w4 _ 48 _ rfl
   have hba : Below w4.heap.size w4 (w4.alloc (.cells [.int .i64 p1, .int .i64 p2, .slice none 0 0].toArray 48)) := b_al _
   have H4 := Lib.hid ((H3.out.grow hba).add (boxT n 48 [.int .i64 p1, .int .i64 p2, .slice none 0 0]) hcb (fun p hp e => by have := (H3.out.cur p hp).lt'; have : p.1 = n := e; omega))
   have HlT := Lib.hid (show ∀ j, TreB (.slice ov rl.length cv) rl j → j < n from fun j hj => hn ▸ (treT w.heap.size (.slice ov rl.length cv) rl q).lt (H3.out.thg _ List.mem_cons_self) j hj)
   have Hnw := Lib.hid (show w.heap.size ≤ n by have := H3.out.gr.size; omega)
   rw [hn]
   change Code.wp _ _ _ _ (w4.alloc (.cells [.int .i64 p1, .int .i64 p2, .slice none 0 0].toArray 48))
   clear hcb hn hba
   generalize w4.alloc (.cells [.int .i64 p1, .int .i64 p2, .slice none 0 0].toArray 48) = w5 at *
   clear H3
   go_wp2_with (have _g := H4.out; go_at_call 58; refine H4.out.lis.mono ?_; go_loud (rintro e w6 (⟨cl, x4, k, hK, rfl, hkn, h5⟩ | ⟨hK, rfl, hf⟩)); rotate_left; (have hbad := Lib.hid (nodsA_2 HA.out HX.out (nodR_3 HN1.out HN2.out hK))); rotate_left; (have HK := Lib.hid hK; have H5 := Lib.hid h5; clear hK h5))
   all_goals (try (exact ⟨rfl, .inr ⟨tre_none HL.out hbad.out, rfl, hf.gr⟩⟩))
   have Hlow := Lib.hid (show n < w5.heap.size ∧ ∀ j, TreB (.slice ov rl.length cv) rl j → j < w5.heap.size from ⟨CB.lt (H4.out.thg (boxT n 48 _) List.mem_cons_self), fun j hj => (treT w.heap.size (.slice ov rl.length cv) rl q).lt (H4.out.thg _ (List.mem_cons_of_mem _ List.mem_cons_self)) j hj⟩)
   obtain ⟨bn, hbn⟩ : ∃ bn, w5.heap.size = bn := ⟨_, rfl⟩
   have Hbn6 : Hid (bn ≤ w6.heap.size) := by rw [← hbn]; exact Lib.hid (by have := (H5.out.cur (k, cl) List.mem_cons_self).lt'; omega)
   rw [hbn] at Hlow
   have HP2 : Hid (cl.length ≤ 100000) := Lib.hid (by
    have h1 := len_sz cl
    have h2 : szs cl ≤ 1000000 := H5.out.sm (k, cl) List.mem_cons_self
    omega)
   have Hk6 : Hid (bn ≤ k) := by rw [← hbn]; exact Lib.hid hkn
   clear H4 hkn hbn Hxn
   obtain ⟨wo, rfl⟩ : ∃ wo : World, wo = wr := ⟨_, rfl⟩
   go_loopw [7] (fun _ wi => CtRel B c s x k n bn w cl x4 r2 pr p1 p2 (.slice ov rl.length cv) rl q wi) (fun _ W => cl.length - lenOf ((W.cell? ⟨n, 2, none⟩).getD undef))
   case atStart => exact ⟨⟨.slice none 0 0, [], cl, by simp, H5.out.add (ownT cuK 88 bn (.slice none 0 0) []) (OwnK.nil _ _ _) (fun p hp h => by cases h), by simp⟩⟩
   case round =>
    obtain ⟨cw, cq, crest, hA2, hS2, hl2⟩ := hrel.h
    clear hrel H5
    obtain ⟨o2, cp2, d0⟩ := hS2.len
    have hO2 : OwnK cuK 88 wr bn cw cq := hS2.thg (ownT cuK 88 bn cw cq) List.mem_cons_self
    obtain ⟨oq, cpq, rfl, -⟩ := hO2.rd.shape
    have hb2 : CB wr n 48 [.int .i64 p1, .int .i64 p2, .slice oq cq.length cpq] := hS2.thg (boxT n 48 _) (List.mem_cons_of_mem _ List.mem_cons_self)
    have HO2 := Lib.hid hO2; have HS2 := Lib.hid hS2; have HA2 := Lib.hid hA2; have HQ2 := Lib.hid hl2; have HB2 := Lib.hid hb2
    have HM2 := Lib.hid (hb2.cell 2)
    clear hS2 hA2 hl2 hO2 hb2
    cases crest with
    | nil =>
     have ht : Hid (nodsA sl = (nodsA r2).map ((q ++ [⟨p1, p2, cq⟩]) ++ ·)) := nodsA_3 HA.out HX.out (nodR_5 HN1.out HN2.out HK.out (cutsA_end HA2.out))
     have HT7 : Hid (TreO w.heap.size (.slice ov rl.length cv) rl q wr) := HS2.out.thg (treT w.heap.size (.slice ov rl.length cv) rl q) (List.mem_cons_of_mem _ (List.mem_cons_of_mem _ List.mem_cons_self))
     have NC : ndK.cells ⟨p1, p2, oq, cq.length, cpq⟩ = [.int .i64 p1, .int .i64 p2, .slice oq cq.length cpq] := rfl
     have Hb8 : Below wr.heap.size wr (wr.alloc (.cells [.int .i64 p1, .int .i64 p2, .slice oq cq.length cpq].toArray 48)) := b_al _
     have hsrc : Hid (Src Tryz.prog 3 29 (.slice (some ⟨wr.heap.size, 0, none⟩) 1 1) 1 (ndK.flat [⟨p1, p2, oq, cq.length, cpq⟩]) (wr.alloc (.cells [.int .i64 p1, .int .i64 p2, .slice oq cq.length cpq].toArray 48))) := src_el (K := ndK) (a := ⟨p1, p2, oq, cq.length, cpq⟩) Tryz.underlying29 (cb_one wr _ 48 _ rfl)
     have HS8 := Lib.hid (((HS2.out.drop.drop).sub (ts' := [ownT cuK 88 bn (.slice oq cq.length cpq) cq, treT w.heap.size (.slice ov rl.length cv) rl q]) (fun t ht => by simp only [List.mem_cons, List.not_mem_nil, or_false] at *; rcases ht with rfl | rfl <;> simp)).grow Hb8)
     have HT8 : Hid (TreO w.heap.size (.slice ov rl.length cv) rl q (wr.alloc (.cells [.int .i64 p1, .int .i64 p2, .slice oq cq.length cpq].toArray 48))) := HS8.out.thg (treT w.heap.size (.slice ov rl.length cv) rl q) (List.mem_cons_of_mem _ List.mem_cons_self)
     have HC8 : Hid (OwnK cuK 88 (wr.alloc (.cells [.int .i64 p1, .int .i64 p2, .slice oq cq.length cpq].toArray 48)) bn (.slice oq cq.length cpq) cq) := HS8.out.thg (ownT cuK 88 bn (.slice oq cq.length cpq) cq) List.mem_cons_self
     have HlQ : Hid (rl.length ≤ 100000) := Lib.hid (by have := HQ.out; have := HP.out; have := HRL.out; omega)
     have HW8 : Hid (w.heap.size ≤ (wr.alloc (.cells [.int .i64 p1, .int .i64 p2, .slice oq cq.length cpq].toArray 48)).heap.size) := HS8.out.gr.size
     clear Hb8
     go_upto_region 9 with fail
     go_wp2_with (first
      | (have _g := HB2.out; refine wpList_load_cs (by rfl) 48 (.tmp 5) rfl n [.int .i64 p1, .int .i64 p2, .slice oq cq.length cpq] rfl 48 _ HB2.out Tryz.underlying48 rfl (by kernel_rfl) ?_; clear HB2)
      | (at_builtin; have _g := hsrc.out; go_loud (refine wpList_append_x (e := 48) (z := (.agg #[.int .i64 0, .int .i64 0, .slice none 0 0])) (size := 3) (bytes := 40) Tryz.underlying29 nd_info rfl rfl _ _ rfl w.heap.size (.slice ov rl.length cv) rl.length (ndK.flat rl) rfl HT8.out.1 _ 1 _ rfl hsrc.out (by have := HlQ.out; unfold maxLen; omega) (by have := HlQ.out; omega) HW8.out ?_); intro v9 w9 ho9 hg9 hn9; have HO9 : Hid (OwnK ndK 48 w9 w.heap.size v9 (rl ++ [⟨p1, p2, oq, cq.length, cpq⟩])) := OwnK.append (K := ndK) ho9 (by simp); have HG9 := Lib.hid hg9; have HN9 := Lib.hid hn9; obtain ⟨o9, c9, hv9, -⟩ := HO9.out.rd.shape; rw [List.length_append, List.length_singleton] at hv9; subst hv9; clear hsrc ho9 hg9 hn9))
     go_roundw
     case rel =>
      have hlt := HT8.out.1.lt
      have hcl := HC8.out.lt
      have hbw : w.heap.size ≤ bn := by have := Hlow.out.1; have := Hnw.out; omega
      refine ⟨⟨q ++ [(⟨p1, p2, cq⟩ : Nod)], rl ++ [(⟨p1, p2, oq, cq.length, cpq⟩ : Nb)], r2, ht.out, HS8.out.put [ownT cuK 88 bn (.slice oq cq.length cpq) cq, treT w.heap.size (.slice ov rl.length cv) rl q] (treT w.heap.size (.slice o9 (rl.length + 1) c9) (rl ++ [(⟨p1, p2, oq, cq.length, cpq⟩ : Nb)]) (q ++ [(⟨p1, p2, cq⟩ : Nod)])) _ HG9.out
       (fun j hj => ⟨⟨_, List.mem_cons_of_mem _ (List.mem_singleton.2 rfl), .inl hj⟩, (hlt j hj).1, Nat.le_trans HB.out (hlt j hj).1⟩)
       (TreO.app (t := ⟨p1, p2, cq⟩) (r := ⟨p1, p2, oq, cq.length, cpq⟩) HT8.out ⟨rfl, rfl⟩ (HC8.out.base hbw) (fun j hj ht2 => by have := (hcl j hj).1; have := Hlow.out.2 j ht2; omega) HG9.out HO9.out HN9.out) (fun j hj => ?_) (fun u hu => (List.not_mem_nil hu).elim), ?_⟩⟩
      · rcases hj with hj | ⟨u, hu, hj⟩
        · rcases HN9.out with h | h
          · exact .inl ⟨_, List.mem_cons_of_mem _ (List.mem_singleton.2 rfl), .inl (h.symm.trans hj)⟩
          · exact .inr (h j hj)
        · rcases List.mem_append.1 hu with hu | hu
          · exact .inl ⟨_, List.mem_cons_of_mem _ (List.mem_singleton.2 rfl), .inr ⟨u, hu, hj⟩⟩
          · rcases List.mem_singleton.1 hu with rfl
            exact .inl ⟨_, List.mem_cons_self, hj⟩
      · have := HQ.out; simp at this ⊢; omega
     case measure =>
      have h1 := HQ.out; have h2 := HRL.out
      simp [lenOf] at h1 ⊢
      omega
    | cons y cr =>
     obtain ⟨n2, hn2⟩ : ∃ n2, cr.length + 1 = n2 := ⟨_, rfl⟩
     have d0 : wr.cell? ⟨k, 0, none⟩ = some (Value.slice o2 n2 cp2) := by rw [← hn2]; exact d0
     have z0n2 : (0 : Int) < (n2 : Int) := by omega
     have z1n2 : decide ((0 : Int) < (n2 : Int)) = true := decide_eq_true z0n2
     have z2n2 : 0 < n2 := by omega
     have z3n2 : decide (0 < n2) = true := decide_eq_true z2n2
     have HQ3 : Hid (cq.length ≤ 100000) := Lib.hid (by have := HQ2.out; have := HP2.out; omega)
     clear hn2
     go_upto_region 8 with (have _g := HS2.out; go_at_call 58; refine HS2.out.lis.mono ?_; go_loud (rintro e w7 (⟨yl, c2, yn, hY, rfl, hyn, h1⟩ | ⟨hY, rfl, hf⟩)); rotate_left; (have hbad := Lib.hid (nodsA_2 HA.out HX.out (nodR_4 HN1.out HN2.out HK.out (cutsA_1 HA2.out hY)))); rotate_left; (obtain rfl := lst_tl hY; have HY := Lib.hid hY; have HS3 := Lib.hid h1; clear hY h1 hyn HS2))
     all_goals (try (exact ⟨rfl, .inr ⟨tre_none HL.out hbad.out, rfl, hf.gr⟩⟩))
     have HB3 := Lib.hid (show CB w7 n 48 [.int .i64 p1, .int .i64 p2, .slice oq cq.length cpq] from HS3.out.thg (boxT n 48 _) (List.mem_cons_of_mem _ List.mem_cons_self))
     clear HB2 HO2 d0
     refine wp_region_late_drew (S := fun w' => CB w' n 48 [.int .i64 p1, .int .i64 p2, .slice oq cq.length cpq]) (late := fun j => j == 14) (by kernel_rfl) (HB3.out.ext (Below.refl w7.heap.size w7).drew) (fun hHeld => ?_)
     have hdr := (Below.refl w7.heap.size w7).drew
     replace HS3 := Lib.hid (HS3.out.grow hdr)
     replace HB3 := Lib.hid (HB3.out.ext hdr)
     clear hdr
     generalize w7.drew = w8 at *
     refine tkL (some 33) 0 ?_ (hy := fun wS hSw => by (obtain s1 := hSw); go_simp; first | done | with_reducible rfl)
     refine tkL (some 34) 1 ?_ (hy := fun wS hSw => by (have y2 : _ = some (Value.slice oq cq.length cpq) := CB.cell hSw 2); go_simp; first | done | with_reducible rfl)
     refine tkL (some 35) 2 ?_ (hy := fun wS hSw => by (obtain s1 := hSw); go_simp; first | done | with_reducible rfl)
     refine tkL (some 37) 4 ?_ (hy := fun wS hSw => by (obtain s1 := hSw); go_simp; first | done | with_reducible rfl)
     refine tkL (some 39) 6 ?_ (hy := fun wS hSw => by (obtain s1 := hSw); go_simp; first | done | with_reducible rfl)
     refine tkL (some 41) 8 ?_ (hy := fun wS hSw => by (obtain s1 := hSw); go_simp; first | done | with_reducible rfl)
     refine rdL 3 fun K hK => ?_
     go_simp
     go_at_call 63
     refine HS3.out.flg.mono ?_
     rintro e w9 (⟨b1, y1, hb1, rfl, h1⟩ | ⟨hb1, rfl, hf⟩)
     case inr => (have hbad := nodsA_2 HA.out HX.out (nodR_4 HN1.out HN2.out HK.out (cutsA_2 HA2.out HY.out (cutR_1 hb1))); exact ⟨rfl, .inr ⟨tre_none HL.out hbad, rfl, hf.gr⟩⟩)
     have Hb1 := Lib.hid hb1
     replace HS3 := Lib.hid h1
     replace HB3 := Lib.hid (show CB w9 n 48 [.int .i64 p1, .int .i64 p2, .slice oq cq.length cpq] from HS3.out.thg (boxT n 48 _) (List.mem_cons_of_mem _ List.mem_cons_self))
     clear hb1 h1
     refine goLc hK HB3.out fun hHeld => ?_
     clear hK K
     refine rdL 5 fun K hK => ?_
     go_simp
     go_at_call 59
     refine HS3.out.num.mono ?_
     rintro e wa (⟨b2, y2, hb2, rfl, h1⟩ | ⟨hb2, rfl, hf⟩)
     case inr => (have hbad := nodsA_2 HA.out HX.out (nodR_4 HN1.out HN2.out HK.out (cutsA_2 HA2.out HY.out (cutR_2 Hb1.out hb2))); exact ⟨rfl, .inr ⟨tre_none HL.out hbad, rfl, hf.gr⟩⟩)
     have Hb2 := Lib.hid hb2
     replace HS3 := Lib.hid h1
     replace HB3 := Lib.hid (show CB wa n 48 [.int .i64 p1, .int .i64 p2, .slice oq cq.length cpq] from HS3.out.thg (boxT n 48 _) (List.mem_cons_of_mem _ List.mem_cons_self))
     clear hb2 h1
     refine goLc hK HB3.out fun hHeld => ?_
     clear hK K
     refine rdL 7 fun K hK => ?_
     go_simp
     go_at_call 62
     refine HS3.out.spn.mono ?_
     rintro e wb (⟨b3, y3, hb3, rfl, h1⟩ | ⟨hb3, rfl, hf⟩)
     case inr => (have hbad := nodsA_2 HA.out HX.out (nodR_4 HN1.out HN2.out HK.out (cutsA_2 HA2.out HY.out (cutR_3 Hb1.out Hb2.out hb3))); exact ⟨rfl, .inr ⟨tre_none HL.out hbad, rfl, hf.gr⟩⟩)
     have Hb3 := Lib.hid hb3
     replace HS3 := Lib.hid h1
     replace HB3 := Lib.hid (show CB wb n 48 [.int .i64 p1, .int .i64 p2, .slice oq cq.length cpq] from HS3.out.thg (boxT n 48 _) (List.mem_cons_of_mem _ List.mem_cons_self))
     clear hb3 h1
     refine goLc hK HB3.out fun hHeld => ?_
     clear hK K
     refine rdL 9 fun K hK => ?_
     go_simp
     go_at_call 59
     refine HS3.out.num.mono ?_
     rintro e wc (⟨b4, y4, hb4, rfl, h1⟩ | ⟨hb4, rfl, hf⟩)
     case inr => (have hbad := nodsA_2 HA.out HX.out (nodR_4 HN1.out HN2.out HK.out (cutsA_2 HA2.out HY.out (cutR_4 Hb1.out Hb2.out Hb3.out hb4))); exact ⟨rfl, .inr ⟨tre_none HL.out hbad, rfl, hf.gr⟩⟩)
     have Hb4 := Lib.hid hb4
     replace HS3 := Lib.hid h1
     replace HB3 := Lib.hid (show CB wc n 48 [.int .i64 p1, .int .i64 p2, .slice oq cq.length cpq] from HS3.out.thg (boxT n 48 _) (List.mem_cons_of_mem _ List.mem_cons_self))
     clear hb4 h1
     refine goLc hK HB3.out fun hHeld => ?_
     clear hK K
     refine tkLy (some 43) 10 rfl (.agg ((⟨b1, b2, b3.1, b3.2, b4⟩ : Cut).cells).toArray) (yields_built (by rfl) 88 _ rfl ((⟨b1, b2, b3.1, b3.2, b4⟩ : Cut).cells) [(0, .bool b1), (1, .int .i64 b2), (2, .agg #[.int .i64 b3.1, .int .i64 b3.2]), (3, .int .i64 b4)] rfl (cut_built _ _ _ _ _)) ?_
     refine rdL 11 fun K hK => ?_
     go_simp
     have HBk : Hid (CB (wc.alloc (.cells ((⟨b1, b2, b3.1, b3.2, b4⟩ : Cut).cells).toArray 88)) wc.heap.size 88 ((⟨b1, b2, b3.1, b3.2, b4⟩ : Cut).cells)) := cb_one wc _ _ _ rfl
     have hz : Below wc.heap.size wc (wc.alloc (.cells ((⟨b1, b2, b3.1, b3.2, b4⟩ : Cut).cells).toArray 88)) := b_al _
     change K _ (wc.alloc (.cells ((⟨b1, b2, b3.1, b3.2, b4⟩ : Cut).cells).toArray 88))
     replace HS3 := Lib.hid (HS3.out.grow hz)
     replace HB3 := Lib.hid (HB3.out.ext hz)
     clear hz
     generalize wc.alloc (.cells ((⟨b1, b2, b3.1, b3.2, b4⟩ : Cut).cells).toArray 88) = wd at *
     generalize wc.heap.size = gk at *
     refine goLc hK HB3.out fun hHeld => ?_
     clear hK K
     refine rdL 12 fun K hK => ?_
     have HO3 := Lib.hid (show OwnK cuK 88 wd bn (.slice oq cq.length cpq) cq from HS3.out.thg _ List.mem_cons_self)
     have HW3 : Hid (bn ≤ wd.heap.size) := Lib.hid (by have := Hk6.out; have := (HS3.out.cur (k, c2) (by simp)).lt'; omega)
     refine step_append_x (e := 88) (z := (.agg #[.bool false, .int .i64 0, .int .i64 0, .int .i64 0, .int .i64 0])) (size := 5) (bytes := 40) Tryz.underlying46 cu_info rfl rfl (.tmp 34) (.tmp 44) rfl bn (.slice oq cq.length cpq) cq.length (cuK.flat cq) rfl ?q1 (.slice (some ⟨gk, 0, none⟩) 1 1) 1 (cuK.flat [(⟨b1, b2, b3.1, b3.2, b4⟩ : Cut)]) rfl ?q2 ?q3 ?q4 ?q5 ?_
     case q1 => exact HO3.out
     case q2 => exact src_el (K := cuK) (a := (⟨b1, b2, b3.1, b3.2, b4⟩ : Cut)) Tryz.underlying46 HBk.out
     case q3 => (have := HQ3.out; unfold maxLen; omega)
     case q4 => (have := HQ3.out; omega)
     case q5 => exact HW3.out
     intro v9 we ho9 hg9 hn9
     have HO9 : Hid (OwnK cuK 88 we bn v9 (cq ++ [(⟨b1, b2, b3.1, b3.2, b4⟩ : Cut)])) := OwnK.append (K := cuK) ho9 (by simp)
     obtain ⟨o9, c9, hv9, -⟩ := HO9.out.rd.shape
     rw [List.length_append, List.length_singleton] at hv9
     subst hv9
     have hlt9 := HO3.out.lt
     have hs9 := HS3.out.put [ownT cuK 88 bn (.slice oq cq.length cpq) cq] (ownT cuK 88 bn (.slice o9 (cq.length + 1) c9) (cq ++ [(⟨b1, b2, b3.1, b3.2, b4⟩ : Cut)])) _ hg9 (fun j hj => ⟨⟨_, List.mem_singleton.2 rfl, hj⟩, Nat.le_trans Hnw.out (Nat.le_trans (Nat.le_of_lt Hlow.out.1) (hlt9 j hj).1), Nat.le_trans HB.out (Nat.le_trans Hnw.out (Nat.le_trans (Nat.le_of_lt Hlow.out.1) (hlt9 j hj).1))⟩) HO9.out (fun j hj => hn9.elim (fun h => .inl ⟨_, List.mem_singleton.2 rfl, h.symm.trans hj⟩) (fun h => .inr (h j hj))) (fun u hu j hj hu2 => own_far9 hu (hlt9 j hj).1 Hlow.out hu2)
     have HS9 := Lib.hid hs9
     have HB9 := Lib.hid (show CB we n 48 [.int .i64 p1, .int .i64 p2, .slice oq cq.length cpq] from HS9.out.thg (boxT n 48 _) (List.mem_cons_of_mem _ List.mem_cons_self))
     have y3 : _ = some (Value.slice oq cq.length cpq) := HB9.out.cell 2
     have yf := HB9.out.frozen 2
     clear hs9 ho9 hg9 hn9 hlt9 HBk HS3 HB3 HO3
     refine hK.out (Act.put _ (some 45) _) we (fun _ => HB9.out) (fun hHeld0 => ?_)
     clear hK K
     have hHeld := hHeld0 (by rfl)
     clear hHeld0
     try simp only [Act.put, List.setIfInBounds_toArray, List.set_cons_zero, List.set_cons_succ]
     refine tkL (some 46) 13 ?_ (hy := fun wS hSw => by (obtain s1 := hSw); go_simp; first | done | with_reducible rfl)
     refine rdL 14 fun K hK => ?_
     go_simp
     refine hK.out _ _ (fun h => absurd h (by decide)) (fun hHeld0 => ?_)
     clear hK K
     try simp only [Act.put, List.setIfInBounds_toArray, List.set_cons_zero, List.set_cons_succ]
     refine wpAnyL_done (by kernel_rfl) ?_ _
     go_wp2_with fail
     have hcut := Lib.hid (cutsA_3 HA2.out HY.out (cutR_5 Hb1.out Hb2.out Hb3.out Hb4.out))
     have hlt9 := HO9.out.lt
     go_roundw
     case rel =>
      have h9 := (HS9.out.drop).sub (ts' := [boxT n 48 [.int .i64 p1, .int .i64 p2, .slice oq cq.length cpq], ownT cuK 88 bn (.slice o9 (cq.length + 1) c9) (cq ++ [(⟨b1, b2, b3.1, b3.2, b4⟩ : Cut)]), treT w.heap.size (.slice ov rl.length cv) rl q]) (fun t ht => by simp only [List.mem_cons, List.not_mem_nil, or_false] at *; rcases ht with rfl | rfl | rfl <;> simp)
      have h10 := h9.put [boxT n 48 [.int .i64 p1, .int .i64 p2, .slice oq cq.length cpq]] (boxT n 48 [.int .i64 p1, .int .i64 p2, .slice o9 (cq.length + 1) c9]) (some n) (grown_setT we n 2 (.slice o9 (cq.length + 1) c9)) (fun j hj => by injection hj with hj; subst hj; exact ⟨⟨_, List.mem_singleton.2 rfl, rfl⟩, Hnw.out, Nat.le_trans HB.out Hnw.out⟩) (HB9.out.set 2 _) (fun j hj => .inl ⟨_, List.mem_singleton.2 rfl, hj⟩)
       (fun u hu j hj hu2 => by
        injection hj with hj; subst hj
        simp only [List.mem_cons, List.not_mem_nil, or_false] at hu
        rcases hu with rfl | rfl
        · have := (hlt9 _ hu2).1; have := Hlow.out.1; omega
        · have := HlT.out _ hu2; omega)
      have h11 := h10.sub (ts' := [ownT cuK 88 bn (.slice o9 (cq.length + 1) c9) (cq ++ [(⟨b1, b2, b3.1, b3.2, b4⟩ : Cut)]), boxT n 48 [.int .i64 p1, .int .i64 p2, .slice o9 (cq.length + 1) c9], treT w.heap.size (.slice ov rl.length cv) rl q]) (fun t ht => by simp only [List.mem_cons, List.not_mem_nil, or_false] at *; rcases ht with rfl | rfl | rfl <;> simp)
      exact ⟨⟨_, _, c2, hcut.out, h11, by have := HQ2.out; simp at this ⊢; omega⟩⟩
     case measure =>
      have e1 : (we.setCell ⟨n, 2, none⟩ (.slice o9 (cq.length + 1) c9)).cell? ⟨n, 2, none⟩ = some (.slice o9 (cq.length + 1) c9) := (HB9.out.set 2 _).cell 2
      have e2 : wr.cell? ⟨n, 2, none⟩ = some (.slice oq cq.length cpq) := HM2.out
      rw [e1, e2]
      have := HQ2.out
      simp [lenOf] at this ⊢
      omega
end Go.Proofs.YtdblnbnofjggnaaGreatDoor
