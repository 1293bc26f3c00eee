/- chapter 04's laws: what the functions answer, as values at every input. -/
import Derived.Test.YtmhmenmkgbebcaaDoorSsn
namespace Go.Proofs.YtmhmenmkgbebcaaDoor
open Go.RowKit Go.Shelf
section
variable {P : Program} {w : World} {ops : Array Oper} {rest : List Oper} {o : Oper} {a : Act} {Q : Exit → Act → World → Prop}
/-- append behind a guard that lets it through -/
theorem wpList_append_Bg {t tx e : TypeId} (ht : P.underlying t = some (.slice e)) (he : (P.info? e).map (fun i => (i.zero, i.size, i.bytes)) = some (some (.int .u8 0), 1, 1))
    (hw : Region.wanted o (yielded ops a.tmps) = true) (s y : Operand) (ho : o.op = .call { callee := .builtin .append, args := #[s, y], argTypes := #[t, tx] })
    (base : Nat) (v : Value) (l : List UInt8) (hs : a.eval s = v) (hown : OwnB e w base v l)
    (x : Value) (m : List UInt8) (hx : a.eval y = x) (hsrc : SrcB P tx w x m)
    (hl : l.length + m.length ≤ 140737488355328) (hbase : base ≤ w.heap.size)
    (h : ∀ v' w', OwnB e w' base v' (l ++ m) → w.grownBy w' v.ownBlock → Next w v v' → wpList P ops Q rest (a.put o.dst v') w') : wpList P ops Q (o :: rest) a w := by
  unfold wpList
  rw [if_pos hw]
  left
  obtain ⟨i0, hi, hz0, hz1, hz2⟩ := info_parts he
  obtain ⟨v', w', hr, h2, h3, h4⟩ := run_append_x (P := P) w base t tx o.type e i0 (.int .u8 0) 1 1 ht hi hz0 hz1 hz2 rfl v l.length (bcells l) hown x m.length (bcells m) hsrc (by unfold maxLen; omega) (by omega) hbase
  unfold Oper.wp execOp
  simp only [ho, resolve, invoke, builtin, Sem.run_bind, Sem.run_pure, Result.andThen_ok, List.map_toArray, List.map_cons, List.map_nil, hs, hx, hr]
  exact h v' w' (by unfold OwnB; rw [bcells_append, List.length_append]; exact h2) h3 h4
end
def TruePost (w : World) (e : Ending) (w' : World) : Prop := e = .returned (.bool true) ∧ Below w.heap.size w w'
def PubE (x r e : Int) : Prop := (∃ n p : Nat, x = (n : Int) ∧ ZPr (n : Int) ∧ pw 4 n = p ∧ r = (p : Int) ∧ e = 0) ∨ (¬ ZPr x ∧ r = 0 ∧ e = 40)
theorem pubE_ex (x : Int) : ∃ r e, PubE x r e := by
  by_cases h : ZPr x
  · obtain ⟨n, rfl, _⟩ := pr_nat h
    exact ⟨_, _, .inl ⟨n, _, rfl, h, rfl, rfl, rfl⟩⟩
  · exact ⟨_, _, .inr ⟨h, rfl, rfl⟩⟩
theorem public_val (x r e : Int) (h : Hid (PubE x r e)) (w : World) : Calls Tryd.prog 13 #[.int .i64 x] w fun q w' => q = .returned (.tuple #[.int .i64 r, .int .i64 e]) ∧ Below w.heap.size w w' := by
  rcases h.out with ⟨n, p, rfl, h1, h2, rfl, rfl⟩ | ⟨h1, rfl, rfl⟩
  · exact public_ok n p h1 h2 w
  · refine (public_bad x h1 w).mono ?_
    rintro q w' ⟨rfl, rfl⟩
    exact ⟨rfl, Below.refl _ _⟩
theorem rpublic_val (x r e : Int) (h : Hid (PubE x r e)) (w : World) : Calls Tryd.prog 14 #[.int .i64 x] w fun q w' => q = .returned (.tuple #[.int .i64 r, .int .i64 e]) ∧ w = w' := by
  rcases h.out with ⟨n, p, rfl, h1, h2, rfl, rfl⟩ | ⟨h1, rfl, rfl⟩
  · exact rpublic_ok n p h1 h2 w
  · exact rpublic_bad x h1 w
def SigE (x : Int) (l : List UInt8) (R S e : Int) : Prop :=
  (∃ n k r c p m s : Nat, x = (n : Int) ∧ ZPr (n : Int) ∧ nonceK n l = k ∧ pw 4 k = r ∧ pw 4 n = p ∧ chalK r p l = c ∧ c * n % cQ = m ∧ (k + m) % cQ = s ∧ R = (r : Int) ∧ S = (s : Int) ∧ e = 0) ∨ (¬ ZPr x ∧ R = 0 ∧ S = 0 ∧ e = 40)
theorem sigE_ex (x : Int) (l : List UInt8) : ∃ R S e, SigE x l R S e := by
  by_cases h : ZPr x
  · obtain ⟨n, rfl, _⟩ := pr_nat h
    exact ⟨_, _, _, .inl ⟨n, _, _, _, _, _, _, rfl, h, rfl, rfl, rfl, rfl, rfl, rfl, rfl, rfl, rfl⟩⟩
  · exact ⟨_, _, _, .inr ⟨h, rfl, rfl, rfl⟩⟩
theorem sign_val (x R S e : Int) (v : Value) (l : List UInt8) (w : World) (h : Hid (SigE x l R S e)) (hl : l.length ≤ 50000) (hb : BtsAt w.heap.size w l v) (hL : Laid w) :
    Calls Tryd.prog 15 #[.int .i64 x, v] w fun q w' => q = .returned (.tuple #[.agg #[.int .i64 R, .int .i64 S], .int .i64 e]) ∧ Below w.heap.size w w' := by
  rcases h.out with ⟨n, k, r, c, p, m, s, rfl, h1, h2, h3, h4, h5, h6, h7, rfl, rfl, rfl⟩ | ⟨h1, rfl, rfl, rfl⟩
  · exact sign_ok n v l w k r c p m s h1 hl hb hL h2 h3 h4 h5 h6 h7
  · obtain ⟨oa, cap, rfl⟩ := hb.shape
    exact sign_bad x oa _ cap w h1
theorem rsign_val (x R S e : Int) (v : Value) (l : List UInt8) (w : World) (h : Hid (SigE x l R S e)) (hl : l.length ≤ 50000) (hb : BtsAt w.heap.size w l v) :
    Calls Tryd.prog 16 #[.int .i64 x, v] w fun q w' => q = .returned (.tuple #[.agg #[.int .i64 R, .int .i64 S], .int .i64 e]) ∧ Below w.heap.size w w' := by
  rcases h.out with ⟨n, k, r, c, p, m, s, rfl, h1, h2, h3, h4, h5, h6, h7, rfl, rfl, rfl⟩ | ⟨h1, rfl, rfl, rfl⟩
  · exact rsign_ok n v l w k r c p m s h1 hl hb h2 h3 h4 h5 h6 h7
  · obtain ⟨oa, cap, rfl⟩ := hb.shape
    exact rsign_bad x oa _ cap w h1
theorem elE_ex (a : Int) : ∃ x, ElE a x := by
  by_cases h : ZEl a
  · exact ⟨0, .inl ⟨h, rfl⟩⟩
  · exact ⟨30, .inr ⟨h, rfl⟩⟩
theorem scE_ex (a : Int) : ∃ x, ScE a x := by
  by_cases h : ZSc a
  · exact ⟨0, .inl ⟨h, rfl⟩⟩
  · exact ⟨1, .inr ⟨h, rfl⟩⟩
theorem ElE.z {a x : Int} (h : ElE a x) (hx : x = 0) : ZEl a := by
  rcases h with ⟨h, _⟩ | ⟨_, h⟩
  · exact h
  · omega
theorem ScE.z {a x : Int} (h : ScE a x) (hx : x = 0) : ZSc a := by
  rcases h with ⟨h, _⟩ | ⟨_, h⟩
  · exact h
  · omega
theorem verE_ex (P R S : Int) (l : List UInt8) : ∃ e1 e2 e3 t, ElE P e1 ∧ ElE R e2 ∧ ScE S e3 ∧ VerCase P R S e1 e2 e3 l t := by
  obtain ⟨e1, h1⟩ := elE_ex P
  obtain ⟨e2, h2⟩ := elE_ex R
  obtain ⟨e3, h3⟩ := scE_ex S
  by_cases h : e1 = 0 ∧ e2 = 0 ∧ e3 = 0
  · obtain ⟨rfl, rfl, rfl⟩ := h
    obtain ⟨p, rfl, hp⟩ := el_nat (h1.z rfl)
    obtain ⟨r, rfl, hr⟩ := el_nat (h2.z rfl)
    obtain ⟨s, rfl, hs⟩ := sc_nat (h3.z rfl)
    exact ⟨0, 0, 0, _, h1, h2, h3, .inr ⟨rfl, rfl, rfl, p, r, s, _, _, _, _, rfl, rfl, rfl, hp, hr, hs, rfl, rfl, rfl, rfl, rfl⟩⟩
  · exact ⟨e1, e2, e3, false, h1, h2, h3, .inl ⟨h, rfl⟩⟩
theorem rverify_val (P R S e1 e2 e3 : Int) (v : Value) (l : List UInt8) (t : Bool) (w : World) (hl : l.length ≤ 50000) (hb : BtsAt w.heap.size w l v) (h1 : Hid (ElE P e1)) (h2 : Hid (ElE R e2)) (h3 : Hid (ScE S e3)) (h : Hid (VerCase P R S e1 e2 e3 l t)) :
    Calls Tryd.prog 20 #[.int .i64 P, v, .agg #[.int .i64 R, .int .i64 S]] w fun e w' => e = .returned (.bool t) ∧ Below w.heap.size w w' := by
  rcases h.out with ⟨hne, rfl⟩ | ⟨rfl, rfl, rfl, p, r, s, a, b, c, d, rfl, rfl, rfl, hp, hr, hs, hc, ha, hB, hd, ht3⟩
  · obtain ⟨oa, cap, rfl⟩ := hb.shape
    refine rverify_bad P R S oa _ cap w fun ⟨q1, q2, q3⟩ => hne ⟨?_, ?_, ?_⟩
    · rcases h1.out with ⟨_, h⟩ | ⟨h, _⟩; exact h; exact absurd q1 h
    · rcases h2.out with ⟨_, h⟩ | ⟨h, _⟩; exact h; exact absurd q2 h
    · rcases h3.out with ⟨_, h⟩ | ⟨h, _⟩; exact h; exact absurd q3 h
  · exact rverify_ok p r s v l a b c d t w hp hr hs hl hb hc ha hB hd ht3
theorem only_case {x k c p R S m : Nat} {l : List UInt8} (hR : pw 4 k = R) (hp : pw 4 x = p) (hc : chalK R p l = c) (hm : c * x % cQ = m) (hS : (k + m) % cQ = S) (z : Int) :
    ∃ e3 t, ScE z e3 ∧ VerCase (p : Int) (R : Int) z 0 0 e3 l t ∧ (z == (S : Int)) = t := by
  have hSl : S < cQ := by rw [← hS]; exact Nat.mod_lt _ (by decide)
  by_cases hz : ZSc z
  · obtain ⟨s, rfl, hs⟩ := sc_nat hz
    refine ⟨0, _, .inl ⟨hz, rfl⟩, .inr ⟨rfl, rfl, rfl, p, R, s, pw 4 s, pw p c, c, R * pw p c % cP, rfl, rfl, rfl, hp ▸ pw_el el_four x, hR ▸ pw_el el_four k, hs, hc, rfl, rfl, rfl, rfl⟩, ?_⟩
    have h := sig_eq k c x
    have hs2 : sigS k c x = S := by unfold sigS; rw [hm, hS]
    rw [hs2, hp, hR] at h
    rw [← h, Bool.eq_iff_iff]
    simp only [beq_iff_eq, Int.ofNat_inj]
    exact ⟨fun e => by rw [e], fun e => pw4_inj hs hSl e⟩
  · refine ⟨1, false, .inr ⟨hz, rfl⟩, .inl ⟨by decide, rfl⟩, ?_⟩
    rw [beq_eq_false_iff_ne]
    rintro rfl
    exact hz (zsc_nat hSl)
theorem minus_ok (a b m r : Nat) (ha : Hid (a < cQ)) (hb : Hid (b < cQ)) (hm : Hid ((cQ - 1) * b % cQ = m)) (hr : Hid ((a + m) % cQ = r)) (w : World) :
    Calls Tryd.prog 27 #[.int .i64 a, .int .i64 b] w fun e w' => e = .returned (.tuple #[.int .i64 r, .int .i64 0]) ∧ Below w.heap.size w w' := by
  have hml : Hid (m < cQ) := by show _ < _; rw [← hm.out]; exact Nat.mod_lt _ (by decide)
  go_enter Tryd.func27, Tryd.ntmps27
  go_wp2_with fail
  refine (prod_any 2305843009213688668 b m (Lib.hid (by decide)) hb hm _).mono ?_
  rintro e w1 ⟨rfl, hb1⟩
  go_wp2_with fail
  refine (sum_any a m r ha hml hr _).mono ?_
  rintro e w2 ⟨rfl, hb2⟩
  have hb3 := below_ext hb1 hb2
  clear hb1 hb2
  go_wp2_with fail
  go_ret2
  exact ⟨rfl, hb3⟩
end Go.Proofs.YtmhmenmkgbebcaaDoor
