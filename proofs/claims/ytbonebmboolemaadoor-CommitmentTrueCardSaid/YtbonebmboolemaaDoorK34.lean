/- Merged: Tvf Twy Tov Tso Tze Tor Tre. -/
import Derived.Test.YtbonebmboolemaaDoorK05
import Derived.Test.YtbonebmboolemaaDoorK13
import Derived.Test.YtbonebmboolemaaDoorK22
import Derived.Test.YtbonebmboolemaaDoorK30
import Derived.Test.YtbonebmboolemaaDoorK31
import Derived.Test.YtbonebmboolemaaDoorK32
import Derived.Test.YtbonebmboolemaaDoorK33
/- what Open and Verify answer, plain. -/
namespace Go.Proofs.YtbonebmboolemaaDoor
open Go.RowKit
/-- the leaf of an opening -/
def ownD (o : Opn) : Dg := leafX o.salt [o.air, o.fl, o.slot, o.cost]
/-- whether a path has the length that an element's has -/
def fitsB (n a : Nat) (p : List Dg) : Bool := decide (p.length = (firsts n a).length)
def hitB (d : Dg) (n : Nat) (x : Dg) (p : List Dg) (a : Nat) : Bool := fitsB n a p && decide (riseD x n a p = d)
/-- whether a path, cut at a place, leads to the digest -/
def tryB (d : Dg) (tables slots : Nat) (o : Opn) (k : Nat) : Bool :=
  fitsB slots o.slot.toNat (o.path.take k) && (List.range tables).any (hitB d tables (riseD (ownD o) slots o.slot.toNat (o.path.take k)) (o.path.drop k))
def foundB (d : Dg) (tables slots : Nat) (o : Opn) : Bool := (List.range (o.path.length + 1)).any (tryB d tables slots o)
/-- what Verify answers -/
def verB (d : Dg) (air tables slots : Int) (o : Opn) : Bool := preV air tables slots o && foundB d tables.toNat slots.toNat o
def verE (d : Dg) (air tables slots : Int) (o : Opn) : Int := if verB d air tables slots o = true then 0 else 360
/-- the places of an opening, for one cut -/
def hitsN (d : Dg) (tables slots : Nat) (o : Opn) (k : Nat) : List Nat :=
  if fitsB slots o.slot.toNat (o.path.take k) = true then (List.range tables).filter (hitB d tables (riseD (ownD o) slots o.slot.toNat (o.path.take k)) (o.path.drop k)) else []
def placesN (d : Dg) (tables slots : Nat) (o : Opn) (m : Nat) : List Nat := (List.range m).flatMap (hitsN d tables slots o)
def partN (d : Dg) (tables slots : Nat) (o : Opn) : Nat → Nat
  | 0 => 0
  | m + 1 => if hitsN d tables slots o m = [] then partN d tables slots o m else m
def allN (d : Dg) (tables slots : Nat) (o : Opn) : List Nat := placesN d tables slots o (o.path.length + 1)
theorem fits_iff {n a : Nat} {p : List Dg} : fitsB n a p = true ↔ p.length = (firsts n a).length := by unfold fitsB; rw [decide_eq_true_eq]
theorem hit_iff {d x : Dg} {n a : Nat} {p : List Dg} : hitB d n x p a = true ↔ p.length = (firsts n a).length ∧ riseD x n a p = d := by
  unfold hitB; rw [Bool.and_eq_true, fits_iff, decide_eq_true_eq]
theorem try_iff {d : Dg} {tables slots k : Nat} {o : Opn} : tryB d tables slots o k = true ↔ hitsN d tables slots o k ≠ [] := by
  unfold tryB hitsN
  by_cases h : fitsB slots o.slot.toNat (o.path.take k) = true
  · rw [h, if_pos rfl, Bool.true_and, List.any_eq_true, Ne, List.filter_eq_nil_iff]
    constructor
    · rintro ⟨a, h1, h2⟩ h3; exact h3 a h1 h2
    · intro h3
      refine Classical.byContradiction fun h4 => h3 fun a h1 h2 => h4 ⟨a, h1, h2⟩
  · rw [if_neg h]
    simp [h]
theorem found_iff {d : Dg} {tables slots : Nat} {o : Opn} : foundB d tables slots o = true ↔ allN d tables slots o ≠ [] := by
  unfold foundB allN placesN
  rw [List.any_eq_true]
  constructor
  · rintro ⟨k, h1, h2⟩ h3
    rw [List.flatMap_eq_nil_iff] at h3
    exact try_iff.1 h2 (h3 k h1)
  · intro h
    refine Classical.byContradiction fun h4 => h (List.flatMap_eq_nil_iff.2 fun k hk => ?_)
    refine Classical.byContradiction fun h5 => h4 ⟨k, hk, try_iff.2 h5⟩
theorem found_parts {d : Dg} {tables slots : Nat} {o : Opn} (h : foundB d tables slots o = true) :
    ∃ k a, k ≤ o.path.length ∧ a < tables ∧ k = (firsts slots o.slot.toNat).length ∧ (o.path.drop k).length = (firsts tables a).length ∧ riseD (riseD (ownD o) slots o.slot.toNat (o.path.take k)) tables a (o.path.drop k) = d := by
  unfold foundB at h
  rw [List.any_eq_true] at h
  obtain ⟨k, hk, h⟩ := h
  rw [List.mem_range] at hk
  unfold tryB at h
  rw [Bool.and_eq_true, fits_iff, List.any_eq_true] at h
  obtain ⟨h1, a, ha, h2⟩ := h
  rw [List.mem_range] at ha
  rw [hit_iff] at h2
  rw [List.length_take] at h1
  exact ⟨k, a, by omega, ha, by omega, h2.1, h2.2⟩
/-- a path is no longer than the number of the halvings -/
theorem firsts_pow (k : Nat) : ∀ n a, n ≤ 2 ^ k → (firsts n a).length ≤ k := by
  induction k with
  | zero => intro n a h; rw [firsts_one a (by simpa using h)]; simp
  | succ k ih =>
    intro n a h
    by_cases h1 : n ≤ 1
    · rw [firsts_one a h1]; simp
    · have hh := half_lt (n := n) (by omega)
      have hp : halfN n ≤ 2 ^ k := by
        unfold halfN
        refine Nat.pow_le_pow_right (by omega) ?_
        have : Nat.log2 (n - 1) < k + 1 := (Nat.log2_lt (by omega)).2 (by omega)
        omega
      by_cases ha : a < halfN n
      · rw [firsts_lt (by omega) ha, List.length_cons]; have := ih (halfN n) a hp; omega
      · rw [firsts_ge (by omega) ha, List.length_cons]; have := ih (n - halfN n) (a - halfN n) (by omega); omega
theorem firsts_full (k : Nat) : ∀ a, a < 2 ^ k → (firsts (2 ^ k) a).length = k := by
  induction k with
  | zero => intro a _; rw [show 2 ^ 0 = 1 from rfl, firsts_one a (Nat.le_refl 1)]; rfl
  | succ k ih =>
    intro a h
    have hp := Nat.two_pow_pos k
    have hh : halfN (2 ^ (k + 1)) = 2 ^ k := half_of (by rw [Nat.pow_succ]; omega) (by rw [Nat.pow_succ]; omega)
    by_cases ha : a < 2 ^ k
    · rw [firsts_lt (by rw [Nat.pow_succ]; omega) (by rw [hh]; exact ha), hh, List.length_cons, ih a ha]
    · rw [firsts_ge (by rw [Nat.pow_succ]; omega) (by rw [hh]; exact ha), hh, List.length_cons, show 2 ^ (k + 1) - 2 ^ k = 2 ^ k by rw [Nat.pow_succ]; omega, ih (a - 2 ^ k) (by rw [Nat.pow_succ] at h; omega)]
theorem pre_parts {air tables slots : Int} {o : Opn} (h : preV air tables slots o = true) : 1 ≤ tables ∧ tables ≤ 8 ∧ 1 ≤ slots ∧ slots ≤ 8 ∧ o.air = air ∧ knownB o.air o.fl = true ∧ 0 ≤ o.slot ∧ o.slot < slots ∧ costB o.cost = true := by
  unfold preV at h
  simp only [Bool.and_eq_true, decide_eq_true_eq] at h
  exact ⟨h.1.1.1.1.1.1.1.1, h.1.1.1.1.1.1.1.2, h.1.1.1.1.1.1.2, h.1.1.1.1.1.2, h.1.1.1.1.2, h.1.1.1.2, h.1.1.2, h.1.2, h.2⟩
/-- a path that is verified is short -/
theorem ver_len {d : Dg} {air tables slots : Int} {o : Opn} (h : verB d air tables slots o = true) : o.path.length ≤ 6 := by
  unfold verB at h
  rw [Bool.and_eq_true] at h
  obtain ⟨p1, p2, p3, p4, -⟩ := pre_parts h.1
  obtain ⟨k, a, hk, ha, h1, h2, -⟩ := found_parts h.2
  have e1 := firsts_pow 3 slots.toNat o.slot.toNat (by show slots.toNat ≤ 8; omega)
  have e2 := firsts_pow 3 tables.toNat a (by show tables.toNat ≤ 8; omega)
  rw [List.length_drop] at h2
  omega
/-- what the reference's Verify asks -/
def rverB (d : Dg) (air tables slots : Int) (o : Opn) : Bool := preV air tables slots o && decide (o.path.length ≤ 6) && !(allN d tables.toNat slots.toNat o).isEmpty
theorem rver_eq (d : Dg) (air tables slots : Int) (o : Opn) : rverB d air tables slots o = verB d air tables slots o := by
  rw [Bool.eq_iff_iff]
  constructor
  · intro h
    unfold rverB at h
    rw [Bool.and_eq_true, Bool.and_eq_true] at h
    unfold verB
    rw [Bool.and_eq_true]
    exact ⟨h.1.1, found_iff.2 (by intro e; rw [e] at h; simp at h)⟩
  · intro h
    have h6 := ver_len h
    unfold verB at h
    rw [Bool.and_eq_true] at h
    unfold rverB
    rw [Bool.and_eq_true, Bool.and_eq_true, decide_eq_true_eq]
    refine ⟨⟨h.1, h6⟩, ?_⟩
    have := found_iff.1 h.2
    cases hh : allN d tables.toNat slots.toNat o with
    | nil => exact absurd hh this
    | cons x r => rfl
/-- whether one cost can be opened -/
def openB (l : List Tab) (a s : Int) : Bool := validT l && decide (0 ≤ a) && decide (a < (l.length : Int)) && decide (0 ≤ s) && decide (s < ((l.getD 0 default).costs.length : Int))
def openO (l : List Tab) (a s : Int) : Opn :=
  if openB l a s = true then
    let t := l.getD a.toNat default
    ⟨t.air, t.fl, s, t.costs.getD s.toNat 0, t.salt, pathD (leavesT t) s.toNat ++ pathD (digestsT l) a.toNat⟩
  else ⟨0, 0, 0, 0, dgZ, []⟩
def openE (l : List Tab) (a s : Int) : Int := if openB l a s = true then 0 else 360
theorem open_parts {l : List Tab} {a s : Int} (h : openB l a s = true) : ∃ (i k : Nat) (t : Tab) (c : Int), a = (i : Int) ∧ s = (k : Int) ∧ l[i]? = some t ∧ t.costs[k]? = some c ∧ validT l = true ∧ t.costs.length = (l.getD 0 default).costs.length := by
  unfold openB at h
  simp only [Bool.and_eq_true, decide_eq_true_eq] at h
  obtain ⟨⟨⟨⟨h1, h2⟩, h3⟩, h4⟩, h5⟩ := h
  have hi : a.toNat < l.length := by omega
  have ht : l[a.toNat]? = some l[a.toNat] := List.getElem?_eq_getElem hi
  obtain ⟨-, -, hl, -⟩ := valid_at h1 ht
  refine ⟨a.toNat, s.toNat, l[a.toNat], _, by omega, by omega, ht, List.getElem?_eq_getElem (by omega), h1, hl⟩
theorem open_yes {l : List Tab} {i k : Nat} {t : Tab} {c : Int} (hv : validT l = true) (ht : l[i]? = some t) (hc : t.costs[k]? = some c) :
    openB l i k = true ∧ openO l i k = ⟨t.air, t.fl, (k : Int), c, t.salt, pathD (leavesT t) k ++ pathD (digestsT l) i⟩ ∧ openE l i k = 0 := by
  have hi := (List.getElem?_eq_some_iff.1 ht).1
  have hk := (List.getElem?_eq_some_iff.1 hc).1
  obtain ⟨-, -, hl, -⟩ := valid_at hv ht
  have hb : openB l i k = true := by
    unfold openB
    simp only [Bool.and_eq_true, decide_eq_true_eq]
    refine ⟨⟨⟨⟨hv, by omega⟩, by omega⟩, by omega⟩, by omega⟩
  refine ⟨hb, ?_, by unfold openE; rw [if_pos hb]⟩
  unfold openO
  rw [if_pos hb]
  simp only [Int.toNat_natCast, gd ht]
  rw [List.getD_eq_getElem?_getD, hc]; rfl
theorem open_no {l : List Tab} {a s : Int} (h : ¬ openB l a s = true) : openO l a s = ⟨0, 0, 0, 0, dgZ, []⟩ ∧ openE l a s = 360 := by
  unfold openO openE; rw [if_neg h, if_neg h]; exact ⟨rfl, rfl⟩
/-- every cost can be opened, and is verified -/
theorem open_ver {l : List Tab} {i k : Nat} {t : Tab} {c : Int} (hv : validT l = true) (ht : l[i]? = some t) (hc : t.costs[k]? = some c) :
    verB (commitD l) t.air l.length t.costs.length (openO l i k) = true := by
  have hi := (List.getElem?_eq_some_iff.1 ht).1
  have hk := (List.getElem?_eq_some_iff.1 hc).1
  have hlen := valid_len hv
  obtain ⟨hok, hair, hl, -⟩ := valid_at hv ht
  obtain ⟨-, ho, -⟩ := open_yes hv ht hc
  rw [ho]
  unfold okT at hok
  simp only [Bool.and_eq_true, decide_eq_true_eq, List.all_eq_true] at hok
  obtain ⟨⟨⟨hkn, h1⟩, h8⟩, hcs⟩ := hok
  unfold verB
  rw [Bool.and_eq_true]
  constructor
  · unfold preV
    simp only [Bool.and_eq_true, decide_eq_true_eq]
    refine ⟨⟨⟨⟨⟨⟨⟨⟨by omega, by omega⟩, by omega⟩, by omega⟩, by first | rfl | trivial⟩, hkn⟩, by omega⟩, by omega⟩, hcs c ?_⟩
    obtain ⟨q1, q2⟩ := List.getElem?_eq_some_iff.1 hc
    rw [← q2]; exact List.getElem_mem q1
  · have hL : (pathD (leavesT t) k).length = (firsts t.costs.length k).length := pathD_len _ _ (leavesT_len t) k
    have hD : (pathD (digestsT l) i).length = (firsts l.length i).length := pathD_len _ _ (digestsT_len l) i
    unfold foundB
    rw [List.any_eq_true]
    refine ⟨(pathD (leavesT t) k).length, by rw [List.mem_range]; simp only [List.length_append]; omega, ?_⟩
    unfold tryB
    simp only [Int.toNat_natCast, List.take_left, List.drop_left]
    rw [Bool.and_eq_true, fits_iff, List.any_eq_true]
    refine ⟨hL, i, by rw [List.mem_range]; exact hi, ?_⟩
    rw [hit_iff]
    refine ⟨hD, ?_⟩
    have e1 : riseD (ownD ⟨t.air, t.fl, (k : Int), c, t.salt, pathD (leavesT t) k ++ pathD (digestsT l) i⟩) t.costs.length k (pathD (leavesT t) k) = treeD (leavesT t) :=
      rise_path t.costs.length (leavesT t) (leavesT_len t) k _ (leavesT_at hc)
    rw [e1, rise_path l.length (digestsT l) (digestsT_len l) i _ (digestsT_at ht)]
    unfold commitD; rw [if_pos hv]
end Go.Proofs.YtbonebmboolemaaDoor
/- ways from an opening to a commitment, plain: two ways that meet collide. -/
namespace Go.Proofs.YtbonebmboolemaaDoor
open Go.RowKit
theorem lo_n (x : Nat) (h : x < 256) : (loDig x).toNat = x := by unfold loDig; rw [Nat.toUInt8_eq, UInt8.toNat_ofNat']; exact Nat.mod_eq_of_lt h
theorem hi_n (x : Nat) : (hiDig x).toNat = x % 128 + 128 := by unfold hiDig; rw [Nat.toUInt8_eq, UInt8.toNat_ofNat']; omega
theorem numF_inj : ∀ (f u v : Nat) (r s : List UInt8), u < 128 ^ f * 2 → v < 128 ^ f * 2 → numF f u ++ r = numF f v ++ s → u = v ∧ r = s
  | 0, u, v, r, s, hu, hv, h => by
    simp only [Nat.pow_zero, Nat.one_mul] at hu hv
    simp only [numF, List.singleton_append, List.cons.injEq] at h
    have h1 := lo_n u (by omega); have h2 := lo_n v (by omega)
    rw [h.1] at h1
    exact ⟨by omega, h.2⟩
  | f + 1, u, v, r, s, hu, hv, h => by
    rw [Nat.pow_succ] at hu hv
    by_cases h1 : u < 128
    · by_cases h2 : v < 128
      · simp only [numF, if_pos h1, if_pos h2, List.singleton_append, List.cons.injEq] at h
        have e1 := lo_n u (by omega); have e2 := lo_n v (by omega)
        rw [h.1] at e1
        exact ⟨by omega, h.2⟩
      · exfalso
        simp only [numF, if_pos h1, if_neg h2, List.cons_append, List.cons.injEq] at h
        have e1 := lo_n u (by omega); have e2 := hi_n v
        rw [h.1] at e1
        omega
    · by_cases h2 : v < 128
      · exfalso
        simp only [numF, if_neg h1, if_pos h2, List.cons_append, List.cons.injEq] at h
        have e1 := hi_n u; have e2 := lo_n v (by omega)
        rw [h.1] at e1
        omega
      · simp only [numF, if_neg h1, if_neg h2, List.cons_append, List.cons.injEq] at h
        have e1 := hi_n u; have e2 := hi_n v
        rw [h.1] at e1
        obtain ⟨a1, a2⟩ := numF_inj f (u / 128) (v / 128) r s (Nat.div_lt_of_lt_mul (by rw [← Nat.mul_assoc, Nat.mul_comm 128]; exact hu)) (Nat.div_lt_of_lt_mul (by rw [← Nat.mul_assoc, Nat.mul_comm 128]; exact hv)) h.2
        exact ⟨by omega, a2⟩
theorem uns_inj {x y : Int} (h : uns x = uns y) : x = y := by
  unfold uns at h; split at h <;> split at h <;> omega
theorem encs_iV_inj : ∀ (xs ys : List Int), xs.length = ys.length → (∀ x ∈ xs, I64 x) → (∀ y ∈ ys, I64 y) → encs (xs.map iV) = encs (ys.map iV) → xs = ys
  | [], [], _, _, _, _ => rfl
  | [], y :: s, h, _, _, _ => by simp at h
  | x :: r, [], h, _, _, _ => by simp at h
  | x :: r, y :: s, h, hx, hy, he => by
    simp only [List.map_cons, encs] at he
    unfold iV at he
    rw [enc_1, enc_1, List.append_assoc, List.append_assoc] at he
    have he := List.append_cancel_left he
    unfold num at he
    have b1 := uns_lt x (hx x List.mem_cons_self)
    have b2 := uns_lt y (hy y List.mem_cons_self)
    obtain ⟨a1, a2⟩ := numF_inj 9 _ _ _ _ (by simpa using b1) (by simpa using b2) he
    have := encs_iV_inj r s (by simpa using h) (fun z hz => hx z (List.mem_cons_of_mem _ hz)) (fun z hz => hy z (List.mem_cons_of_mem _ hz)) a2
    rw [uns_inj a1, this]
theorem enc_lsI_inj {xs ys : List Int} (h : xs.length = ys.length) (hx : ∀ x ∈ xs, I64 x) (hy : ∀ y ∈ ys, I64 y) (he : enc (lsI xs) = enc (lsI ys)) : xs = ys := by
  unfold lsI at he
  rw [enc_3, enc_3, List.length_map, List.length_map, h] at he
  exact encs_iV_inj xs ys h hx hy (List.append_cancel_left he)
/-- the bytes that are hashed for the leaf of an opening -/
def hashedX (o : Opn) : List UInt8 := o.salt.1 ++ enc (lsI [o.air, o.fl, o.slot, o.cost])
theorem own_hashed (o : Opn) : ownD o = tagD costT (hashedX o) := rfl
/-- numbers that the machine holds -/
structure OpI (o : Opn) : Prop where
  air : I64 o.air
  fl : I64 o.fl
  slot : I64 o.slot
  cost : I64 o.cost
theorem OpI.four {o : Opn} (h : OpI o) : ∀ x ∈ [o.air, o.fl, o.slot, o.cost], I64 x := by
  intro x hx
  simp only [List.mem_cons, List.not_mem_nil, or_false] at hx
  rcases hx with rfl | rfl | rfl | rfl
  · exact h.air
  · exact h.fl
  · exact h.slot
  · exact h.cost
theorem hashed_inj {o p : Opn} (ho : OpI o) (hp : OpI p) (h : hashedX o = hashedX p) : o.fl = p.fl ∧ o.cost = p.cost := by
  unfold hashedX at h
  obtain ⟨_, h2⟩ := List.append_inj h (by rw [o.salt.2, p.salt.2])
  have := enc_lsI_inj (by simp) ho.four hp.four h2
  simp only [List.cons.injEq] at this
  exact ⟨this.2.1, this.2.2.2.1⟩
/-- what is hashed, under its tag -/
abbrev Stp := List UInt8 × List UInt8
def hashS (x : Stp) : Dg := tagD x.1 x.2
/-- the digest to which a path of any length leads -/
def topW (d : Dg) (n a : Nat) (p : List Dg) : Dg :=
  if h : n ≤ 1 ∨ p = [] then leafD d
  else if a < halfN n then nodeD (topW d (halfN n) a p.dropLast) (p.getLast (fun e => h (.inr e)))
  else nodeD (p.getLast (fun e => h (.inr e))) (topW d (n - halfN n) (a - halfN n) p.dropLast)
termination_by p.length
decreasing_by all_goals (simp only [not_or] at h; have := List.length_pos_iff.2 h.2; rw [List.length_dropLast]; omega)
/-- what is hashed on that way -/
def stW (d : Dg) (n a : Nat) (p : List Dg) : List Stp :=
  if h : n ≤ 1 ∨ p = [] then [(leafT, d.1)]
  else if a < halfN n then stW d (halfN n) a p.dropLast ++ [(nodeT, (topW d (halfN n) a p.dropLast).1 ++ (p.getLast (fun e => h (.inr e))).1)]
  else stW d (n - halfN n) (a - halfN n) p.dropLast ++ [(nodeT, (p.getLast (fun e => h (.inr e))).1 ++ (topW d (n - halfN n) (a - halfN n) p.dropLast).1)]
termination_by p.length
decreasing_by all_goals (simp only [not_or] at h; have := List.length_pos_iff.2 h.2; rw [List.length_dropLast]; omega)
theorem topW_end {d : Dg} {n a : Nat} {p : List Dg} (h : n ≤ 1 ∨ p = []) : topW d n a p = leafD d := by rw [topW, dif_pos h]
theorem stW_end {d : Dg} {n a : Nat} {p : List Dg} (h : n ≤ 1 ∨ p = []) : stW d n a p = [(leafT, d.1)] := by rw [stW, dif_pos h]
theorem topW_lt {d z : Dg} {n a : Nat} {p : List Dg} (h : 2 ≤ n) (ha : a < halfN n) : topW d n a (p ++ [z]) = nodeD (topW d (halfN n) a p) z := by
  rw [topW, dif_neg (by simp; omega), if_pos ha]; simp
theorem topW_ge {d z : Dg} {n a : Nat} {p : List Dg} (h : 2 ≤ n) (ha : ¬ a < halfN n) : topW d n a (p ++ [z]) = nodeD z (topW d (n - halfN n) (a - halfN n) p) := by
  rw [topW, dif_neg (by simp; omega), if_neg ha]; simp
theorem stW_lt {d z : Dg} {n a : Nat} {p : List Dg} (h : 2 ≤ n) (ha : a < halfN n) : stW d n a (p ++ [z]) = stW d (halfN n) a p ++ [(nodeT, (topW d (halfN n) a p).1 ++ z.1)] := by
  rw [stW, dif_neg (by simp; omega), if_pos ha]; simp
theorem stW_ge {d z : Dg} {n a : Nat} {p : List Dg} (h : 2 ≤ n) (ha : ¬ a < halfN n) : stW d n a (p ++ [z]) = stW d (n - halfN n) (a - halfN n) p ++ [(nodeT, z.1 ++ (topW d (n - halfN n) (a - halfN n) p).1)] := by
  rw [stW, dif_neg (by simp; omega), if_neg ha]; simp
/-- a path of the right length -/
theorem top_rise (k : Nat) : ∀ (d : Dg) (n a : Nat) (p : List Dg), p.length = k → k = (firsts n a).length → topW d n a p = riseD d n a p := by
  induction k with
  | zero =>
    intro d n a p hp hf
    have hp0 : p = [] := List.eq_nil_of_length_eq_zero hp
    subst hp0
    rw [topW_end (.inr rfl)]
    unfold riseD
    simp
  | succ k ih =>
    intro d n a p hp hf
    have h2 : 2 ≤ n := by
      rcases Nat.lt_or_ge n 2 with h | h
      · rw [firsts_one a (by omega)] at hf; simp at hf
      · exact h
    have hne : p ≠ [] := fun e => by rw [e] at hp; simp at hp
    obtain ⟨q, z, rfl⟩ : ∃ q z, p = q ++ [z] := ⟨_, _, (List.dropLast_concat_getLast hne).symm⟩
    rw [List.length_append, List.length_singleton] at hp
    by_cases ha : a < halfN n
    · rw [firsts_lt h2 ha, List.length_cons] at hf
      rw [topW_lt h2 ha, rise_lt h2 ha (by omega), ih d _ _ q (by omega) (by omega)]
    · rw [firsts_ge h2 ha, List.length_cons] at hf
      rw [topW_ge h2 ha, rise_ge h2 ha (by omega), ih d _ _ q (by omega) (by omega)]
/-- no two different inputs with one hash -/
def SafeS (l m : List Stp) : Prop := ∀ z ∈ l.zip m, hashS z.1 = hashS z.2 → z.1.2 = z.2.2
theorem SafeS.left {l m l' m' : List Stp} (h : SafeS (l ++ l') (m ++ m')) (hl : l.length = m.length) : SafeS l m := fun z hz => h z (by rw [List.zip_append hl]; exact List.mem_append_left _ hz)
theorem SafeS.right {l m l' m' : List Stp} (h : SafeS (l ++ l') (m ++ m')) (hl : l.length = m.length) : SafeS l' m' := fun z hz => h z (by rw [List.zip_append hl]; exact List.mem_append_right _ hz)
theorem stW_par (k : Nat) : ∀ (d d' : Dg) (n a : Nat) (p p' : List Dg), p.length = k → p'.length = k → (stW d n a p).map (·.1) = (stW d' n a p').map (·.1) := by
  induction k with
  | zero =>
    intro d d' n a p p' hp hp'
    rw [stW_end (.inr (List.eq_nil_of_length_eq_zero hp)), stW_end (.inr (List.eq_nil_of_length_eq_zero hp'))]; rfl
  | succ k ih =>
    intro d d' n a p p' hp hp'
    rcases Nat.lt_or_ge n 2 with h | h2
    · rw [stW_end (.inl (by omega)), stW_end (.inl (by omega))]; rfl
    have hne : p ≠ [] := fun e => by rw [e] at hp; simp at hp
    have hne' : p' ≠ [] := fun e => by rw [e] at hp'; simp at hp'
    obtain ⟨q, z, rfl⟩ : ∃ q z, p = q ++ [z] := ⟨_, _, (List.dropLast_concat_getLast hne).symm⟩
    obtain ⟨q', z', rfl⟩ : ∃ q z, p' = q ++ [z] := ⟨_, _, (List.dropLast_concat_getLast hne').symm⟩
    rw [List.length_append, List.length_singleton] at hp hp'
    by_cases ha : a < halfN n
    · rw [stW_lt h2 ha, stW_lt h2 ha, List.map_append, List.map_append, ih d d' _ _ q q' (by omega) (by omega)]; rfl
    · rw [stW_ge h2 ha, stW_ge h2 ha, List.map_append, List.map_append, ih d d' _ _ q q' (by omega) (by omega)]; rfl
theorem stW_len {d d' : Dg} {n a : Nat} {p p' : List Dg} (h : p.length = p'.length) : (stW d n a p).length = (stW d' n a p').length := by
  have := congrArg List.length (stW_par p'.length d d' n a p p' h rfl)
  simpa using this
theorem dg_ext {a b : Dg} (h : a.1 = b.1) : a = b := Subtype.ext h
theorem top_ne (k : Nat) : ∀ (d d' : Dg) (n a : Nat) (p p' : List Dg), p.length = k → p'.length = k → d ≠ d' → SafeS (stW d n a p) (stW d' n a p') → topW d n a p ≠ topW d' n a p' := by
  have base : ∀ (d d' : Dg), d ≠ d' → SafeS [(leafT, d.1)] [(leafT, d'.1)] → leafD d ≠ leafD d' := fun d d' hd hs he =>
    hd (dg_ext (hs ((leafT, d.1), (leafT, d'.1)) (by simp) he))
  induction k with
  | zero =>
    intro d d' n a p p' hp hp' hd hs
    have e1 : p = [] := List.eq_nil_of_length_eq_zero hp
    have e2 : p' = [] := List.eq_nil_of_length_eq_zero hp'
    rw [stW_end (.inr e1), stW_end (.inr e2)] at hs
    rw [topW_end (.inr e1), topW_end (.inr e2)]
    exact base d d' hd hs
  | succ k ih =>
    intro d d' n a p p' hp hp' hd hs
    rcases Nat.lt_or_ge n 2 with h | h2
    · rw [stW_end (.inl (by omega)), stW_end (.inl (by omega))] at hs
      rw [topW_end (.inl (by omega)), topW_end (.inl (by omega))]
      exact base d d' hd hs
    have hne : p ≠ [] := fun e => by rw [e] at hp; simp at hp
    have hne' : p' ≠ [] := fun e => by rw [e] at hp'; simp at hp'
    obtain ⟨q, z, rfl⟩ : ∃ q z, p = q ++ [z] := ⟨_, _, (List.dropLast_concat_getLast hne).symm⟩
    obtain ⟨q', z', rfl⟩ : ∃ q z, p' = q ++ [z] := ⟨_, _, (List.dropLast_concat_getLast hne').symm⟩
    rw [List.length_append, List.length_singleton] at hp hp'
    by_cases ha : a < halfN n
    · rw [stW_lt h2 ha, stW_lt h2 ha] at hs
      have hl := stW_len (d := d) (d' := d') (n := halfN n) (a := a) (p := q) (p' := q') (by omega)
      have hx := ih d d' _ _ q q' (by omega) (by omega) hd (hs.left hl)
      have hr := hs.right hl
      rw [topW_lt h2 ha, topW_lt h2 ha]
      intro he
      have := hr ((nodeT, (topW d (halfN n) a q).1 ++ z.1), (nodeT, (topW d' (halfN n) a q').1 ++ z'.1)) (List.mem_singleton.2 rfl) he
      obtain ⟨h1, _⟩ := List.append_inj this (by rw [(topW d (halfN n) a q).2, (topW d' (halfN n) a q').2])
      exact hx (dg_ext h1)
    · rw [stW_ge h2 ha, stW_ge h2 ha] at hs
      have hl := stW_len (d := d) (d' := d') (n := n - halfN n) (a := a - halfN n) (p := q) (p' := q') (by omega)
      have hx := ih d d' _ _ q q' (by omega) (by omega) hd (hs.left hl)
      have hr := hs.right hl
      rw [topW_ge h2 ha, topW_ge h2 ha]
      intro he
      have := hr ((nodeT, z.1 ++ (topW d (n - halfN n) (a - halfN n) q).1), (nodeT, z'.1 ++ (topW d' (n - halfN n) (a - halfN n) q').1)) (List.mem_singleton.2 rfl) he
      obtain ⟨_, h1⟩ := List.append_inj this (by rw [z.2, z'.2])
      exact hx (dg_ext h1)
/-- everything that is hashed on the way from an opening -/
def wayS (o : Opn) (a tables slots part : Nat) : List Stp :=
  (costT, hashedX o) :: (stW (ownD o) slots o.slot.toNat (o.path.take part) ++ stW (topW (ownD o) slots o.slot.toNat (o.path.take part)) tables a (o.path.drop part))
/-- whether at a place two different inputs have one hash -/
def colAt (l m : List Stp) (i : Nat) : Bool :=
  match l[i]?, m[i]? with
  | some x, some y => decide (x.1 = y.1) && !decide (x.2 = y.2) && decide (hashS x = hashS y)
  | _, _ => false
def colB (l m : List Stp) : Bool := (List.range l.length).any (colAt l m)
theorem col_safe {l m : List Stp} (ht : l.map (·.1) = m.map (·.1)) (h : colB l m = false) : SafeS l m := by
  intro z hz he
  obtain ⟨i, hi⟩ := List.mem_iff_getElem?.1 hz
  rw [List.getElem?_zip_eq_some] at hi
  have h1 := hi.1; have h2 := hi.2
  refine Classical.byContradiction fun hne => ?_
  have hc : colAt l m i = true := by
    unfold colAt
    rw [h1, h2]
    have ht2 : z.1.1 = z.2.1 := by
      have := congrArg (fun q => q[i]?) ht
      simpa [h1, h2] using this
    simp [ht2, hne, he]
  have : colB l m = true := by
    unfold colB
    rw [List.any_eq_true]
    exact ⟨i, by rw [List.mem_range]; exact (List.getElem?_eq_some_iff.1 h1).1, hc⟩
  rw [this] at h; cases h
/-- two ways that meet collide, if what they begin with differs -/
theorem ways_collide {o p : Opn} {a tables slots part : Nat} (hs : o.slot = p.slot) (hl : o.path.length = p.path.length) (hne : hashedX o ≠ hashedX p)
    (hm : topW (topW (ownD o) slots o.slot.toNat (o.path.take part)) tables a (o.path.drop part) = topW (topW (ownD p) slots p.slot.toNat (p.path.take part)) tables a (p.path.drop part)) :
    colB (wayS o a tables slots part) (wayS p a tables slots part) = true := by
  rw [← Bool.not_eq_false]
  intro hc
  have e1 : (o.path.take part).length = (p.path.take part).length := by rw [List.length_take, List.length_take, hl]
  have e2 : (o.path.drop part).length = (p.path.drop part).length := by rw [List.length_drop, List.length_drop, hl]
  have hsafe := col_safe (by
    unfold wayS
    simp only [List.map_cons, List.map_append]
    rw [hs, stW_par _ (ownD o) (ownD p) slots p.slot.toNat _ _ e1 rfl, stW_par _ _ (topW (ownD p) slots p.slot.toNat (p.path.take part)) tables a _ _ e2 rfl]) hc
  unfold wayS at hsafe
  rw [hs] at hsafe hm
  have h0 : SafeS [(costT, hashedX o)] [(costT, hashedX p)] := SafeS.left (l := [(costT, hashedX o)]) (m := [(costT, hashedX p)]) hsafe rfl
  have h1 := SafeS.right (l := [(costT, hashedX o)]) (m := [(costT, hashedX p)]) hsafe rfl
  have hd : ownD o ≠ ownD p := fun he => hne (h0 ((costT, hashedX o), (costT, hashedX p)) (by simp) he)
  have hl1 := stW_len (d := ownD o) (d' := ownD p) (n := slots) (a := p.slot.toNat) e1
  have hd2 := top_ne _ _ _ slots p.slot.toNat _ _ e1 rfl hd (h1.left hl1)
  exact top_ne _ _ _ tables a _ _ e2 rfl hd2 (h1.right hl1) hm
/-- the places are found by one cut alone -/
theorem place_cut {d : Dg} {tables slots : Nat} {o : Opn} {a : Nat} (h : a ∈ allN d tables slots o) : a < tables ∧ (firsts slots o.slot.toNat).length ≤ o.path.length ∧ (o.path.drop (firsts slots o.slot.toNat).length).length = (firsts tables a).length ∧
    riseD (riseD (ownD o) slots o.slot.toNat (o.path.take (firsts slots o.slot.toNat).length)) tables a (o.path.drop (firsts slots o.slot.toNat).length) = d := by
  unfold allN placesN at h
  rw [List.mem_flatMap] at h
  obtain ⟨k, hk, h⟩ := h
  rw [List.mem_range] at hk
  unfold hitsN at h
  split at h
  case isFalse => cases h
  case isTrue hf =>
  rw [fits_iff, List.length_take] at hf
  have hkk : k = (firsts slots o.slot.toNat).length := by omega
  rw [List.mem_filter, List.mem_range, hit_iff] at h
  rw [← hkk]
  exact ⟨h.1, by omega, h.2.1, h.2.2⟩
theorem hits_else {d : Dg} {tables slots : Nat} {o : Opn} {k : Nat} (hk : k ≤ o.path.length) (h : k ≠ (firsts slots o.slot.toNat).length) : hitsN d tables slots o k = [] := by
  unfold hitsN
  rw [if_neg]
  rw [fits_iff, List.length_take]; omega
theorem part_is {d : Dg} {tables slots : Nat} {o : Opn} {a : Nat} (h : a ∈ allN d tables slots o) : ∀ m, m ≤ o.path.length + 1 → (firsts slots o.slot.toNat).length < m → partN d tables slots o m = (firsts slots o.slot.toNat).length := by
  intro m
  induction m with
  | zero => intro _ h; omega
  | succ m ih =>
    intro hm hl
    rw [partN]
    by_cases hk : m = (firsts slots o.slot.toNat).length
    · rw [if_neg, hk]
      intro he
      unfold allN placesN at h
      rw [List.mem_flatMap] at h
      obtain ⟨k, hk2, h⟩ := h
      rw [List.mem_range] at hk2
      by_cases hkm : k = m
      · rw [hkm, he] at h; cases h
      · rw [hits_else (by omega) (by omega)] at h; cases h
    · rw [if_pos (hits_else (by omega) hk)]
      exact ih (by omega) (by omega)
/-- an opening that is verified, of no table's cost: each of its places gives a collision -/
theorem true_col {l : List Tab} {o : Opn} {a : Nat} {d0 : Tab} (hv : validT l = true) (h0 : l.getD 0 default = d0) (hp : preV d0.air l.length d0.costs.length o = true) (hO : OpI o)
    (hno : ∀ t ∈ l, ¬ (t.fl = o.fl ∧ t.costs.getD o.slot.toNat 0 = o.cost)) (ha : a ∈ allN (commitD l) l.length d0.costs.length o) :
    openE l a o.slot = 0 ∧ (openO l a o.slot).path.length = o.path.length ∧ partN (commitD l) l.length d0.costs.length o (o.path.length + 1) ≤ o.path.length ∧
    colB (wayS o a l.length d0.costs.length (partN (commitD l) l.length d0.costs.length o (o.path.length + 1))) (wayS (openO l a o.slot) a l.length d0.costs.length (partN (commitD l) l.length d0.costs.length o (o.path.length + 1))) = true := by
  obtain ⟨q1, q2, q3, q4⟩ := place_cut ha
  have hpt := part_is ha (o.path.length + 1) (Nat.le_refl _) (by omega)
  rw [hpt]
  obtain ⟨-, -, -, -, p5, -, p7, p8, -⟩ := pre_parts hp
  obtain ⟨k, hk⟩ : ∃ k, o.slot.toNat = k := ⟨_, rfl⟩
  have hsk : o.slot = (k : Int) := by omega
  have ht : l[a]? = some l[a] := List.getElem?_eq_getElem q1
  obtain ⟨hok, hair, hcl, -⟩ := valid_at hv ht
  rw [h0] at hair hcl
  have hkl : k < l[a].costs.length := by omega
  have hc : l[a].costs[k]? = some l[a].costs[k] := List.getElem?_eq_getElem hkl
  obtain ⟨-, ho, he⟩ := open_yes hv ht hc
  rw [← hsk] at ho he
  have hL : (pathD (leavesT l[a]) k).length = (firsts d0.costs.length k).length := pathD_len _ _ (by rw [leavesT_len, hcl]) k
  have hD : (pathD (digestsT l) a).length = (firsts l.length a).length := pathD_len _ _ (digestsT_len l) a
  rw [hk] at q2 q3 q4 ⊢
  rw [List.length_drop] at q3
  have hpl : (openO l a o.slot).path.length = o.path.length := by
    rw [ho]; show (pathD _ _ ++ pathD _ _).length = _; rw [List.length_append]; omega
  refine ⟨he, hpl, q2, ways_collide (by rw [ho]) hpl.symm ?_ ?_⟩
  · intro hh
    have hOI : OpI (openO l a o.slot) := by
      have hti := ok_tabI hok
      rw [ho]
      exact ⟨hti.air, hti.fl, hO.slot, hti.cs _ (List.getElem_mem hkl)⟩
    obtain ⟨z1, z2⟩ := hashed_inj hO hOI hh
    rw [ho] at z1 z2
    refine hno l[a] (List.getElem_mem q1) ⟨z1.symm, ?_⟩
    rw [hk, List.getD_eq_getElem?_getD, hc]
    exact z2.symm
  · have eo : (openO l a o.slot).slot.toNat = k := by rw [ho]; exact hk
    have et : (openO l a o.slot).path.take (firsts d0.costs.length k).length = pathD (leavesT l[a]) k := by rw [ho, ← hL]; exact List.take_left
    have ed : (openO l a o.slot).path.drop (firsts d0.costs.length k).length = pathD (digestsT l) a := by rw [ho, ← hL]; exact List.drop_left
    have ew : ownD (openO l a o.slot) = leafX l[a].salt [l[a].air, l[a].fl, (k : Int), l[a].costs[k]] := by rw [ho]; unfold ownD; rw [hsk]
    rw [eo, et, ed, ew, hk]
    rw [top_rise _ _ d0.costs.length k (o.path.take _) rfl (by rw [List.length_take]; omega), top_rise _ _ l.length a (o.path.drop _) rfl (by rw [List.length_drop]; omega), q4]
    rw [top_rise _ _ d0.costs.length k _ rfl hL, top_rise _ _ l.length a _ rfl hD]
    rw [rise_path d0.costs.length (leavesT l[a]) (by rw [leavesT_len, hcl]) k _ (leavesT_at hc), rise_path l.length (digestsT l) (digestsT_len l) a _ (digestsT_at ht)]
    unfold commitD; rw [if_pos hv]
end Go.Proofs.YtbonebmboolemaaDoor
/- openings in memory; lists cut at a place; what Open answers. -/
namespace Go.Proofs.YtbonebmboolemaaDoor
open Go.RowKit
theorem LsAt.takeG {α : Type} {K : EK α} {B : Nat} {w : World} {l : List α} {oa : Option Addr} {cap n : Nat} (h : LsAt K B w l (.slice oa l.length cap)) (hn : n ≤ l.length) (hm : n ≤ maxLen) : LsAt K B w (l.take n) (.slice oa n n) := by
  by_cases h0 : n = 0
  · subst h0; rw [List.take_zero]; exact .inl ⟨rfl, _, _, rfl⟩
  obtain ⟨b, off, rfl, hb, hat⟩ := h.at (k := 0) (by omega)
  refine .inr ⟨b, off, n, by rw [List.length_take, Nat.min_eq_left hn], by rw [List.length_take]; omega, hm, hb, fun j a hj => ?_⟩
  rw [List.getElem?_take] at hj
  split at hj
  · exact hat j a hj
  · cases hj
theorem LsAt.dropG {α : Type} {K : EK α} {B : Nat} {w : World} {l : List α} {oa oa' : Option Addr} {cap n m c : Nat} (h : LsAt K B w l (.slice oa l.length cap)) (hn : n ≤ l.length) (hm : m = l.length - n) (hc : c = cap - n) (ho : oa' = if cap = n then oa else Option.map (fun x => x.add (n * K.n)) oa) : LsAt K B w (l.drop n) (.slice oa' m c) := by
  by_cases h0 : l.length - n = 0
  · rw [List.drop_of_length_le (by omega)]; exact .inl ⟨rfl, oa', c, by rw [hm, h0]⟩
  obtain ⟨b, off, rfl, hb, hat⟩ := h.at (k := 0) (by omega)
  have hcap : l.length ≤ cap ∧ cap ≤ maxLen := by
    rcases h with ⟨h, _⟩ | ⟨_, _, _, he, h1, h2, _⟩
    · subst h; simp at h0
    · injection he with _ _ he; subst he; exact ⟨h1, h2⟩
  rw [if_neg (by omega)] at ho
  subst ho hm hc
  refine .inr ⟨b, off + n * K.n, cap - n, ?_, by rw [List.length_drop]; omega, by omega, hb, fun j a hj => ?_⟩
  · rw [List.length_drop, Option.map_some, add0]
  · rw [List.getElem?_drop] at hj
    have := hat (n + j) a hj
    rw [Nat.add_mul, ← Nat.add_assoc] at this; exact this
def obZ : Ob := ⟨0, 0, 0, 0, dgZ, none, 0, 0⟩
def ZO : Obj := bO obZ
theorem ob_all (r : Ob) : r.cells.toArray.all (·.oneCell') = true := Array.all_eq_true_iff_forall_mem.2 fun u hu => ob_one r u (by simpa using hu)
def OpenPost (l : List Tab) (a s : Int) (w : World) (e : Ending) (w' : World) : Prop :=
  ∃ r : Ob, e = .returned (.tuple #[r.v, .int .i64 (openE l a s)]) ∧ OpR w' (openO l a s) r ∧ Below w.heap.size w w'
theorem ob_places : placesOf Tryd.prog 36 = some [(0, 1), (1, 1), (2, 1), (3, 1), (4, 32), (36, 1)] := by kernel_rfl
theorem ob_zero : ((Tryd.prog.info? 36).bind (·.zero)).map (·.cells.size) = some 37 := by kernel_rfl
theorem ob_seq (r : Ob) : SeqP ([(0, 1), (1, 1), (2, 1), (3, 1), (4, 32), (36, 1)].toArray[·]?) 0 [(0, .int .i64 r.air), (1, .int .i64 r.fl), (2, .int .i64 r.slot), (3, .int .i64 r.cost), (4, dv r.salt.1), (5, r.pv)] := by
  have h : (dv r.salt.1).cells.size = 32 := by show (bcells r.salt.1).toArray.size = 32; rw [List.size_toArray, bcells_length, r.salt.2]
  refine ⟨rfl, rfl, rfl, rfl, by rw [h]; rfl, by rw [h]; rfl, trivial⟩
theorem ob_flat (r : Ob) : flatC [(0, .int .i64 r.air), (1, .int .i64 r.fl), (2, .int .i64 r.slot), (3, .int .i64 r.cost), (4, dv r.salt.1), (5, r.pv)] = r.cells := by
  simp [flatC, Ob.cells, dv, Value.cells, Ob.pv]
theorem setRow_ob {w : World} {g : Nat} {t : TypeId} {r r0 : Ob} (h : CB w g t r0.cells) : CB (w.setRow g r.cells.toArray) g t r.cells ∧ w.grownBy (w.setRow g r.cells.toArray) (some g) ∧ (w.setRow g r.cells.toArray).heap.size = w.heap.size := by
  refine ⟨setRow_heap _ _ _ _ _ _ h, ⟨rfl, rfl, rfl, by rw [size_setRow]; exact Nat.le_refl _, fun k hk hne => ?_⟩, size_setRow _ _ _⟩
  have hkg : k ≠ g := fun e => hne (by rw [e])
  simp [World.setRow, Array.getElem?_modify, Ne.symm hkg]
theorem cell_apart {w w' : World} {g b o : Nat} {v : Value} (hg : w.grownBy w' (some g)) (hb : b ≠ g) (h : w.cell? ⟨b, o, none⟩ = some v) : w'.cell? ⟨b, o, none⟩ = some v :=
  (World.cell?_of_block (w := w) (hg.block b (World.block_lt_of_cell? w _ h) (fun e => hb (by injection e)))).trans h
theorem cell_own {α : Type} {K : EK α} {e : TypeId} {w w' : World} {base b o : Nat} {v u : Value} {l : List α} (ho : OwnK K e w base v l) (hg : w.grownBy w' v.ownBlock) (hb : b < base) (h : w.cell? ⟨b, o, none⟩ = some u) : w'.cell? ⟨b, o, none⟩ = some u :=
  (World.cell?_of_block (w := w) (hg.block b (World.block_lt_of_cell? w _ h) (fun e => by have := (ho.lt b e.symm).1; omega))).trans h
theorem CB.own {α : Type} {K : EK α} {e t : TypeId} {w w' : World} {base g : Nat} {v : Value} {cs : List Value} {l : List α} (h : CB w g t cs) (ho : OwnK K e w base v l) (hg : w.grownBy w' v.ownBlock) (hb : g < base) : CB w' g t cs :=
  h.keep (hg.block g h.lt (fun e => by have := (ho.lt g e.symm).1; omega))
theorem LsAt.own {α β : Type} {K : EK α} {K2 : EK β} {e : TypeId} {w w' : World} {base B : Nat} {v u : Value} {l : List α} {m : List β} (h : LsAt K2 B w m u) (ho : OwnK K e w base v l) (hg : w.grownBy w' v.ownBlock) (hb : B ≤ base) (hs : base ≤ w.heap.size) : LsAt K2 B w' m u :=
  h.keep (Nat.le_refl _) (fun k hk => hg.block k (by omega) (fun e => by have := (ho.lt k e.symm).1; omega))
section
variable {P : Program} {w : World} {ops : Array Oper} {rest : List Oper} {o : Oper} {a : Act} {Q : Exit → Act → World → Prop}
theorem wpList_store_ob {hgd : o.guard = none} (ty : TypeId) (x y : Operand) (ho : o.op = .store ty x y) (g : Nat) (r : Ob) (hx : a.eval x = .pointer (some ⟨g, 0, none⟩)) (hy : a.eval y = r.v)
    (t : TypeId) (old : Array Value) (hg : w.heap[g]? = some (.cells old t (0, 0))) (hold : old.size = 37) (hi : (P.info? ty).map (·.size) = some 37)
    (h : ∀ w', Hid (CB w' g t r.cells) → Hid (w.grownBy w' (some g)) → w'.heap.size = w.heap.size → wpList P ops Q rest (a.put o.dst undef) w') : wpList P ops Q (o :: rest) a w :=
  wpList_store_g (hgd := hgd) ty x y ho g r.cells hx hy t old hg (by rw [hold, ob_len]) (by rw [ob_len]; exact hi) (ob_all r) h
theorem wpList_load_ob {hgd : o.guard = none} (ty : TypeId) (x : Operand) (ho : o.op = .load ty x) (g : Nat) (r : Ob) (hx : a.eval x = .pointer (some ⟨g, 0, none⟩))
    (t : TypeId) (d : TypeDesc) (hg : CB w g t r.cells) (hu : P.underlying ty = some d) (hd : (match d with | .struct _ | .array _ _ => true | _ => false) = true) (hi : (P.info? ty).map (·.size) = some 37)
    (h : wpList P ops Q rest (a.put o.dst r.v) w) : wpList P ops Q (o :: rest) a w :=
  wpList_load_row hgd ty x ho g hx t r.cells.toArray (0, 0) d hg hu hd (by rw [List.size_toArray, ob_len]; exact hi) h
end
end Go.Proofs.YtbonebmboolemaaDoor
/- the reference's SameOpening, at two openings that read the same. -/
namespace Go.Proofs.YtbonebmboolemaaDoor
open Go.RowKit
section
variable {P : Program} {w : World} {ops : Array Oper} {rest : List Oper} {o : Oper} {a : Act} {Q : Exit → Act → World → Prop}
/-- a load of a range behind a guard that lets it through -/
theorem wpList_load_midg (hw : Region.wanted o (yielded ops a.tmps) = true) (ty : TypeId) (x : Operand) (ho : o.op = .load ty x) (b off : Nat) (hx : a.eval x = .pointer (some ⟨b, off, none⟩)) (cs : List Value) (d : TypeDesc) (hc : w.rangeAt b off cs)
    (hu : P.underlying ty = some d) (hd : d.isRow = true) (hi : (P.info? ty).map (·.size) = some cs.length) (h : wpList P ops Q rest (a.put o.dst (.agg cs.toArray)) w) : wpList P ops Q (o :: rest) a w := by
  unfold wpList
  rw [if_pos hw]
  left
  exact wp_load_mid ty x ho b off hx cs d hc hu hd hi h
end
theorem eql_dg (l m : List UInt8) (hl : l.length = 32) (hm : m.length = 32) (w : World) :
    (binOp .eql 29 (.agg (bcells l).toArray) (.agg (bcells m).toArray)).run Tryd.prog w = .ok (.bool (decide (l = m))) w := by
  have h := eq_loop (P := Tryd.prog) (w := w) (E := 5) Tryd.underlying5 (by kernel_rfl) l m hl hm (List.range' 0 32) (fun i hi => by have := List.mem_range'_1.1 hi; omega)
  rw [all_eq l m hl hm] at h
  have hs : (sizeOf 5).run Tryd.prog w = .ok 1 w := by kernel_rfl
  rw [run_eql_struct]
  have key : (Op.equalIn 10000 29 (.agg (bcells l).toArray) (.agg (bcells m).toArray)).run Tryd.prog w = .ok (decide (l = m)) w := by
    rw [show (10000 : Nat) = 9999 + 1 from rfl, Op.equalIn]
    simp only [Sem.run_bind, run_underlying Tryd.underlying29, Result.andThen_ok, hs, Std.Legacy.Range.forIn_eq_forIn_range']
    erw [h]
    cases decide (l = m) <;> rfl
  rw [key]; rfl
set_option maxRecDepth 100000 in
set_option maxHeartbeats 4000000 in
theorem sameop_any (p : Opn) (r s : Ob) (w : World) (hr : OpR w p r) (hs : OpR w p s) :
    Calls Tryd.prog 17 #[r.v, s.v] w fun e w' => e = .returned (.bool true) ∧ Below w.heap.size w w' := by
  have hb1 : Below w.heap.size w ((w.alloc (bO r)).alloc (bO s)) := (b_al (w := w) (bO r)).alloc (b_al (w := w) (bO r)).size _
  have hs0 : CB ((w.alloc (bO r)).alloc (bO s)) (w.heap.size + 1) 36 s.cells := by
    have := cb_one (w.alloc (bO r)) (bO s) 36 s.cells rfl
    rwa [World.size_alloc] at this
  have hr0 : CB ((w.alloc (bO r)).alloc (bO s)) w.heap.size 36 r.cells := (cb_one w (bO r) _ _ rfl).alloc _
  have HS := Lib.hid (same_any p.path p.path r.pv s.pv _ (hr.path.ext hb1) (hs.path.ext hb1))
  rw [decide_eq_true rfl] at HS
  have HB := Lib.hid hb1
  obtain ⟨c0, c1, c2, c3, c4, c5⟩ := ob_cell hr0
  obtain ⟨d0, d1, d2, d3, d4, d5⟩ := ob_cell hs0
  obtain ⟨e1, e2, e3, e4, e5, -⟩ := hr
  obtain ⟨f1, f2, f3, f4, f5, -⟩ := hs
  rw [e1] at c0; rw [e2] at c1; rw [e3] at c2; rw [e4] at c3; rw [e5] at c4
  rw [f1] at d0; rw [f2] at d1; rw [f3] at d2; rw [f4] at d3; rw [f5] at d4
  obtain ⟨po, pn, pc, hpv⟩ : ∃ a b c, r.pv = .slice a b c := ⟨_, _, _, rfl⟩
  obtain ⟨so, sn, sc, hsv⟩ : ∃ a b c, s.pv = .slice a b c := ⟨_, _, _, rfl⟩
  rw [hpv] at c5 HS; rw [hsv] at d5 HS
  generalize p.air = pa at *; generalize p.fl = pf at *; generalize p.slot = ps at *; generalize p.cost = px at *
  obtain ⟨sl, hsl⟩ : ∃ x, p.salt = x := ⟨_, rfl⟩
  rw [hsl] at c4 d4
  have Hsl := Lib.hid sl.2
  have HC4 := Lib.hid c4; have HD4 := Lib.hid d4
  have hgd := fun (a1 a2 : Operand) (W : World) => gd_dv .eql a1 a2 sl.1 sl.1 W
  have heq : ∀ W, (binOp .eql 29 (.agg (bcells sl.1).toArray) (.agg (bcells sl.1).toArray)).run Tryd.prog W = .ok (.bool true) W := fun W => by rw [eql_dg _ _ Hsl.out Hsl.out]; simp
  clear hb1 hs0 hr0 e1 e2 e3 e4 e5 f1 f2 f3 f4 f5 hpv hsv hsl c4 d4
  change Calls Tryd.prog 17 #[.agg r.cells.toArray, .agg s.cells.toArray] w _
  go_enter Tryd.func17, Tryd.ntmps17
  go_upto_region 1 with fail
  change Code.wp _ _ _ _ ((w.alloc (bO r)).alloc (bO s))
  generalize (w.alloc (bO r)).alloc (bO s) = w0 at *
  go_wp2_with (first
    | (refine wpList_load_midg (by rfl) 29 (.tmp 32) rfl w.heap.size 4 rfl (bcells sl.1) _ HC4.out Tryd.underlying29 rfl (by rw [bcells_length, Hsl.out]; exact dig_sz) ?_)
    | (refine wpList_load_midg (by rfl) 29 (.tmp 34) rfl (w.heap.size + 1) 4 rfl (bcells sl.1) _ HD4.out Tryd.underlying29 rfl (by rw [bcells_length, Hsl.out]; exact dig_sz) ?_)
    | (go_at_call 41; refine HS.out.mono ?_; go_loud (
        rintro e w2 ⟨rfl, hb2⟩
        have HB2 := Lib.hid (below_ext HB.out hb2)
        clear hb2 HB)))
  go_ret
  exact ⟨rfl, HB2.out⟩
end Go.Proofs.YtbonebmboolemaaDoor
/- a closed hash. -/
namespace Go.Proofs.YtbonebmboolemaaDoor
open Go.RowKit
set_option maxRecDepth 100000 in
theorem zero_no : (leafD (leafD (leafX dgZ [0, 0, 0, 0]))).1 ≠ dgZ.1 := by
  have h : ((leafD (leafD (leafX dgZ [0, 0, 0, 0]))).1.headD 0 == 0 && (leafD (leafD (leafX dgZ [0, 0, 0, 0]))).1.getD 1 0 == 0) = false := by decide +kernel
  intro e
  rw [e] at h
  cases h
end Go.Proofs.YtbonebmboolemaaDoor
/- the reference's Open (printed by gen36o.py). -/
namespace Go.Proofs.YtbonebmboolemaaDoor
open Go.RowKit
set_option maxRecDepth 100000 in
set_option maxHeartbeats 4000000 in
theorem ropen_any_no (l : List Tab) (a s : Int) (v : Value) (w : World) (hl : TabsAt w l v) (h : ¬ openB l a s = true) :
    Calls Tryd.prog 16 #[v, .int .i64 a, .int .i64 s] w (OpenPost l a s w) := by
  obtain ⟨ho, he⟩ := open_no h
  have HE := Lib.hid he
  have HO := Lib.hid ho
  have HB := Lib.hid (b_al (w := w) ZO)
  have H6 : Hid (CB (w.alloc ZO) w.heap.size 36 obZ.cells) := cb_one w _ _ _ rfl
  have HV := Lib.hid (rvalid_any l v _ (hl.ext HB.out))
  have HL := Lib.hid hl
  obtain ⟨oa, cap, rfl, hlc, hlm⟩ := hl.shape
  have bl : (l.length : Int) ≤ 9223372036854775807 := by omega
  have HP : Hid (∀ (w2 w7 : World), Below w.heap.size w w2 → w2.grownBy w7 (some w.heap.size) → OpenPost l a s w (.returned (.tuple #[obZ.v, .int .i64 360])) w7) := fun w2 w7 hb hg =>
    ⟨obZ, by rw [HE.out], by rw [HO.out]; exact ⟨rfl, rfl, rfl, rfl, rfl, .inl ⟨rfl, _, _, rfl⟩⟩, hb.grown hg hb.size (fun k hk => by injection hk; omega)⟩
  clear hl hlc hlm ho he
  by_cases hv : validT l = true
  case neg =>
    have hv' : validT l = false := by simpa using hv
    rw [hv'] at HV
    clear hv hv' h
    go_enter Tryd.func16, Tryd.ntmps16
    go_upto_region 1 with fail
    change Code.wp _ _ _ _ (w.alloc ZO)
    generalize w.alloc ZO = w0 at *
    go_upto_region 2 with (go_at_call 33; refine HV.out.mono ?_; go_loud (
          rintro e w2 ⟨rfl, hb2⟩
          have HB2 := Lib.hid (below_ext HB.out hb2)
          have HX : Hid (w2.heap[w.heap.size]? = some (.cells obZ.cells.toArray 36 (0, 0))) := H6.out.ext hb2
          have HX2 : Hid (CB w2 w.heap.size 36 obZ.cells) := HX.out
          clear hb2 HB H6))
    go_wp2_with (first
      | (refine wpList_store_ob (hgd := rfl) 36 (.tmp 6) (.tmp 39) rfl w.heap.size obZ rfl rfl 36 _ HX.out rfl ob_sz ?_; intro w7 hc7 hg7 hz7))
    refine bodyPost_ret (v := .tuple #[obZ.v, .int .i64 360]) (results_row2 rfl _ _ w.heap.size 36 obZ.cells.toArray (0, 0) _ (.int .i64 360) rfl rfl hc7.out Tryd.underlying36 rfl (by rw [List.size_toArray, ob_len]; exact ob_sz)) rfl ?_
    exact HP.out w2 w7 HB2.out hg7.out
  rw [hv] at HV
  by_cases ha : a < 0
  · have b1 : decide (a < 0) = true := decide_eq_true ha
    clear h
    go_enter Tryd.func16, Tryd.ntmps16
    go_upto_region 1 with fail
    change Code.wp _ _ _ _ (w.alloc ZO)
    generalize w.alloc ZO = w0 at *
    go_upto_region 2 with (go_at_call 33; refine HV.out.mono ?_; go_loud (
          rintro e w2 ⟨rfl, hb2⟩
          have HB2 := Lib.hid (below_ext HB.out hb2)
          have HX : Hid (w2.heap[w.heap.size]? = some (.cells obZ.cells.toArray 36 (0, 0))) := H6.out.ext hb2
          have HX2 : Hid (CB w2 w.heap.size 36 obZ.cells) := HX.out
          clear hb2 HB H6))
    go_wp2_with (first
      | (refine wpList_store_ob (hgd := rfl) 36 (.tmp 6) (.tmp 39) rfl w.heap.size obZ rfl rfl 36 _ HX.out rfl ob_sz ?_; intro w7 hc7 hg7 hz7))
    refine bodyPost_ret (v := .tuple #[obZ.v, .int .i64 360]) (results_row2 rfl _ _ w.heap.size 36 obZ.cells.toArray (0, 0) _ (.int .i64 360) rfl rfl hc7.out Tryd.underlying36 rfl (by rw [List.size_toArray, ob_len]; exact ob_sz)) rfl ?_
    exact HP.out w2 w7 HB2.out hg7.out
  have b1 : decide (a < 0) = false := decide_eq_false ha
  by_cases ha2 : (l.length : Int) ≤ a
  · have b2 : decide ((l.length : Int) ≤ a) = true := decide_eq_true ha2
    clear h
    go_enter Tryd.func16, Tryd.ntmps16
    go_upto_region 1 with fail
    change Code.wp _ _ _ _ (w.alloc ZO)
    generalize w.alloc ZO = w0 at *
    go_upto_region 2 with (go_at_call 33; refine HV.out.mono ?_; go_loud (
          rintro e w2 ⟨rfl, hb2⟩
          have HB2 := Lib.hid (below_ext HB.out hb2)
          have HX : Hid (w2.heap[w.heap.size]? = some (.cells obZ.cells.toArray 36 (0, 0))) := H6.out.ext hb2
          have HX2 : Hid (CB w2 w.heap.size 36 obZ.cells) := HX.out
          clear hb2 HB H6))
    go_wp2_with (first
      | (refine wpList_store_ob (hgd := rfl) 36 (.tmp 6) (.tmp 39) rfl w.heap.size obZ rfl rfl 36 _ HX.out rfl ob_sz ?_; intro w7 hc7 hg7 hz7))
    refine bodyPost_ret (v := .tuple #[obZ.v, .int .i64 360]) (results_row2 rfl _ _ w.heap.size 36 obZ.cells.toArray (0, 0) _ (.int .i64 360) rfl rfl hc7.out Tryd.underlying36 rfl (by rw [List.size_toArray, ob_len]; exact ob_sz)) rfl ?_
    exact HP.out w2 w7 HB2.out hg7.out
  have b2 : decide ((l.length : Int) ≤ a) = false := decide_eq_false ha2
  by_cases hs : s < 0
  · have b3 : decide (s < 0) = true := decide_eq_true hs
    clear h
    go_enter Tryd.func16, Tryd.ntmps16
    go_upto_region 1 with fail
    change Code.wp _ _ _ _ (w.alloc ZO)
    generalize w.alloc ZO = w0 at *
    go_upto_region 2 with (go_at_call 33; refine HV.out.mono ?_; go_loud (
          rintro e w2 ⟨rfl, hb2⟩
          have HB2 := Lib.hid (below_ext HB.out hb2)
          have HX : Hid (w2.heap[w.heap.size]? = some (.cells obZ.cells.toArray 36 (0, 0))) := H6.out.ext hb2
          have HX2 : Hid (CB w2 w.heap.size 36 obZ.cells) := HX.out
          clear hb2 HB H6))
    go_wp2_with (first
      | (refine wpList_store_ob (hgd := rfl) 36 (.tmp 6) (.tmp 39) rfl w.heap.size obZ rfl rfl 36 _ HX.out rfl ob_sz ?_; intro w7 hc7 hg7 hz7))
    refine bodyPost_ret (v := .tuple #[obZ.v, .int .i64 360]) (results_row2 rfl _ _ w.heap.size 36 obZ.cells.toArray (0, 0) _ (.int .i64 360) rfl rfl hc7.out Tryd.underlying36 rfl (by rw [List.size_toArray, ob_len]; exact ob_sz)) rfl ?_
    exact HP.out w2 w7 HB2.out hg7.out
  have b3 : decide (s < 0) = false := decide_eq_false hs
  have hl1 := valid_len hv
  obtain ⟨tz, htz⟩ : ∃ t, l[0]? = some t := ⟨_, List.getElem?_eq_getElem (by omega)⟩
  obtain ⟨b, off, rz, rfl, hbz, helz, hrz⟩ := HL.out.el htz
  rw [Nat.zero_mul, Nat.add_zero] at helz
  obtain ⟨-, -, zc3⟩ := el_tb helz
  obtain ⟨za, zf, zo, zm, zc, zs⟩ := rz
  have hzm : zm = tz.costs.length := by
    obtain ⟨_, _, he, _⟩ := hrz.cs.shape
    injection he with _ e2 _
  have hs2 : (zm : Int) ≤ s := by
    rw [hzm]
    refine Classical.byContradiction fun hn => h ?_
    unfold openB
    simp only [Bool.and_eq_true, decide_eq_true_eq, gd htz]
    exact ⟨⟨⟨⟨hv, by omega⟩, by omega⟩, by omega⟩, by omega⟩
  have b4 : decide ((zm : Int) ≤ s) = true := decide_eq_true hs2
  have b0 : (0 : Int) < (l.length : Int) := by omega
  have b0' : 0 < l.length := by omega
  have Z3 : Hid (w.cell? ⟨b, off + 2, none⟩ = some (.slice zo zm zc)) := zc3
  clear h hv hl1 htz hbz helz hrz zc3 hzm
  · skip
    go_enter Tryd.func16, Tryd.ntmps16
    go_upto_region 1 with fail
    change Code.wp _ _ _ _ (w.alloc ZO)
    generalize w.alloc ZO = w0 at *
    go_upto_region 2 with (go_at_call 33; refine HV.out.mono ?_; go_loud (
          rintro e w2 ⟨rfl, hb2⟩
          have HB2 := Lib.hid (below_ext HB.out hb2)
          have HX : Hid (w2.heap[w.heap.size]? = some (.cells obZ.cells.toArray 36 (0, 0))) := H6.out.ext hb2
          have HX2 : Hid (CB w2 w.heap.size 36 obZ.cells) := HX.out
          have z3 := cell_ext HB2.out Z3.out
          clear hb2 HB H6))
    go_wp2_with (first
      | (refine wpList_store_ob (hgd := rfl) 36 (.tmp 6) (.tmp 39) rfl w.heap.size obZ rfl rfl 36 _ HX.out rfl ob_sz ?_; intro w7 hc7 hg7 hz7))
    refine bodyPost_ret (v := .tuple #[obZ.v, .int .i64 360]) (results_row2 rfl _ _ w.heap.size 36 obZ.cells.toArray (0, 0) _ (.int .i64 360) rfl rfl hc7.out Tryd.underlying36 rfl (by rw [List.size_toArray, ob_len]; exact ob_sz)) rfl ?_
    exact HP.out w2 w7 HB2.out hg7.out
set_option maxRecDepth 100000 in
set_option maxHeartbeats 8000000 in
theorem ropen_any_yes (l : List Tab) (i k : Nat) (t : Tab) (c : Int) (v : Value) (w : World) (hl : TabsAt w l v) (hv : validT l = true) (ht : l[i]? = some t) (hc : t.costs[k]? = some c) :
    Calls Tryd.prog 16 #[v, .int .i64 (i : Int), .int .i64 (k : Int)] w (OpenPost l i k w) := by
  obtain ⟨-, ho, he⟩ := open_yes hv ht hc
  have HE := Lib.hid he
  have HO := Lib.hid ho
  have HB := Lib.hid (b_al (w := w) ZO)
  have H6 : Hid (CB (w.alloc ZO) w.heap.size 36 obZ.cells) := cb_one w _ _ _ rfl
  have HV := Lib.hid (rvalid_any l v _ (hl.ext HB.out))
  rw [hv] at HV
  have HL := Lib.hid hl
  obtain ⟨oa, cap, rfl, hlc, hlm⟩ := hl.shape
  have bl : (l.length : Int) ≤ 9223372036854775807 := by omega
  have hil := (List.getElem?_eq_some_iff.1 ht).1
  have hkl := (List.getElem?_eq_some_iff.1 hc).1
  have hl1 := valid_len hv
  obtain ⟨tz, htz⟩ : ∃ t, l[0]? = some t := ⟨_, List.getElem?_eq_getElem (by omega)⟩
  have hlz : t.costs.length = tz.costs.length := by have := (valid_at hv ht).2.2.1; rw [gd htz] at this; exact this
  have hti := valid_tabI hv t (List.mem_of_getElem? ht)
  obtain ⟨b, off, rz, rfl, hbz, helz, hrz⟩ := hl.el htz
  rw [Nat.zero_mul, Nat.add_zero] at helz
  obtain ⟨-, -, zc3⟩ := el_tb helz
  obtain ⟨za, zf, zo, zm, zc, zs⟩ := rz
  have hzm : zm = tz.costs.length := by
    obtain ⟨_, _, he, _⟩ := hrz.cs.shape
    injection he with _ e2 _
  obtain ⟨b', off', r, heq, hbr, hel, hr⟩ := hl.el ht
  obtain ⟨rfl, rfl⟩ : b = b' ∧ off = off' := by injection heq with he; injection he with h1 h2 _; exact ⟨h1, h2⟩
  have b1 : decide ((i : Int) < 0) = false := by simp
  have b2 : decide ((l.length : Int) ≤ (i : Int)) = false := by simp; omega
  have b2' : decide (l.length ≤ i) = false := by simp; omega
  have b3 : decide ((k : Int) < 0) = false := by simp
  have b4 : decide ((zm : Int) ≤ (k : Int)) = false := by simp; omega
  have b4' : decide (zm ≤ k) = false := by simp; omega
  have b0 : (0 : Int) < (l.length : Int) := by omega
  have b0' : 0 < l.length := by omega
  have bi : (i : Int) < (l.length : Int) := by omega
  have bk : (k : Int) < (t.costs.length : Int) := by omega
  have Z3 : Hid (w.cell? ⟨b, off + 2, none⟩ = some (.slice zo zm zc)) := zc3
  have HR := Lib.hid hr
  have HTI := Lib.hid hti
  have HRg : Hid (w.rangeAt b (off + i * 35) r.cells) := el_rng hel
  have Hlv : Hid ((leavesT t).length ≤ 64) := by show _ ≤ _; rw [leavesT_len]; exact hti.few
  have Hkv : Hid (k < (leavesT t).length) := by show _ < _; rw [leavesT_len]; exact hkl
  have Hdl : Hid ((digestsT l).length ≤ 64) := by show _ ≤ _; rw [digestsT_len]; omega
  have Hdi : Hid (i < (digestsT l).length) := by show _ < _; rw [digestsT_len]; exact hil
  have Hvt := Lib.hid (valid_tabI hv)
  have H64 : Hid (l.length ≤ 64) := by show _ ≤ _; omega
  obtain ⟨lv, hlv⟩ : ∃ x, leavesT t = x := ⟨_, rfl⟩
  obtain ⟨dg, hdg⟩ : ∃ x, digestsT l = x := ⟨_, rfl⟩
  obtain ⟨p1, hp1⟩ : ∃ x, pathD lv k = x := ⟨_, rfl⟩
  obtain ⟨p2, hp2⟩ : ∃ x, pathD dg i = x := ⟨_, rfl⟩
  have Hp1 : Hid (p1.length ≤ 100) := by show _ ≤ _; rw [← hp1, pathD_len lv.length lv rfl]; have := firsts_len lv.length k; have := Hlv.out; rw [hlv] at this; omega
  have Hp2 : Hid (p2.length ≤ 100) := by show _ ≤ _; rw [← hp2, pathD_len dg.length dg rfl]; have := firsts_len dg.length i; have := Hdl.out; rw [hdg] at this; omega
  have HLV := Lib.hid hlv; have HDG := Lib.hid hdg; have HP1 := Lib.hid hp1; have HP2 := Lib.hid hp2
  have hra := hr.air; have hrf := hr.fl; have hsa := hr.salt
  obtain ⟨xa, xf, xo, xm, xc, xs⟩ := r
  change xa = t.air at hra; change xf = t.fl at hrf; change xs = t.salt at hsa
  obtain ⟨cb, co, hxo, hxm, hcell⟩ : ∃ cb co, xo = some ⟨cb, co, none⟩ ∧ xm = t.costs.length ∧ w.cell? ⟨cb, co + k, none⟩ = some (.int .i64 c) := by
    have hcs := hr.cs
    change LsAt nuK w.heap.size w t.costs (.slice xo xm xc) at hcs
    obtain ⟨_, _, he, _⟩ := hcs.shape
    injection he with h1 h2 h3
    subst h2 h1 h3
    obtain ⟨cb, co, e, _, hat⟩ := hcs.at hkl
    exact ⟨cb, co, e, rfl, by have := hat k c hc 0 _ rfl; simpa [nuK] using this⟩
  subst hxo hxm
  have C5 := Lib.hid hcell
  have HCB : Hid (cb < w.heap.size) := World.block_lt_of_cell? w _ hcell
  have HXA := Lib.hid hra; have HXF := Lib.hid hrf; have HXS := Lib.hid hsa
  have Hsl : Hid (xs.1.length = 32) := xs.2
  obtain ⟨R0, hR0⟩ : ∃ R : Tb, R = ⟨xa, xf, some ⟨cb, co, none⟩, t.costs.length, xc, xs⟩ := ⟨_, rfl⟩
  have HR0 := Lib.hid hR0
  rw [← hR0] at HR HRg
  clear hl hlc hlm hv ht hc ho he hil hkl hl1 htz hlz hti hbz helz hrz zc3 hzm hbr hel hr hlv hdg hp1 hp2 hra hrf hsa hcell hR0 heq
  go_enter Tryd.func16, Tryd.ntmps16
  go_upto_region 1 with fail
  change Code.wp _ _ _ _ (w.alloc ZO)
  generalize w.alloc ZO = w0 at *
  go_upto_region 6 with (first
    | (go_at_call 33; refine HV.out.mono ?_; go_loud (
        rintro e w2 ⟨rfl, hb2⟩
        have HB2 := Lib.hid (below_ext HB.out hb2)
        have z3 := cell_ext HB2.out Z3.out
        have HO2 := Lib.hid (H6.out.ext hb2)
        have HRg2 : Hid (w2.rangeAt b (off + i * 35) R0.cells) := fun j u hu => cell_ext HB2.out (HRg.out j u hu)
        have HZ : Hid ((w2.alloc ZT).heap[w2.heap.size]? = some (.cells (Tb.cells ⟨0, 0, none, 0, 0, dgZ⟩).toArray 31 (0, 0))) := cb_one w2 ZT _ _ rfl
        clear hb2 HB H6 HV))
    | (with_reducible refine wpList_load_mid rfl 31 (.tmp 42) rfl b (off + i * 35) rfl R0.cells _ HRg2.out Tryd.underlying31 rfl (by rw [tb_len]; exact tb_sz) ?_)
    | ((refine wpList_store_tb (hgd := rfl) 31 (.tmp 8) (.tmp 43) rfl w2.heap.size R0 rfl rfl 31 _ HZ.out rfl tb_sz ?_); go_loud (
        intro w3 hc3 hg3 hz3
        have hb3 : Below w2.heap.size w2 w3 := (b_al (w := w2) ZT).grown hg3.out (by rw [World.size_alloc]; omega) (fun k hk => by injection hk; omega)
        have HB3 := Lib.hid (below_ext HB2.out hb3); have HO3 := Lib.hid (HO2.out.ext hb3)
        have HLv := Lib.hid (rleaves_any t R0 w3 (HR.out.ext HB3.out) HTI.out)
        rw [HLV.out] at HLv
        have HW2 : Hid (w.heap.size < w2.heap.size) := HO2.out.lt
        clear hb3 hg3 hz3 HZ HRg2 HB2 HO2))
    | (with_reducible refine wpList_load_tb (hgd := rfl) 31 (.tmp 8) rfl w2.heap.size R0 rfl 31 _ hc3.out Tryd.underlying31 rfl tb_sz ?_)
    | (go_at_call 40; refine HLv.out.mono ?_; go_loud (
        rintro e w4 ⟨v4, rfl, ho4, hb4⟩
        have HB4 := Lib.hid (below_ext HB3.out hb4); have HO4 := Lib.hid (HO3.out.ext hb4)
        have HT4 : Hid (CB w4 w2.heap.size 31 R0.cells) := hc3.out.ext hb4
        have HPa := Lib.hid (rPath_any lv k v4 w4 (by rw [← HLV.out]; exact Hlv.out) (by rw [← HLV.out]; exact Hkv.out) ho4.rd)
        clear ho4 hb4 HB3 HO3 hc3 HLv))
    | (go_at_call 39; refine HPa.out.mono ?_; go_loud (
        rintro e w5 ⟨v5, rfl, ho5, hb5⟩
        rw [HP1.out] at ho5
        have HB5 := Lib.hid (below_ext HB4.out hb5); have HO5 := Lib.hid (HO4.out.ext hb5); have HT5 := Lib.hid (HT4.out.ext hb5)
        have HQ1 := Lib.hid ho5.rd
        obtain ⟨q1, n1, rfl, _⟩ := ho5.rd.shape
        have HDi := Lib.hid (rdigests_any l _ w5 (HL.out.ext HB5.out) Hvt.out H64.out)
        rw [HDG.out] at HDi
        clear ho5 hb5 HB4 HO4 HT4 HPa))
    | (go_at_call 35; refine HDi.out.mono ?_; go_loud (
        rintro e w6 ⟨v6, rfl, ho6, hb6⟩
        have HB6 := Lib.hid (below_ext HB5.out hb6); have HO6 := Lib.hid (HO5.out.ext hb6); have HT6 := Lib.hid (HT5.out.ext hb6)
        have HQ6 := Lib.hid (HQ1.out.ext hb6)
        have HPb := Lib.hid (rPath_any dg i v6 w6 (by rw [← HDG.out]; exact Hdl.out) (by rw [← HDG.out]; exact Hdi.out) ho6.rd)
        clear ho6 hb6 HB5 HO5 HT5 HQ1 HDi))
    | (go_at_call 39; refine HPb.out.mono ?_; go_loud (
        rintro e w7 ⟨v7, rfl, ho7, hb7⟩
        rw [HP2.out] at ho7
        have HB7 := Lib.hid (below_ext HB6.out hb7); have HO7 := Lib.hid (HO6.out.ext hb7); have HT7 := Lib.hid (HT6.out.ext hb7)
        have HQ7 := Lib.hid (HQ6.out.ext hb7)
        have HS7 := Lib.hid ho7.rd
        obtain ⟨q2, n2, rfl, _⟩ := ho7.rd.shape
        clear ho7 hb7 HB6 HO6 HT6 HQ6 HPb)))
  clear z3
  generalize w2.heap.size = gt at *
  have f1 := (tb_cell HT7.out).1; have f2 := (tb_cell HT7.out).2.1; have f3 := (tb_cell HT7.out).2.2
  have f4 := tb_salt HT7.out
  have f5 := cell_ext HB7.out C5.out
  rw [HR0.out] at f1 f2 f3 f4
  change w7.cell? ⟨gt, 0, none⟩ = some (.int .i64 xa) at f1
  change w7.cell? ⟨gt, 1, none⟩ = some (.int .i64 xf) at f2
  change w7.cell? ⟨gt, 2, none⟩ = some (.slice (some ⟨cb, co, none⟩) t.costs.length xc) at f3
  change w7.rangeAt gt 3 (bcells xs.1) at f4
  have F1 := Lib.hid f1; have F2 := Lib.hid f2; have F3 := Lib.hid f3; have F4 := Lib.hid f4; have F5 := Lib.hid f5
  clear f1 f2 f3 f4 f5
  have KB := Lib.hid HB7.out.drew; have KO := Lib.hid (HO7.out.ext (Below.refl w7.heap.size w7).drew); have KQ := Lib.hid (HQ7.out.ext (Below.refl w7.heap.size w7).drew); have KS := Lib.hid (HS7.out.ext (Below.refl w7.heap.size w7).drew)
  have d1 := Lib.hid (cell_ext (Below.refl w7.heap.size w7).drew F1.out)
  have d2 := Lib.hid (cell_ext (Below.refl w7.heap.size w7).drew F2.out)
  have d3 := Lib.hid (cell_ext (Below.refl w7.heap.size w7).drew F3.out)
  have d5 := Lib.hid (cell_ext (Below.refl w7.heap.size w7).drew F5.out)
  have d4 : Hid (w7.drew.rangeAt gt 3 (bcells xs.1)) := F4.out
  refine wp_region_held_drew (S := fun w' => w'.cell? ⟨gt, 0, none⟩ = some (.int .i64 xa) ∧ w'.cell? ⟨gt, 1, none⟩ = some (.int .i64 xf) ∧ w'.cell? ⟨gt, 2, none⟩ = some (.slice (some ⟨cb, co, none⟩) t.costs.length xc) ∧ w'.rangeAt gt 3 (bcells xs.1) ∧ w'.cell? ⟨cb, co + k, none⟩ = some (.int .i64 c)) (by kernel_rfl) ⟨d1.out, d2.out, d3.out, d4.out, d5.out⟩ (fun hHeld => ?_)
  clear HB7 HO7 HQ7 HS7 HT7 F1 F2 F3 F4 F5
  generalize w7.drew = w8 at *
  refine take_dst (some 58) (i := 0) (v := ?vL0) rfl rfl (by kernel_rfl) (by kernel_rfl) (by kernel_rfl) (fun _ _ _ h => h) (Or.inl ⟨by rfl, fun wS hSw => ?hyL0⟩) (by assumption) ?restL0
  case hyL0 => (obtain ⟨s1, s2, s3, s4, s5⟩ := hSw; go_simp; first | done | with_reducible rfl)
  try simp only [Act.put, List.setIfInBounds_toArray, List.set_cons_zero, List.set_cons_succ]
  refine take_dst (some 59) (i := 1) (v := ?vL1) rfl rfl (by kernel_rfl) (by kernel_rfl) (by kernel_rfl) (fun _ _ _ h => h) (Or.inl ⟨by rfl, fun wS hSw => ?hyL1⟩) (by assumption) ?restL1
  case hyL1 => (obtain ⟨s1, s2, s3, s4, s5⟩ := hSw; go_simp; first | done | with_reducible rfl)
  try simp only [Act.put, List.setIfInBounds_toArray, List.set_cons_zero, List.set_cons_succ]
  refine take_dst (some 60) (i := 2) (v := ?vL2) rfl rfl (by kernel_rfl) (by kernel_rfl) (by kernel_rfl) (fun _ _ _ h => h) (Or.inl ⟨by rfl, fun wS hSw => ?hyL2⟩) (by assumption) ?restL2
  case hyL2 => (obtain ⟨s1, s2, s3, s4, s5⟩ := hSw; go_simp; first | done | with_reducible rfl)
  try simp only [Act.put, List.setIfInBounds_toArray, List.set_cons_zero, List.set_cons_succ]
  refine take_dst (some 61) (i := 3) (v := ?vL3) rfl rfl (by kernel_rfl) (by kernel_rfl) (by kernel_rfl) (fun _ _ _ h => h) (Or.inl ⟨by rfl, fun wS hSw => ?hyL3⟩) (by assumption) ?restL3
  case hyL3 => (obtain ⟨s1, s2, s3, s4, s5⟩ := hSw; go_simp; first | done | with_reducible rfl)
  try simp only [Act.put, List.setIfInBounds_toArray, List.set_cons_zero, List.set_cons_succ]
  refine take_dst (some 62) (i := 4) (v := ?vL4) rfl rfl (by kernel_rfl) (by kernel_rfl) (by kernel_rfl) (fun _ _ _ h => h) (Or.inl ⟨by rfl, fun wS hSw => ?hyL4⟩) (by assumption) ?restL4
  case hyL4 => (obtain ⟨s1, s2, s3, s4, s5⟩ := hSw; go_simp; first | done | with_reducible rfl)
  try simp only [Act.put, List.setIfInBounds_toArray, List.set_cons_zero, List.set_cons_succ]
  refine take_dst (some 63) (i := 5) (v := ?vL5) rfl rfl (by kernel_rfl) (by kernel_rfl) (by kernel_rfl) (fun _ _ _ h => h) (Or.inl ⟨by rfl, fun wS hSw => ?hyL5⟩) (by assumption) ?restL5
  case hyL5 => (obtain ⟨s1, s2, s3, s4, s5⟩ := hSw; go_simp; first | done | with_reducible rfl)
  try simp only [Act.put, List.setIfInBounds_toArray, List.set_cons_zero, List.set_cons_succ]
  refine take_dst (some 64) (i := 6) (v := ?vL6) rfl rfl (by kernel_rfl) (by kernel_rfl) (by kernel_rfl) (fun _ _ _ h => h) (Or.inl ⟨by rfl, fun wS hSw => ?hyL6⟩) (by assumption) ?restL6
  case hyL6 => (obtain ⟨s1, s2, s3, s4, s5⟩ := hSw; go_simp; first | done | with_reducible rfl)
  try simp only [Act.put, List.setIfInBounds_toArray, List.set_cons_zero, List.set_cons_succ]
  refine take_dst (some 65) (i := 7) (v := ?vL7) rfl rfl (by kernel_rfl) (by kernel_rfl) (by kernel_rfl) (fun _ _ _ h => h) (Or.inl ⟨by rfl, fun wS hSw => ?hyL7⟩) (by assumption) ?restL7
  case hyL7 => (obtain ⟨s1, s2, s3, s4, s5⟩ := hSw; go_simp; first | done | with_reducible rfl)
  try simp only [Act.put, List.setIfInBounds_toArray, List.set_cons_zero, List.set_cons_succ]
  refine take_dst (some 66) (i := 8) (v := ?vL8) rfl rfl (by kernel_rfl) (by kernel_rfl) (by kernel_rfl) (fun _ _ _ h => h) (Or.inl ⟨by rfl, fun wS hSw => ?hyL8⟩) (by assumption) ?restL8
  case hyL8 => (obtain ⟨s1, s2, s3, s4, s5⟩ := hSw; go_simp; first | done | with_reducible rfl)
  try simp only [Act.put, List.setIfInBounds_toArray, List.set_cons_zero, List.set_cons_succ]
  refine take_dst (some 67) (i := 9) (v := ?vL9) rfl rfl (by kernel_rfl) (by kernel_rfl) (by kernel_rfl) (fun _ _ _ h => h) (Or.inl ⟨by rfl, fun wS hSw => ?hyL9⟩) (by assumption) ?restL9
  case hyL9 => (obtain ⟨s1, s2, s3, s4, s5⟩ := hSw; go_simp; first | done | with_reducible rfl)
  try simp only [Act.put, List.setIfInBounds_toArray, List.set_cons_zero, List.set_cons_succ]
  refine take_dst (some 68) (i := 10) (v := ?vL10) rfl rfl (by kernel_rfl) (by kernel_rfl) (by kernel_rfl) (fun _ _ _ h => h) (Or.inl ⟨by rfl, fun wS hSw => ?hyL10⟩) (by assumption) ?restL10
  case hyL10 => (obtain ⟨s1, s2, s3, s4, s5⟩ := hSw; go_simp; first | done | with_reducible rfl)
  try simp only [Act.put, List.setIfInBounds_toArray, List.set_cons_zero, List.set_cons_succ]
  refine take_dst (some 69) (i := 11) (v := dv xs.1) rfl rfl (by kernel_rfl) (by kernel_rfl) (by kernel_rfl) (fun _ _ _ h => h) (yieldsIf_load_mid (by rfl) 29 _ rfl gt 3 rfl (bcells xs.1) _ (fun wS hSw => by obtain ⟨s1, s2, s3, s4, s5⟩ := hSw; exact s4) Tryd.underlying29 rfl (by rw [bcells_length, Hsl.out]; exact dig_sz)) (by assumption) ?restL11
  try simp only [Act.put, List.setIfInBounds_toArray, List.set_cons_zero, List.set_cons_succ]
  refine take_dst (some 71) (i := 13) (v := ?vL13) rfl rfl (by kernel_rfl) (by kernel_rfl) (by kernel_rfl) (fun _ _ _ h => h) (Or.inl ⟨by rfl, fun wS hSw => ?hyL13⟩) (by assumption) ?restL13
  case hyL13 => (obtain ⟨s1, s2, s3, s4, s5⟩ := hSw; go_simp; first | done | with_reducible rfl)
  try simp only [Act.put, List.setIfInBounds_toArray, List.set_cons_zero, List.set_cons_succ]
  refine take_dst (some 73) (i := 15) (v := ?vL15) rfl rfl (by kernel_rfl) (by kernel_rfl) (by kernel_rfl) (fun _ _ _ h => h) (Or.inl ⟨by rfl, fun wS hSw => ?hyL15⟩) (by assumption) ?restL15
  case hyL15 => (obtain ⟨s1, s2, s3, s4, s5⟩ := hSw; go_simp; first | done | with_reducible rfl)
  try simp only [Act.put, List.setIfInBounds_toArray, List.set_cons_zero, List.set_cons_succ]
  refine wpAnyH_ready (rs := [12]) (by kernel_rfl) (by simp) ?_
  refine AllReadyH.cons rfl (fun K hK => ?_) AllReadyH.nil
  go_simp
  have AL := b_al (w := w8) (.cells #[] 29)
  have KB9 := Lib.hid (below_ext KB.out AL); have KO9 := Lib.hid (KO.out.ext AL); have KQ9 := Lib.hid (KQ.out.keep (Nat.le_refl _) AL.block); have KS9 := Lib.hid (KS.out.keep (Nat.le_refl _) AL.block)
  have hG8 := World.block_lt_of_cell? w8 _ d1.out; have hC8 := World.block_lt_of_cell? w8 _ d5.out; have hO8 := KO.out.lt
  have KW9 := Lib.hid (OwnK.made (K := digK) 29 w8.heap.size w8 (Nat.le_refl _))
  have HBs : Hid (w8.heap.size ≤ (w8.alloc (.cells #[] 29)).heap.size) := AL.size
  have HW8 : Hid (w.heap.size ≤ w8.heap.size) := KB.out.size
  have e1 := Lib.hid (cell_ext AL d1.out)
  have e2 := Lib.hid (cell_ext AL d2.out)
  have e3 := Lib.hid (cell_ext AL d3.out)
  have e5 := Lib.hid (cell_ext AL d5.out)
  have e4 : Hid ((w8.alloc (.cells #[] 29)).rangeAt gt 3 (bcells xs.1)) := fun i u hu => cell_ext AL (d4.out i u hu)
  clear AL KB KO KQ KS d1 d2 d3 d4 d5
  refine hK.out _ _ ⟨e1.out, e2.out, e3.out, e4.out, e5.out⟩ (fun hHeld => ?_)
  clear hK K
  try simp only [Act.put, List.setIfInBounds_toArray, List.set_cons_zero, List.set_cons_succ]
  generalize (w8.alloc (.cells #[] 29)) = w9 at *
  generalize w8.heap.size = B8 at *
  refine wpAnyH_ready (rs := [14]) (by kernel_rfl) (by simp) ?_
  refine AllReadyH.cons rfl (fun K hK => ?_) AllReadyH.nil
  refine step_append_x (e := 29) (z := .agg (bcells dgZ.1).toArray) (size := 32) (bytes := 32) Tryd.underlying34 dig_info2 rfl rfl _ _ rfl B8 _ 0 (digK.flat []) rfl KW9.out _ p1.length (digK.flat p1) rfl ((KQ9.out.keep HBs.out (fun _ _ => rfl)).src Tryd.underlying34) (by have := Hp1.out; have := Hp2.out; unfold maxLen; omega) (by have := Hp1.out; have := Hp2.out; omega) HBs.out ?_
  intro v10 w10 ho10 hg10 hn10
  have KW10 : Hid (OwnK digK 29 w10 B8 v10 p1) := OwnK.append (K := digK) (a := []) ho10 (by simp)
  have KB10 := Lib.hid (below_ownK KB9.out KW9.out hg10 HW8.out); have KO10 := Lib.hid (KO9.out.own KW9.out hg10 hO8)
  have KS10 := Lib.hid (KS9.out.own KW9.out hg10 (Nat.le_refl _) HBs.out)
  have h1 := Lib.hid (cell_own KW9.out hg10 hG8 e1.out)
  have h2 := Lib.hid (cell_own KW9.out hg10 hG8 e2.out)
  have h3 := Lib.hid (cell_own KW9.out hg10 hG8 e3.out)
  have h5 := Lib.hid (cell_own KW9.out hg10 hC8 e5.out)
  have h4 : Hid (w10.rangeAt gt 3 (bcells xs.1)) := fun i u hu => cell_own KW9.out hg10 hG8 (e4.out i u hu)
  replace HBs : Hid (B8 ≤ w10.heap.size) := Nat.le_trans HBs.out hg10.size
  obtain ⟨q10, n10, he10, _⟩ := KW10.out.rd.shape
  subst he10
  clear ho10 hg10 hn10 KB9 KO9 KS9 KW9 e1 e2 e3 e4 e5 KQ9
  refine hK.out (Act.put _ (some 72) _) w10 ⟨h1.out, h2.out, h3.out, h4.out, h5.out⟩ (fun hHeld => ?_)
  clear hK K
  try simp only [Act.put, List.setIfInBounds_toArray, List.set_cons_zero, List.set_cons_succ]
  refine wpAnyH_ready (rs := [16]) (by kernel_rfl) (by simp) ?_
  refine AllReadyH.cons rfl (fun K hK => ?_) AllReadyH.nil
  refine step_append_x (e := 29) (z := .agg (bcells dgZ.1).toArray) (size := 32) (bytes := 32) Tryd.underlying34 dig_info2 rfl rfl _ _ rfl B8 _ p1.length (digK.flat p1) rfl KW10.out _ p2.length (digK.flat p2) rfl ((KS10.out.keep HBs.out (fun _ _ => rfl)).src Tryd.underlying34) (by have := Hp1.out; have := Hp2.out; unfold maxLen; omega) (by have := Hp1.out; have := Hp2.out; omega) HBs.out ?_
  intro v11 w11 ho11 hg11 hn11
  have KW11 : Hid (OwnK digK 29 w11 B8 v11 (p1 ++ p2)) := OwnK.append (K := digK) ho11 (by simp)
  have KB11 := Lib.hid (below_ownK KB10.out KW10.out hg11 HW8.out); have KO11 := Lib.hid (KO10.out.own KW10.out hg11 hO8)
  have KS11 := Lib.hid (KS10.out.own KW10.out hg11 (Nat.le_refl _) HBs.out)
  have g1 := Lib.hid (cell_own KW10.out hg11 hG8 h1.out)
  have g2 := Lib.hid (cell_own KW10.out hg11 hG8 h2.out)
  have g3 := Lib.hid (cell_own KW10.out hg11 hG8 h3.out)
  have g5 := Lib.hid (cell_own KW10.out hg11 hC8 h5.out)
  have g4 : Hid (w11.rangeAt gt 3 (bcells xs.1)) := fun i u hu => cell_own KW10.out hg11 hG8 (h4.out i u hu)
  replace HBs : Hid (B8 ≤ w11.heap.size) := Nat.le_trans HBs.out hg11.size
  obtain ⟨q3, n3, he3, _⟩ := KW11.out.rd.shape
  obtain ⟨m3, hm3⟩ : ∃ m, (p1 ++ p2).length = m := ⟨_, rfl⟩
  rw [hm3] at he3
  subst he3
  clear hm3
  clear ho11 hg11 hn11 KB10 KO10 KS10 KW10 h1 h2 h3 h4 h5
  refine hK.out (Act.put _ (some 74) _) w11 ⟨g1.out, g2.out, g3.out, g4.out, g5.out⟩ (fun hHeld => ?_)
  clear hK K
  try simp only [Act.put, List.setIfInBounds_toArray, List.set_cons_zero, List.set_cons_succ]
  have HV2 := Lib.hid KW11.out
  have HLt : Hid (w.heap.size < B8) := hO8
  obtain ⟨RB, hRB⟩ : ∃ RB : Ob, RB = ⟨xa, xf, (k : Int), c, xs, q3, m3, n3⟩ := ⟨_, rfl⟩
  refine take_dst (some 75) (i := 17) (v := RB.v) rfl rfl (by kernel_rfl) (by kernel_rfl) (by kernel_rfl) (fun _ _ _ h => h) (yields_build_seq (by rfl) 36 _ rfl RB.cells ob_places ob_zero _ ?hps (ob_seq RB) (ob_flat RB) (ob_len _)) (by assumption) ?restB
  case hps => (rw [hRB]; simp; refine ⟨?_, ?_, ?_, ?_, ?_, ?_⟩ <;> rfl)
  try simp only [Act.put, List.setIfInBounds_toArray, List.set_cons_zero, List.set_cons_succ]
  obtain ⟨z1, z2, z3⟩ := setRow_ob (r := RB) KO11.out
  refine wpAnyH_ready (rs := [18]) (by kernel_rfl) (by simp) ?_
  refine AllReadyH.cons rfl (fun K hK => ?_) AllReadyH.nil
  rw [if_pos (by rfl)]
  refine wp_store_row 36 (.tmp 6) (.tmp 75) rfl w.heap.size RB.cells.toArray rfl rfl 36 obZ.cells.toArray KO11.out (by rw [List.size_toArray, ob_len]; exact ob_sz) (by rw [List.size_toArray, List.size_toArray, ob_len, ob_len]) (ob_all RB) ?_
  have n1 : gt ≠ w.heap.size := by have := HW2.out; omega
  have n2 : cb ≠ w.heap.size := by have := HCB.out; omega
  refine hK.out _ _ ⟨cell_apart z2 n1 g1.out, cell_apart z2 n1 g2.out, cell_apart z2 n1 g3.out, fun i u hu => cell_apart z2 n1 (g4.out i u hu), cell_apart z2 n2 g5.out⟩ (fun hHeld => ?_)
  clear hK K
  try simp only [Act.put, List.setIfInBounds_toArray]
  refine take_dst (some 7) (i := 19) (v := ?vL19) rfl rfl (by kernel_rfl) (by kernel_rfl) (by kernel_rfl) (fun _ _ _ h => h) (Or.inl ⟨by rfl, fun wS hSw => ?hyL19⟩) (by assumption) ?restL19
  case hyL19 => (obtain ⟨s1, s2, s3, s4, s5⟩ := hSw; go_simp; first | done | with_reducible rfl)
  try simp only [Act.put]
  refine wpAnyH_done (by kernel_rfl) ?_ _
  have HBE : Hid (Below w.heap.size w (w11.setRow w.heap.size RB.cells.toArray)) := KB11.out.grown z2 KB11.out.size (fun q e => by injection e; omega)
  have HVE : Hid (LsAt digK (w11.setRow w.heap.size RB.cells.toArray).heap.size (w11.setRow w.heap.size RB.cells.toArray) (p1 ++ p2) (.slice q3 m3 n3)) := (HV2.out.keepR z2 (.inr (HV2.out.far HLt.out))).rd
  have HZ1 := Lib.hid z1
  generalize w11.setRow w.heap.size RB.cells.toArray = wE at *
  clear z1 z2 z3 g1 g2 g3 g4 g5 hHeld KB11 KO11
  go_wp2_with fail
  refine bodyPost_ret (v := .tuple #[RB.v, .int .i64 0]) (results_row2 rfl _ _ w.heap.size 36 RB.cells.toArray (0, 0) _ (.int .i64 0) rfl rfl HZ1.out Tryd.underlying36 rfl (by rw [List.size_toArray, ob_len]; exact ob_sz)) rfl ?_
  refine ⟨RB, by rw [HE.out], ?_, HBE.out⟩
  rw [HO.out, HLV.out, HDG.out, HP1.out, HP2.out]
  subst hRB
  exact ⟨HXA.out, HXF.out, rfl, rfl, HXS.out, HVE.out⟩
end Go.Proofs.YtbonebmboolemaaDoor
/- openings that are refused, plain. -/
namespace Go.Proofs.YtbonebmboolemaaDoor
open Go.RowKit
theorem ver_pre {d : Dg} {air t s : Int} {o : Opn} (h : preV air t s o = false) : verB d air t s o = false := by unfold verB; rw [h]; rfl
theorem pre_air {air t s : Int} {o : Opn} (h : o.air ≠ air) : preV air t s o = false := by rw [Bool.eq_false_iff]; intro e; have := pre_parts e; exact h this.2.2.2.2.1
theorem pre_slot {air t s : Int} {o : Opn} (h : s ≤ o.slot) : preV air t s o = false := by rw [Bool.eq_false_iff]; intro e; have := (pre_parts e).2.2.2.2.2.2.2.1; omega
theorem pre_cost {air t s : Int} {o : Opn} (h : o.cost < -1) : preV air t s o = false := by
  rw [Bool.eq_false_iff]; intro e; have := (pre_parts e).2.2.2.2.2.2.2.2
  unfold costB at this
  simp only [Bool.and_eq_true, decide_eq_true_eq] at this
  omega
theorem pre_tables {air t s : Int} {o : Opn} (h : 8 < t) : preV air t s o = false := by rw [Bool.eq_false_iff]; intro e; have := (pre_parts e).2.1; omega
theorem pre_slots {air t s : Int} {o : Opn} (h : 8 < s) : preV air t s o = false := by rw [Bool.eq_false_iff]; intro e; have := (pre_parts e).2.2.2.1; omega
/-- with two, four .. tables the paths of a slot have one length -/
theorem ver_path {d : Dg} {air s : Int} {j : Nat} {o : Opn} (h : verB d air ((2 ^ j : Nat) : Int) s o = true) : o.path.length = (firsts s.toNat o.slot.toNat).length + j := by
  unfold verB at h
  rw [Bool.and_eq_true] at h
  obtain ⟨k, a, hk, ha, h1, h2, -⟩ := found_parts h.2
  rw [Int.toNat_natCast] at ha h2
  rw [firsts_full j a ha, List.length_drop] at h2
  omega
theorem pow_of {n : Nat} (h : n = 1 ∨ n = 2 ∨ n = 4 ∨ n = 8) : ∃ j, n = 2 ^ j := by
  rcases h with h | h | h | h
  · exact ⟨0, h⟩
  · exact ⟨1, h⟩
  · exact ⟨2, h⟩
  · exact ⟨3, h⟩
/-- a path of another length is refused -/
theorem ver_other {d d' : Dg} {air air' s : Int} {n : Nat} {o p : Opn} (hn : n = 1 ∨ n = 2 ∨ n = 4 ∨ n = 8) (h : verB d air n s o = true) (hs : p.slot = o.slot) (hl : p.path.length ≠ o.path.length) : verB d' air' n s p = false := by
  obtain ⟨j, rfl⟩ := pow_of hn
  rw [Bool.eq_false_iff]
  intro hp
  have h1 := ver_path h; have h2 := ver_path hp
  rw [hs] at h2
  exact hl (h2.trans h1.symm)
end Go.Proofs.YtbonebmboolemaaDoor
