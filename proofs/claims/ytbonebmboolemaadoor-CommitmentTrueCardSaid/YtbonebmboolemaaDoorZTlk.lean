/- the law's collide: two inputs with one hash on two ways (printed by gen36v2.py). -/
import Derived.Test.YtbonebmboolemaaDoorZTlc
import Derived.Deep.DeepCutAuto
namespace Go.Proofs.YtbonebmboolemaaDoor
open Go.RowKit
theorem str_beq (a b : List UInt8) : ((⟨a.toArray⟩ : ByteArray).toList == (⟨b.toArray⟩ : ByteArray).toList) = decide (a = b) := by
  rw [ByteArray.toList_eq, ByteArray.toList_eq]
  by_cases h : a = b
  · subst h; simp
  · rw [decide_eq_false h]; simpa using h
/-- steps that are small -/
def SmallS (l : List Stp) : Prop := ∀ s ∈ l, s.1.length ≤ 1000 ∧ s.2.length ≤ 10000
def ColRel (l m : List Stp) (w : World) (vi : Value) (wr : World) : Prop := ∃ i : Nat, vi = .int .i64 (i : Int) ∧ i ≤ l.length ∧ (∀ j, j < i → colAt l m j = false) ∧ Below w.heap.size w wr
theorem col_at {l m : List Stp} {i : Nat} {x y : Stp} (hx : l[i]? = some x) (hy : m[i]? = some y) (ht : x.1 = y.1) : colAt l m i = (!decide (x.2 = y.2) && decide (hashS x = hashS y)) := by
  unfold colAt; rw [hx, hy]; simp [ht]
theorem col_yes {l m : List Stp} {i : Nat} (hi : i < l.length) (h : colAt l m i = true) : colB l m = true := by
  unfold colB; rw [List.any_eq_true]; exact ⟨i, List.mem_range.2 hi, h⟩
theorem col_no {l m : List Stp} (h : ∀ j, j < l.length → colAt l m j = false) : colB l m = false := by
  unfold colB; rw [List.any_eq_false]
  intro j hj; rw [h j (List.mem_range.1 hj)]; simp
theorem hash_dec (x y : Stp) : decide ((hashS x).1 = (hashS y).1) = decide (hashS x = hashS y) := by
  by_cases h : hashS x = hashS y
  · rw [h]; simp
  · rw [decide_eq_false h, decide_eq_false (fun e => h (Subtype.ext e))]
set_option maxRecDepth 100000 in
set_option maxHeartbeats 8000000 in
theorem collide_any (l m : List Stp) (vl vm : Value) (w : World) (hl : LsAt stK w.heap.size w l vl) (hm : LsAt stK w.heap.size w m vm) (ht : l.map (·.1) = m.map (·.1)) (hlen : l.length ≤ 1000) (hsl : SmallS l) (hsm : SmallS m) (hLd : Laid w) :
    Calls Tryd.prog 21 #[vl, vm] w fun e w' => e = .returned (.bool (colB l m)) ∧ Below w.heap.size w w' := by
  have hlm : l.length = m.length := by have := congrArg List.length ht; simpa using this
  have HL := Lib.hid hl; have HM := Lib.hid hm; have HLd := Lib.hid hLd; have HT := Lib.hid ht; have HSL := Lib.hid hsl; have HSM := Lib.hid hsm
  obtain ⟨oa, ca, rfl, -⟩ := hl.shape
  obtain ⟨ob, cb, rfl, -⟩ := hm.shape
  have HLM := Lib.hid hlm
  have bl : (l.length : Int) ≤ 1000 := by omega
  obtain ⟨n, hn⟩ : ∃ n, l.length = n := ⟨_, rfl⟩
  rw [hn] at bl hlm HLM
  have HN := Lib.hid hn
  rw [hn, ← hlm]
  rw [hn] at HL
  rw [← hlm] at HM
  clear hl hm ht hsl hsm hLd hlen hn hlm
  go_enter Tryd.func21, Tryd.ntmps21
  go_wp2_with fail
  go_loopw [8] (fun vi wr => ColRel l m w vi wr) (fun vi _ => n - natOf vi)
  case atStart => exact ⟨0, rfl, by omega, fun j h => by omega, Below.refl _ _⟩
  case round =>
    obtain ⟨i, rfl, hi, hno, hb⟩ := hrel
    have HNO := Lib.hid hno; have HB := Lib.hid hb
    clear hno hb
    rw [HN.out] at hi
    by_cases hlt : i < n
    case neg =>
      obtain rfl : i = n := by omega
      have tj : decide ((i : Int) < (i : Int)) = false := by simp
      go_wp2_with fail
      go_ret
      exact ⟨by rw [col_no (fun j hj => HNO.out j (by rw [← HN.out]; exact hj))]; rfl, HB.out⟩
    case pos =>
    have tj : decide ((i : Int) < (n : Int)) = true := by simp; omega
    have tj' : decide (i < n) = true := by simp; omega
    have kb : (i : Int) < (n : Int) := by omega
    obtain ⟨x, hx⟩ : ∃ x, l[i]? = some x := ⟨_, List.getElem?_eq_getElem (by rw [HN.out]; exact hlt)⟩
    obtain ⟨y, hy⟩ : ∃ y, m[i]? = some y := ⟨_, List.getElem?_eq_getElem (by rw [← HLM.out]; exact hlt)⟩
    have hxy : x.1 = y.1 := by
      have := congrArg (fun q => q[i]?) HT.out
      simpa [hx, hy] using this
    have hca := col_at hx hy hxy
    obtain ⟨sx1, sx2⟩ := HSL.out x (List.mem_of_getElem? hx)
    obtain ⟨-, sy2⟩ := HSM.out y (List.mem_of_getElem? hy)
    have hL1 := HL.out; have hM1 := HM.out
    rw [show n = l.length from HN.out.symm] at hL1
    rw [show n = m.length from HLM.out] at hM1
    obtain ⟨lb, lo, rfl, -, hel⟩ := hL1.at (k := i) (by rw [HN.out]; exact hlt)
    obtain ⟨mb, mo, rfl, -, hem⟩ := hM1.at (k := i) (by rw [← HLM.out]; exact hlt)
    have hel := hel i x hx; have hem := hem i y hy
    obtain ⟨xt, xi⟩ := x
    obtain ⟨yt, yi⟩ := y
    change xt = yt at hxy
    subst hxy
    change xt.length ≤ 1000 at sx1
    change xi.length ≤ 10000 at sx2
    change yi.length ≤ 10000 at sy2
    have C1 : Hid (w.cell? ⟨lb, lo + i * 2, none⟩ = some (.string ⟨xt.toArray⟩)) := hel 0 _ rfl
    have C2 : Hid (w.cell? ⟨lb, lo + i * 2 + 1, none⟩ = some (.string ⟨xi.toArray⟩)) := hel 1 _ rfl
    have C3 : Hid (w.cell? ⟨mb, mo + i * 2, none⟩ = some (.string ⟨xt.toArray⟩)) := hem 0 _ rfl
    have C4 : Hid (w.cell? ⟨mb, mo + i * 2 + 1, none⟩ = some (.string ⟨yi.toArray⟩)) := hem 1 _ rfl
    have Hca := Lib.hid hca; have Hsx := Lib.hid (And.intro sx1 (And.intro sx2 sy2))
    have Hlt := Lib.hid hlt; have Hii : Hid (i < l.length) := by show _ < _; rw [HN.out]; exact hlt
    have hhd := Lib.hid (hash_dec (xt, xi) (xt, yi))
    have dx := (hashS (xt, xi)).2; have dy := (hashS (xt, yi)).2
    have hxx : tagged xt xi = (hashS (xt, xi)).1 := rfl
    have hyy : tagged xt yi = (hashS (xt, yi)).1 := rfl
    obtain ⟨p, hp⟩ : ∃ p, (hashS (xt, xi)).1 = p := ⟨_, rfl⟩
    obtain ⟨q, hq⟩ : ∃ q, (hashS (xt, yi)).1 = q := ⟨_, rfl⟩
    have Hca2 : Hid (colAt l m i = (!decide (xi = yi) && decide (p = q))) := by show _ = _; rw [Hca.out, ← hhd.out, hp, hq]
    rw [hp] at dx hxx; rw [hq] at dy hyy
    have Hp := Lib.hid dx; have Hq := Lib.hid dy; have HX := Lib.hid hxx; have HY := Lib.hid hyy
    clear hx hy hca sx1 sx2 sy2 hel hem hlt hi hL1 hM1 dx dy hxx hyy hp hq hhd Hca
    go_upto_region 4 with fail
    have hbd : Hid (Below wr.heap.size wr wr.drew) := (Below.refl wr.heap.size wr).drew
    refine wp_region_held_drew (S := fun w' => Below wr.heap.size wr w') (by kernel_rfl) hbd.out (fun hHeld => ?_)
    have HBW := hbd
    have HD1 := Lib.hid (cell_ext HB.out C1.out); have HD2 := Lib.hid (cell_ext HB.out C2.out); have HD3 := Lib.hid (cell_ext HB.out C3.out); have HD4 := Lib.hid (cell_ext HB.out C4.out)
    clear C1 C2 C3 C4 hbd
    generalize wr.drew = wd at *
    refine take_dst (some 11) (i := 0) (v := ?vt0) rfl rfl (by kernel_rfl) (by kernel_rfl) (by kernel_rfl) (fun _ _ _ h => h) (Or.inl ⟨by rfl, fun wS hSw => ?hyt0⟩) (by assumption) ?restt0
    case hyt0 => (go_simp; first | done | with_reducible rfl)
    try simp only [Act.put, List.setIfInBounds_toArray, List.set_cons_zero, List.set_cons_succ]
    refine take_dst (some 12) (i := 1) (v := ?vt1) rfl rfl (by kernel_rfl) (by kernel_rfl) (by kernel_rfl) (fun _ _ _ h => h) (Or.inl ⟨by rfl, fun wS hSw => ?hyt1⟩) (by assumption) ?restt1
    case hyt1 => (go_simp; first | done | with_reducible rfl)
    try simp only [Act.put, List.setIfInBounds_toArray, List.set_cons_zero, List.set_cons_succ]
    refine take_dst (some 13) (i := 2) (v := ?vt2) rfl rfl (by kernel_rfl) (by kernel_rfl) (by kernel_rfl) (fun _ _ _ h => h) (Or.inl ⟨by rfl, fun wS hSw => ?hyt2⟩) (by assumption) ?restt2
    case hyt2 => (go_simp; first | done | with_reducible rfl)
    try simp only [Act.put, List.setIfInBounds_toArray, List.set_cons_zero, List.set_cons_succ]
    refine take_dst (some 14) (i := 3) (v := ?vt3) rfl rfl (by kernel_rfl) (by kernel_rfl) (by kernel_rfl) (fun _ _ _ h => h) (Or.inl ⟨by rfl, fun wS hSw => ?hyt3⟩) (by assumption) ?restt3
    case hyt3 => (go_simp; first | done | with_reducible rfl)
    try simp only [Act.put, List.setIfInBounds_toArray, List.set_cons_zero, List.set_cons_succ]
    refine take_dst (some 15) (i := 4) (v := ?vt4) rfl rfl (by kernel_rfl) (by kernel_rfl) (by kernel_rfl) (fun _ _ _ h => h) (Or.inl ⟨by rfl, fun wS hSw => ?hyt4⟩) (by assumption) ?restt4
    case hyt4 => (go_simp; first | done | with_reducible rfl)
    try simp only [Act.put, List.setIfInBounds_toArray, List.set_cons_zero, List.set_cons_succ]
    refine take_dst (some 16) (i := 5) (v := ?vt5) rfl rfl (by kernel_rfl) (by kernel_rfl) (by kernel_rfl) (fun _ _ _ h => h) (Or.inl ⟨by rfl, fun wS hSw => ?hyt5⟩) (by assumption) ?restt5
    case hyt5 => (go_simp; first | done | with_reducible rfl)
    try simp only [Act.put, List.setIfInBounds_toArray, List.set_cons_zero, List.set_cons_succ]
    refine take_dst (some 17) (i := 6) (v := ?vt6) rfl rfl (by kernel_rfl) (by kernel_rfl) (by kernel_rfl) (fun _ _ _ h => h) (Or.inl ⟨by rfl, fun wS hSw => ?hyt6⟩) (by assumption) ?restt6
    case hyt6 => (go_simp; first | done | with_reducible rfl)
    try simp only [Act.put, List.setIfInBounds_toArray, List.set_cons_zero, List.set_cons_succ]
    refine take_dst (some 18) (i := 7) (v := ?vt7) rfl rfl (by kernel_rfl) (by kernel_rfl) (by kernel_rfl) (fun _ _ _ h => h) (Or.inl ⟨by rfl, fun wS hSw => ?hyt7⟩) (by assumption) ?restt7
    case hyt7 => (go_simp; first | done | with_reducible rfl)
    try simp only [Act.put, List.setIfInBounds_toArray, List.set_cons_zero, List.set_cons_succ]
    refine take_dst (some 19) (i := 8) (v := ?vt8) rfl rfl (by kernel_rfl) (by kernel_rfl) (by kernel_rfl) (fun _ _ _ h => h) (Or.inl ⟨by rfl, fun wS hSw => ?hyt8⟩) (by assumption) ?restt8
    case hyt8 => (go_simp; first | done | with_reducible rfl)
    try simp only [Act.put, List.setIfInBounds_toArray, List.set_cons_zero, List.set_cons_succ]
    refine take_dst (some 20) (i := 9) (v := ?vt9) rfl rfl (by kernel_rfl) (by kernel_rfl) (by kernel_rfl) (fun _ _ _ h => h) (Or.inl ⟨by rfl, fun wS hSw => ?hyt9⟩) (by assumption) ?restt9
    case hyt9 => (have q1 := cell_ext hSw HD1.out; have q2 := cell_ext hSw HD2.out; have q3 := cell_ext hSw HD3.out; have q4 := cell_ext hSw HD4.out; go_simp; first | done | with_reducible rfl)
    try simp only [Act.put, List.setIfInBounds_toArray, List.set_cons_zero, List.set_cons_succ]
    refine take_dst (some 21) (i := 10) (v := ?vt10) rfl rfl (by kernel_rfl) (by kernel_rfl) (by kernel_rfl) (fun _ _ _ h => h) (Or.inl ⟨by rfl, fun wS hSw => ?hyt10⟩) (by assumption) ?restt10
    case hyt10 => (go_simp; first | done | with_reducible rfl)
    try simp only [Act.put, List.setIfInBounds_toArray, List.set_cons_zero, List.set_cons_succ]
    refine take_dst (some 22) (i := 11) (v := ?vt11) rfl rfl (by kernel_rfl) (by kernel_rfl) (by kernel_rfl) (fun _ _ _ h => h) (Or.inl ⟨by rfl, fun wS hSw => ?hyt11⟩) (by assumption) ?restt11
    case hyt11 => (go_simp; first | done | with_reducible rfl)
    try simp only [Act.put, List.setIfInBounds_toArray, List.set_cons_zero, List.set_cons_succ]
    refine take_dst (some 23) (i := 12) (v := ?vt12) rfl rfl (by kernel_rfl) (by kernel_rfl) (by kernel_rfl) (fun _ _ _ h => h) (Or.inl ⟨by rfl, fun wS hSw => ?hyt12⟩) (by assumption) ?restt12
    case hyt12 => (go_simp; first | done | with_reducible rfl)
    try simp only [Act.put, List.setIfInBounds_toArray, List.set_cons_zero, List.set_cons_succ]
    refine take_dst (some 24) (i := 13) (v := ?vt13) rfl rfl (by kernel_rfl) (by kernel_rfl) (by kernel_rfl) (fun _ _ _ h => h) (Or.inl ⟨by rfl, fun wS hSw => ?hyt13⟩) (by assumption) ?restt13
    case hyt13 => (go_simp; first | done | with_reducible rfl)
    try simp only [Act.put, List.setIfInBounds_toArray, List.set_cons_zero, List.set_cons_succ]
    refine take_dst (some 25) (i := 14) (v := ?vt14) rfl rfl (by kernel_rfl) (by kernel_rfl) (by kernel_rfl) (fun _ _ _ h => h) (Or.inl ⟨by rfl, fun wS hSw => ?hyt14⟩) (by assumption) ?restt14
    case hyt14 => (have q1 := cell_ext hSw HD1.out; have q2 := cell_ext hSw HD2.out; have q3 := cell_ext hSw HD3.out; have q4 := cell_ext hSw HD4.out; go_simp; first | done | with_reducible rfl)
    try simp only [Act.put, List.setIfInBounds_toArray, List.set_cons_zero, List.set_cons_succ]
    refine take_dst (some 26) (i := 15) (v := ?vt15) rfl rfl (by kernel_rfl) (by kernel_rfl) (by kernel_rfl) (fun _ _ _ h => h) (Or.inl ⟨by rfl, fun wS hSw => ?hyt15⟩) (by assumption) ?restt15
    case hyt15 => (go_simp; first | done | with_reducible rfl)
    try simp only [Act.put, List.setIfInBounds_toArray, List.set_cons_zero, List.set_cons_succ]
    refine take_dst (some 27) (i := 16) (v := ?vt16) rfl rfl (by kernel_rfl) (by kernel_rfl) (by kernel_rfl) (fun _ _ _ h => h) (Or.inl ⟨by rfl, fun wS hSw => ?hyt16⟩) (by assumption) ?restt16
    case hyt16 => (go_simp; first | done | with_reducible rfl)
    try simp only [Act.put, List.setIfInBounds_toArray, List.set_cons_zero, List.set_cons_succ]
    refine take_dst (some 28) (i := 17) (v := ?vt17) rfl rfl (by kernel_rfl) (by kernel_rfl) (by kernel_rfl) (fun _ _ _ h => h) (Or.inl ⟨by rfl, fun wS hSw => ?hyt17⟩) (by assumption) ?restt17
    case hyt17 => (go_simp; first | done | with_reducible rfl)
    try simp only [Act.put, List.setIfInBounds_toArray, List.set_cons_zero, List.set_cons_succ]
    refine take_dst (some 29) (i := 18) (v := ?vt18) rfl rfl (by kernel_rfl) (by kernel_rfl) (by kernel_rfl) (fun _ _ _ h => h) (Or.inl ⟨by rfl, fun wS hSw => ?hyt18⟩) (by assumption) ?restt18
    case hyt18 => (go_simp; first | done | with_reducible rfl)
    try simp only [Act.put, List.setIfInBounds_toArray, List.set_cons_zero, List.set_cons_succ]
    refine take_dst (some 30) (i := 19) (v := ?vt19) rfl rfl (by kernel_rfl) (by kernel_rfl) (by kernel_rfl) (fun _ _ _ h => h) (Or.inl ⟨by rfl, fun wS hSw => ?hyt19⟩) (by assumption) ?restt19
    case hyt19 => (go_simp; first | done | with_reducible rfl)
    try simp only [Act.put, List.setIfInBounds_toArray, List.set_cons_zero, List.set_cons_succ]
    refine take_dst (some 31) (i := 20) (v := ?vt20) rfl rfl (by kernel_rfl) (by kernel_rfl) (by kernel_rfl) (fun _ _ _ h => h) (Or.inl ⟨by rfl, fun wS hSw => ?hyt20⟩) (by assumption) ?restt20
    case hyt20 => (go_simp; first | done | with_reducible rfl)
    try simp only [Act.put, List.setIfInBounds_toArray, List.set_cons_zero, List.set_cons_succ]
    refine take_dst (some 32) (i := 21) (v := ?vt21) rfl rfl (by kernel_rfl) (by kernel_rfl) (by kernel_rfl) (fun _ _ _ h => h) (Or.inl ⟨by rfl, fun wS hSw => ?hyt21⟩) (by assumption) ?restt21
    case hyt21 => (go_simp; first | done | with_reducible rfl)
    try simp only [Act.put, List.setIfInBounds_toArray, List.set_cons_zero, List.set_cons_succ]
    refine take_dst (some 33) (i := 22) (v := ?vt22) rfl rfl (by kernel_rfl) (by kernel_rfl) (by kernel_rfl) (fun _ _ _ h => h) (Or.inl ⟨by rfl, fun wS hSw => ?hyt22⟩) (by assumption) ?restt22
    case hyt22 => (have q1 := cell_ext hSw HD1.out; have q2 := cell_ext hSw HD2.out; have q3 := cell_ext hSw HD3.out; have q4 := cell_ext hSw HD4.out; go_simp; first | done | with_reducible rfl)
    try simp only [Act.put, List.setIfInBounds_toArray, List.set_cons_zero, List.set_cons_succ]
    refine take_dst (some 34) (i := 23) (v := ?vt23) rfl rfl (by kernel_rfl) (by kernel_rfl) (by kernel_rfl) (fun _ _ _ h => h) (Or.inl ⟨by rfl, fun wS hSw => ?hyt23⟩) (by assumption) ?restt23
    case hyt23 => (go_simp; first | done | with_reducible rfl)
    try simp only [Act.put, List.setIfInBounds_toArray, List.set_cons_zero, List.set_cons_succ]
    refine take_dst (some 35) (i := 24) (v := ?vt24) rfl rfl (by kernel_rfl) (by kernel_rfl) (by kernel_rfl) (fun _ _ _ h => h) (Or.inl ⟨by rfl, fun wS hSw => ?hyt24⟩) (by assumption) ?restt24
    case hyt24 => (go_simp; first | done | with_reducible rfl)
    try simp only [Act.put, List.setIfInBounds_toArray, List.set_cons_zero, List.set_cons_succ]
    refine take_dst (some 36) (i := 25) (v := ?vt25) rfl rfl (by kernel_rfl) (by kernel_rfl) (by kernel_rfl) (fun _ _ _ h => h) (Or.inl ⟨by rfl, fun wS hSw => ?hyt25⟩) (by assumption) ?restt25
    case hyt25 => (go_simp; first | done | with_reducible rfl)
    try simp only [Act.put, List.setIfInBounds_toArray, List.set_cons_zero, List.set_cons_succ]
    refine take_dst (some 37) (i := 26) (v := ?vt26) rfl rfl (by kernel_rfl) (by kernel_rfl) (by kernel_rfl) (fun _ _ _ h => h) (Or.inl ⟨by rfl, fun wS hSw => ?hyt26⟩) (by assumption) ?restt26
    case hyt26 => (go_simp; first | done | with_reducible rfl)
    try simp only [Act.put, List.setIfInBounds_toArray, List.set_cons_zero, List.set_cons_succ]
    refine take_dst (some 38) (i := 27) (v := ?vt27) rfl rfl (by kernel_rfl) (by kernel_rfl) (by kernel_rfl) (fun _ _ _ h => h) (Or.inl ⟨by rfl, fun wS hSw => ?hyt27⟩) (by assumption) ?restt27
    case hyt27 => (have q1 := cell_ext hSw HD1.out; have q2 := cell_ext hSw HD2.out; have q3 := cell_ext hSw HD3.out; have q4 := cell_ext hSw HD4.out; go_simp; first | done | with_reducible rfl)
    try simp only [Act.put, List.setIfInBounds_toArray, List.set_cons_zero, List.set_cons_succ]
    by_cases hne : xi = yi
    · have st2 : (xi == yi) = true := by simp [hne]
      have st3 : (!xi == yi) = false := by rw [st2]; rfl
      have Hne := Lib.hid hne
      clear hne
      refine take_dst (some 39) (i := 28) (v := ?vs28) rfl rfl (by kernel_rfl) (by kernel_rfl) (by kernel_rfl) (fun _ _ _ h => h) (Or.inl ⟨by rfl, fun wS hSw => ?hys28⟩) (by assumption) ?rests28
      case hys28 => (go_simp; first | done | with_reducible rfl)
      try simp only [Act.put, List.setIfInBounds_toArray, List.set_cons_zero, List.set_cons_succ]
      refine take_dst (some 40) (i := 29) (v := ?vs29) rfl rfl (by kernel_rfl) (by kernel_rfl) (by kernel_rfl) (fun _ _ _ h => h) (Or.inl ⟨by rfl, fun wS hSw => ?hys29⟩) (by assumption) ?rests29
      case hys29 => (go_simp; first | done | with_reducible rfl)
      try simp only [Act.put, List.setIfInBounds_toArray, List.set_cons_zero, List.set_cons_succ]
      refine take_dst (some 41) (i := 30) (v := ?vs30) rfl rfl (by kernel_rfl) (by kernel_rfl) (by kernel_rfl) (fun _ _ _ h => h) (Or.inl ⟨by rfl, fun wS hSw => ?hys30⟩) (by assumption) ?rests30
      case hys30 => (go_simp; first | done | with_reducible rfl)
      try simp only [Act.put, List.setIfInBounds_toArray, List.set_cons_zero, List.set_cons_succ]
      refine take_dst (some 42) (i := 31) (v := undef) rfl rfl (by kernel_rfl) (by kernel_rfl) (by kernel_rfl) (fun _ _ _ h => h) (Or.inr ⟨by rfl, rfl⟩) (by assumption) ?restk31
      try simp only [Act.put, List.setIfInBounds_toArray, List.set_cons_zero, List.set_cons_succ]
      refine take_dst (some 43) (i := 32) (v := undef) rfl rfl (by kernel_rfl) (by kernel_rfl) (by kernel_rfl) (fun _ _ _ h => h) (Or.inr ⟨by rfl, rfl⟩) (by assumption) ?restk32
      try simp only [Act.put, List.setIfInBounds_toArray, List.set_cons_zero, List.set_cons_succ]
      refine take_dst (some 44) (i := 33) (v := undef) rfl rfl (by kernel_rfl) (by kernel_rfl) (by kernel_rfl) (fun _ _ _ h => h) (Or.inr ⟨by rfl, rfl⟩) (by assumption) ?restk33
      try simp only [Act.put, List.setIfInBounds_toArray, List.set_cons_zero, List.set_cons_succ]
      refine take_dst (some 45) (i := 34) (v := undef) rfl rfl (by kernel_rfl) (by kernel_rfl) (by kernel_rfl) (fun _ _ _ h => h) (Or.inr ⟨by rfl, rfl⟩) (by assumption) ?restk34
      try simp only [Act.put, List.setIfInBounds_toArray, List.set_cons_zero, List.set_cons_succ]
      refine take_dst (some 46) (i := 35) (v := undef) rfl rfl (by kernel_rfl) (by kernel_rfl) (by kernel_rfl) (fun _ _ _ h => h) (Or.inr ⟨by rfl, rfl⟩) (by assumption) ?restk35
      try simp only [Act.put, List.setIfInBounds_toArray, List.set_cons_zero, List.set_cons_succ]
      refine take_dst (some 47) (i := 36) (v := undef) rfl rfl (by kernel_rfl) (by kernel_rfl) (by kernel_rfl) (fun _ _ _ h => h) (Or.inr ⟨by rfl, rfl⟩) (by assumption) ?restk36
      try simp only [Act.put, List.setIfInBounds_toArray, List.set_cons_zero, List.set_cons_succ]
      refine take_dst (some 48) (i := 37) (v := undef) rfl rfl (by kernel_rfl) (by kernel_rfl) (by kernel_rfl) (fun _ _ _ h => h) (Or.inr ⟨by rfl, rfl⟩) (by assumption) ?restk37
      try simp only [Act.put, List.setIfInBounds_toArray, List.set_cons_zero, List.set_cons_succ]
      refine take_dst (some 49) (i := 38) (v := undef) rfl rfl (by kernel_rfl) (by kernel_rfl) (by kernel_rfl) (fun _ _ _ h => h) (Or.inr ⟨by rfl, rfl⟩) (by assumption) ?restk38
      try simp only [Act.put, List.setIfInBounds_toArray, List.set_cons_zero, List.set_cons_succ]
      refine take_dst (some 50) (i := 39) (v := undef) rfl rfl (by kernel_rfl) (by kernel_rfl) (by kernel_rfl) (fun _ _ _ h => h) (Or.inr ⟨by rfl, rfl⟩) (by assumption) ?restk39
      try simp only [Act.put, List.setIfInBounds_toArray, List.set_cons_zero, List.set_cons_succ]
      refine take_dst (some 51) (i := 40) (v := undef) rfl rfl (by kernel_rfl) (by kernel_rfl) (by kernel_rfl) (fun _ _ _ h => h) (Or.inr ⟨by rfl, rfl⟩) (by assumption) ?restk40
      try simp only [Act.put, List.setIfInBounds_toArray, List.set_cons_zero, List.set_cons_succ]
      refine take_dst (some 52) (i := 41) (v := undef) rfl rfl (by kernel_rfl) (by kernel_rfl) (by kernel_rfl) (fun _ _ _ h => h) (Or.inr ⟨by rfl, rfl⟩) (by assumption) ?restk41
      try simp only [Act.put, List.setIfInBounds_toArray, List.set_cons_zero, List.set_cons_succ]
      refine take_dst (some 53) (i := 42) (v := undef) rfl rfl (by kernel_rfl) (by kernel_rfl) (by kernel_rfl) (fun _ _ _ h => h) (Or.inr ⟨by rfl, rfl⟩) (by assumption) ?restk42
      try simp only [Act.put, List.setIfInBounds_toArray, List.set_cons_zero, List.set_cons_succ]
      refine take_dst (some 54) (i := 43) (v := undef) rfl rfl (by kernel_rfl) (by kernel_rfl) (by kernel_rfl) (fun _ _ _ h => h) (Or.inr ⟨by rfl, rfl⟩) (by assumption) ?restk43
      try simp only [Act.put, List.setIfInBounds_toArray, List.set_cons_zero, List.set_cons_succ]
      refine take_dst (some 55) (i := 44) (v := undef) rfl rfl (by kernel_rfl) (by kernel_rfl) (by kernel_rfl) (fun _ _ _ h => h) (Or.inr ⟨by rfl, rfl⟩) (by assumption) ?restk44
      try simp only [Act.put, List.setIfInBounds_toArray, List.set_cons_zero, List.set_cons_succ]
      refine take_dst (some 56) (i := 45) (v := undef) rfl rfl (by kernel_rfl) (by kernel_rfl) (by kernel_rfl) (fun _ _ _ h => h) (Or.inr ⟨by rfl, rfl⟩) (by assumption) ?restk45
      try simp only [Act.put, List.setIfInBounds_toArray, List.set_cons_zero, List.set_cons_succ]
      refine take_dst (some 57) (i := 46) (v := undef) rfl rfl (by kernel_rfl) (by kernel_rfl) (by kernel_rfl) (fun _ _ _ h => h) (Or.inr ⟨by rfl, rfl⟩) (by assumption) ?restk46
      try simp only [Act.put, List.setIfInBounds_toArray, List.set_cons_zero, List.set_cons_succ]
      refine take_dst (some 58) (i := 47) (v := undef) rfl rfl (by kernel_rfl) (by kernel_rfl) (by kernel_rfl) (fun _ _ _ h => h) (Or.inr ⟨by rfl, rfl⟩) (by assumption) ?restk47
      try simp only [Act.put, List.setIfInBounds_toArray, List.set_cons_zero, List.set_cons_succ]
      refine take_dst (some 59) (i := 48) (v := undef) rfl rfl (by kernel_rfl) (by kernel_rfl) (by kernel_rfl) (fun _ _ _ h => h) (Or.inr ⟨by rfl, rfl⟩) (by assumption) ?restk48
      try simp only [Act.put, List.setIfInBounds_toArray, List.set_cons_zero, List.set_cons_succ]
      refine take_dst (some 60) (i := 49) (v := undef) rfl rfl (by kernel_rfl) (by kernel_rfl) (by kernel_rfl) (fun _ _ _ h => h) (Or.inr ⟨by rfl, rfl⟩) (by assumption) ?restk49
      try simp only [Act.put, List.setIfInBounds_toArray, List.set_cons_zero, List.set_cons_succ]
      refine take_dst (some 61) (i := 50) (v := undef) rfl rfl (by kernel_rfl) (by kernel_rfl) (by kernel_rfl) (fun _ _ _ h => h) (Or.inr ⟨by rfl, rfl⟩) (by assumption) ?restk50
      try simp only [Act.put, List.setIfInBounds_toArray, List.set_cons_zero, List.set_cons_succ]
      refine take_dst (some 62) (i := 51) (v := undef) rfl rfl (by kernel_rfl) (by kernel_rfl) (by kernel_rfl) (fun _ _ _ h => h) (Or.inr ⟨by rfl, rfl⟩) (by assumption) ?restk51
      try simp only [Act.put, List.setIfInBounds_toArray, List.set_cons_zero, List.set_cons_succ]
      refine take_dst (some 63) (i := 52) (v := undef) rfl rfl (by kernel_rfl) (by kernel_rfl) (by kernel_rfl) (fun _ _ _ h => h) (Or.inr ⟨by rfl, rfl⟩) (by assumption) ?restk52
      try simp only [Act.put, List.setIfInBounds_toArray, List.set_cons_zero, List.set_cons_succ]
      refine take_dst (some 64) (i := 53) (v := undef) rfl rfl (by kernel_rfl) (by kernel_rfl) (by kernel_rfl) (fun _ _ _ h => h) (Or.inr ⟨by rfl, rfl⟩) (by assumption) ?restk53
      try simp only [Act.put, List.setIfInBounds_toArray, List.set_cons_zero, List.set_cons_succ]
      refine take_dst (some 65) (i := 54) (v := undef) rfl rfl (by kernel_rfl) (by kernel_rfl) (by kernel_rfl) (fun _ _ _ h => h) (Or.inr ⟨by rfl, rfl⟩) (by assumption) ?restk54
      try simp only [Act.put, List.setIfInBounds_toArray, List.set_cons_zero, List.set_cons_succ]
      refine take_dst (some 66) (i := 55) (v := undef) rfl rfl (by kernel_rfl) (by kernel_rfl) (by kernel_rfl) (fun _ _ _ h => h) (Or.inr ⟨by rfl, rfl⟩) (by assumption) ?restk55
      try simp only [Act.put, List.setIfInBounds_toArray, List.set_cons_zero, List.set_cons_succ]
      refine take_dst (some 67) (i := 56) (v := ?vs56) rfl rfl (by kernel_rfl) (by kernel_rfl) (by kernel_rfl) (fun _ _ _ h => h) (Or.inl ⟨by rfl, fun wS hSw => ?hys56⟩) (by assumption) ?rests56
      case hys56 => (go_simp; first | done | with_reducible rfl)
      try simp only [Act.put, List.setIfInBounds_toArray, List.set_cons_zero, List.set_cons_succ]
      refine wpAnyH_done (by kernel_rfl) ?_ _
      go_wp2_with fail
      go_roundw
      case rel => exact ⟨i + 1, by go_num, Hii.out, fun j hj => by rcases Nat.lt_succ_iff_lt_or_eq.1 hj with h | h; (· exact HNO.out j h); (· rw [h, Hca2.out]; rw [decide_eq_true Hne.out]; rfl), below_ext HB.out HBW.out⟩
      case measure => simp [natOf]; have := Hlt.out; omega
    · have st2 : (xi == yi) = false := by simpa using hne
      have st3 : (!xi == yi) = true := by rw [st2]; rfl
      have Hne := Lib.hid hne
      clear hne
      refine take_dst (some 39) (i := 28) (v := ?vu28) rfl rfl (by kernel_rfl) (by kernel_rfl) (by kernel_rfl) (fun _ _ _ h => h) (Or.inl ⟨by rfl, fun wS hSw => ?hyu28⟩) (by assumption) ?restu28
      case hyu28 => (go_simp; first | done | with_reducible rfl)
      try simp only [Act.put, List.setIfInBounds_toArray, List.set_cons_zero, List.set_cons_succ]
      refine take_dst (some 40) (i := 29) (v := ?vu29) rfl rfl (by kernel_rfl) (by kernel_rfl) (by kernel_rfl) (fun _ _ _ h => h) (Or.inl ⟨by rfl, fun wS hSw => ?hyu29⟩) (by assumption) ?restu29
      case hyu29 => (go_simp; first | done | with_reducible rfl)
      try simp only [Act.put, List.setIfInBounds_toArray, List.set_cons_zero, List.set_cons_succ]
      refine take_dst (some 41) (i := 30) (v := ?vu30) rfl rfl (by kernel_rfl) (by kernel_rfl) (by kernel_rfl) (fun _ _ _ h => h) (Or.inl ⟨by rfl, fun wS hSw => ?hyu30⟩) (by assumption) ?restu30
      case hyu30 => (go_simp; first | done | with_reducible rfl)
      try simp only [Act.put, List.setIfInBounds_toArray, List.set_cons_zero, List.set_cons_succ]
      refine take_dst (some 42) (i := 31) (v := ?vu31) rfl rfl (by kernel_rfl) (by kernel_rfl) (by kernel_rfl) (fun _ _ _ h => h) (Or.inl ⟨by rfl, fun wS hSw => ?hyu31⟩) (by assumption) ?restu31
      case hyu31 => (go_simp; first | done | with_reducible rfl)
      try simp only [Act.put, List.setIfInBounds_toArray, List.set_cons_zero, List.set_cons_succ]
      refine take_dst (some 43) (i := 32) (v := ?vu32) rfl rfl (by kernel_rfl) (by kernel_rfl) (by kernel_rfl) (fun _ _ _ h => h) (Or.inl ⟨by rfl, fun wS hSw => ?hyu32⟩) (by assumption) ?restu32
      case hyu32 => (go_simp; first | done | with_reducible rfl)
      try simp only [Act.put, List.setIfInBounds_toArray, List.set_cons_zero, List.set_cons_succ]
      refine take_dst (some 44) (i := 33) (v := ?vu33) rfl rfl (by kernel_rfl) (by kernel_rfl) (by kernel_rfl) (fun _ _ _ h => h) (Or.inl ⟨by rfl, fun wS hSw => ?hyu33⟩) (by assumption) ?restu33
      case hyu33 => (go_simp; first | done | with_reducible rfl)
      try simp only [Act.put, List.setIfInBounds_toArray, List.set_cons_zero, List.set_cons_succ]
      refine take_dst (some 45) (i := 34) (v := ?vu34) rfl rfl (by kernel_rfl) (by kernel_rfl) (by kernel_rfl) (fun _ _ _ h => h) (Or.inl ⟨by rfl, fun wS hSw => ?hyu34⟩) (by assumption) ?restu34
      case hyu34 => (go_simp; first | done | with_reducible rfl)
      try simp only [Act.put, List.setIfInBounds_toArray, List.set_cons_zero, List.set_cons_succ]
      refine take_dst (some 46) (i := 35) (v := ?vu35) rfl rfl (by kernel_rfl) (by kernel_rfl) (by kernel_rfl) (fun _ _ _ h => h) (Or.inl ⟨by rfl, fun wS hSw => ?hyu35⟩) (by assumption) ?restu35
      case hyu35 => (have q1 := cell_ext hSw HD1.out; have q2 := cell_ext hSw HD2.out; have q3 := cell_ext hSw HD3.out; have q4 := cell_ext hSw HD4.out; go_simp; first | done | with_reducible rfl)
      try simp only [Act.put, List.setIfInBounds_toArray, List.set_cons_zero, List.set_cons_succ]
      refine take_dst (some 47) (i := 36) (v := ?vu36) rfl rfl (by kernel_rfl) (by kernel_rfl) (by kernel_rfl) (fun _ _ _ h => h) (Or.inl ⟨by rfl, fun wS hSw => ?hyu36⟩) (by assumption) ?restu36
      case hyu36 => (go_simp; first | done | with_reducible rfl)
      try simp only [Act.put, List.setIfInBounds_toArray, List.set_cons_zero, List.set_cons_succ]
      refine take_dst (some 48) (i := 37) (v := ?vu37) rfl rfl (by kernel_rfl) (by kernel_rfl) (by kernel_rfl) (fun _ _ _ h => h) (Or.inl ⟨by rfl, fun wS hSw => ?hyu37⟩) (by assumption) ?restu37
      case hyu37 => (go_simp; first | done | with_reducible rfl)
      try simp only [Act.put, List.setIfInBounds_toArray, List.set_cons_zero, List.set_cons_succ]
      refine take_dst (some 49) (i := 38) (v := ?vu38) rfl rfl (by kernel_rfl) (by kernel_rfl) (by kernel_rfl) (fun _ _ _ h => h) (Or.inl ⟨by rfl, fun wS hSw => ?hyu38⟩) (by assumption) ?restu38
      case hyu38 => (go_simp; first | done | with_reducible rfl)
      try simp only [Act.put, List.setIfInBounds_toArray, List.set_cons_zero, List.set_cons_succ]
      refine take_dst (some 50) (i := 39) (v := ?vu39) rfl rfl (by kernel_rfl) (by kernel_rfl) (by kernel_rfl) (fun _ _ _ h => h) (Or.inl ⟨by rfl, fun wS hSw => ?hyu39⟩) (by assumption) ?restu39
      case hyu39 => (go_simp; first | done | with_reducible rfl)
      try simp only [Act.put, List.setIfInBounds_toArray, List.set_cons_zero, List.set_cons_succ]
      refine take_dst (some 51) (i := 40) (v := ?vu40) rfl rfl (by kernel_rfl) (by kernel_rfl) (by kernel_rfl) (fun _ _ _ h => h) (Or.inl ⟨by rfl, fun wS hSw => ?hyu40⟩) (by assumption) ?restu40
      case hyu40 => (have q1 := cell_ext hSw HD1.out; have q2 := cell_ext hSw HD2.out; have q3 := cell_ext hSw HD3.out; have q4 := cell_ext hSw HD4.out; go_simp; first | done | with_reducible rfl)
      try simp only [Act.put, List.setIfInBounds_toArray, List.set_cons_zero, List.set_cons_succ]
      refine take_dst (some 54) (i := 43) (v := ?vu43) rfl rfl (by kernel_rfl) (by kernel_rfl) (by kernel_rfl) (fun _ _ _ h => h) (Or.inl ⟨by rfl, fun wS hSw => ?hyu43⟩) (by assumption) ?restu43
      case hyu43 => (go_simp; first | done | with_reducible rfl)
      try simp only [Act.put, List.setIfInBounds_toArray, List.set_cons_zero, List.set_cons_succ]
      refine take_dst (some 55) (i := 44) (v := ?vu44) rfl rfl (by kernel_rfl) (by kernel_rfl) (by kernel_rfl) (fun _ _ _ h => h) (Or.inl ⟨by rfl, fun wS hSw => ?hyu44⟩) (by assumption) ?restu44
      case hyu44 => (go_simp; first | done | with_reducible rfl)
      try simp only [Act.put, List.setIfInBounds_toArray, List.set_cons_zero, List.set_cons_succ]
      refine take_dst (some 56) (i := 45) (v := ?vu45) rfl rfl (by kernel_rfl) (by kernel_rfl) (by kernel_rfl) (fun _ _ _ h => h) (Or.inl ⟨by rfl, fun wS hSw => ?hyu45⟩) (by assumption) ?restu45
      case hyu45 => (go_simp; first | done | with_reducible rfl)
      try simp only [Act.put, List.setIfInBounds_toArray, List.set_cons_zero, List.set_cons_succ]
      refine take_dst (some 57) (i := 46) (v := ?vu46) rfl rfl (by kernel_rfl) (by kernel_rfl) (by kernel_rfl) (fun _ _ _ h => h) (Or.inl ⟨by rfl, fun wS hSw => ?hyu46⟩) (by assumption) ?restu46
      case hyu46 => (go_simp; first | done | with_reducible rfl)
      try simp only [Act.put, List.setIfInBounds_toArray, List.set_cons_zero, List.set_cons_succ]
      refine take_dst (some 58) (i := 47) (v := ?vu47) rfl rfl (by kernel_rfl) (by kernel_rfl) (by kernel_rfl) (fun _ _ _ h => h) (Or.inl ⟨by rfl, fun wS hSw => ?hyu47⟩) (by assumption) ?restu47
      case hyu47 => (have q1 := cell_ext hSw HD1.out; have q2 := cell_ext hSw HD2.out; have q3 := cell_ext hSw HD3.out; have q4 := cell_ext hSw HD4.out; go_simp; first | done | with_reducible rfl)
      try simp only [Act.put, List.setIfInBounds_toArray, List.set_cons_zero, List.set_cons_succ]
      refine take_dst (some 59) (i := 48) (v := ?vu48) rfl rfl (by kernel_rfl) (by kernel_rfl) (by kernel_rfl) (fun _ _ _ h => h) (Or.inl ⟨by rfl, fun wS hSw => ?hyu48⟩) (by assumption) ?restu48
      case hyu48 => (go_simp; first | done | with_reducible rfl)
      try simp only [Act.put, List.setIfInBounds_toArray, List.set_cons_zero, List.set_cons_succ]
      refine take_dst (some 60) (i := 49) (v := ?vu49) rfl rfl (by kernel_rfl) (by kernel_rfl) (by kernel_rfl) (fun _ _ _ h => h) (Or.inl ⟨by rfl, fun wS hSw => ?hyu49⟩) (by assumption) ?restu49
      case hyu49 => (go_simp; first | done | with_reducible rfl)
      try simp only [Act.put, List.setIfInBounds_toArray, List.set_cons_zero, List.set_cons_succ]
      refine take_dst (some 61) (i := 50) (v := ?vu50) rfl rfl (by kernel_rfl) (by kernel_rfl) (by kernel_rfl) (fun _ _ _ h => h) (Or.inl ⟨by rfl, fun wS hSw => ?hyu50⟩) (by assumption) ?restu50
      case hyu50 => (go_simp; first | done | with_reducible rfl)
      try simp only [Act.put, List.setIfInBounds_toArray, List.set_cons_zero, List.set_cons_succ]
      refine take_dst (some 62) (i := 51) (v := ?vu51) rfl rfl (by kernel_rfl) (by kernel_rfl) (by kernel_rfl) (fun _ _ _ h => h) (Or.inl ⟨by rfl, fun wS hSw => ?hyu51⟩) (by assumption) ?restu51
      case hyu51 => (go_simp; first | done | with_reducible rfl)
      try simp only [Act.put, List.setIfInBounds_toArray, List.set_cons_zero, List.set_cons_succ]
      refine take_dst (some 63) (i := 52) (v := ?vu52) rfl rfl (by kernel_rfl) (by kernel_rfl) (by kernel_rfl) (fun _ _ _ h => h) (Or.inl ⟨by rfl, fun wS hSw => ?hyu52⟩) (by assumption) ?restu52
      case hyu52 => (have q1 := cell_ext hSw HD1.out; have q2 := cell_ext hSw HD2.out; have q3 := cell_ext hSw HD3.out; have q4 := cell_ext hSw HD4.out; go_simp; first | done | with_reducible rfl)
      try simp only [Act.put, List.setIfInBounds_toArray, List.set_cons_zero, List.set_cons_succ]
      refine wpAnyH_ready (rs := [41, 53]) (by kernel_rfl) (by simp) ?_
      refine AllReadyH.cons rfl (fun K hK => ?_) (AllReadyH.cons rfl (fun K hK => ?_) AllReadyH.nil)
      · obtain ⟨kwda, wda, hcv, hbN, hbt⟩ := run_bytes_of ⟨xi.toArray⟩ (by have := Hsx.out.2.1; simp [ByteArray.size]; omega) wd
        go_simp
        clear hcv
        have HA : Hid (BtsAt wda.heap.size wda xi (.slice (some ⟨wd.heap.size, 0, none⟩) (⟨xi.toArray⟩ : ByteArray).size kwda)) := hbt
        replace HBW := Lib.hid (below_ext HBW.out hbN)
        clear hbN hbt
        refine hK.out _ _ HBW.out (fun hHeld => ?_)
        clear hK K
        try simp only [Act.put, List.setIfInBounds_toArray, List.set_cons_zero, List.set_cons_succ]
        refine wpAnyH_ready (rs := [42, 53]) (by kernel_rfl) (by simp) ?_
        refine AllReadyH.cons rfl (fun K hK => ?_) (AllReadyH.cons rfl (fun K hK => ?_) AllReadyH.nil)
        · have hcall := Lib.hid (tagged_any ⟨xt.toArray⟩ _ xi wda (by have := Hsx.out.1; simp [ByteArray.size]; omega) (by have := Hsx.out.2.1; omega) HA.out (HLd.out.ext (below_ext HB.out HBW.out)))
          go_simp
          refine hcall.out.mono ?_
          rintro e wdac ⟨rfl, hbN⟩
          rw [show tagged (ByteArray.data ⟨xt.toArray⟩).toList xi = p from HX.out]
          replace HBW := Lib.hid (below_ext HBW.out hbN)
          clear hbN hcall
          refine hK.out _ _ HBW.out (fun hHeld => ?_)
          clear hK K
          try simp only [Act.put, List.setIfInBounds_toArray, List.set_cons_zero, List.set_cons_succ]
          refine wpAnyH_ready (rs := [53]) (by kernel_rfl) (by simp) ?_
          refine AllReadyH.cons rfl (fun K hK => ?_) AllReadyH.nil
          · obtain ⟨kwdacb, wdacb, hcv, hbN, hbt⟩ := run_bytes_of ⟨yi.toArray⟩ (by have := Hsx.out.2.2; simp [ByteArray.size]; omega) wdac
            go_simp
            clear hcv
            have HBb : Hid (BtsAt wdacb.heap.size wdacb yi (.slice (some ⟨wdac.heap.size, 0, none⟩) (⟨yi.toArray⟩ : ByteArray).size kwdacb)) := hbt
            replace HBW := Lib.hid (below_ext HBW.out hbN)
            clear hbN hbt
            refine hK.out _ _ HBW.out (fun hHeld => ?_)
            clear hK K
            try simp only [Act.put, List.setIfInBounds_toArray, List.set_cons_zero, List.set_cons_succ]
            refine wpAnyH_ready (rs := [54]) (by kernel_rfl) (by simp) ?_
            refine AllReadyH.cons rfl (fun K hK => ?_) AllReadyH.nil
            · have hcall := Lib.hid (tagged_any ⟨xt.toArray⟩ _ yi wdacb (by have := Hsx.out.1; simp [ByteArray.size]; omega) (by have := Hsx.out.2.2; omega) HBb.out (HLd.out.ext (below_ext HB.out HBW.out)))
              go_simp
              refine hcall.out.mono ?_
              rintro e wdacbd ⟨rfl, hbN⟩
              rw [show tagged (ByteArray.data ⟨xt.toArray⟩).toList yi = q from HY.out]
              replace HBW := Lib.hid (below_ext HBW.out hbN)
              clear hbN hcall
              refine hK.out _ _ HBW.out (fun hHeld => ?_)
              clear hK K
              try simp only [Act.put, List.setIfInBounds_toArray, List.set_cons_zero, List.set_cons_succ]
              have hgd := fun (a1 a2 : Operand) (W : World) => gd_dv .eql a1 a2 p q W
              by_cases hpq : p = q
              · have heq : ∀ W, (binOp .eql 29 (dv p) (dv q)).run Tryd.prog W = .ok (.bool true) W := fun W => by rw [eql_dv _ _ Hp.out Hq.out, decide_eq_true hpq]
                have Hpq := Lib.hid hpq
                clear hpq
                refine take_dst (some 66) (i := 55) (v := ?vEwdacbdt55) rfl rfl (by kernel_rfl) (by kernel_rfl) (by kernel_rfl) (fun _ _ _ h => h) (Or.inl ⟨by rfl, fun wS hSw => ?hyEwdacbdt55⟩) (by assumption) ?restEwdacbdt55
                case hyEwdacbdt55 => (go_simp; first | done | with_reducible rfl)
                try simp only [Act.put, List.setIfInBounds_toArray, List.set_cons_zero, List.set_cons_succ]
                refine take_dst (some 67) (i := 56) (v := ?vEwdacbdt56) rfl rfl (by kernel_rfl) (by kernel_rfl) (by kernel_rfl) (fun _ _ _ h => h) (Or.inl ⟨by rfl, fun wS hSw => ?hyEwdacbdt56⟩) (by assumption) ?restEwdacbdt56
                case hyEwdacbdt56 => (go_simp; first | done | with_reducible rfl)
                try simp only [Act.put, List.setIfInBounds_toArray, List.set_cons_zero, List.set_cons_succ]
                refine wpAnyH_done (by kernel_rfl) ?_ _
                go_wp2_with fail
                go_ret
                exact ⟨by rw [col_yes Hii.out (by rw [Hca2.out, decide_eq_false Hne.out, decide_eq_true Hpq.out]; rfl)]; rfl, below_ext HB.out HBW.out⟩
              · have heq : ∀ W, (binOp .eql 29 (dv p) (dv q)).run Tryd.prog W = .ok (.bool false) W := fun W => by rw [eql_dv _ _ Hp.out Hq.out, decide_eq_false hpq]
                have Hpq := Lib.hid hpq
                clear hpq
                refine take_dst (some 66) (i := 55) (v := ?vEwdacbdf55) rfl rfl (by kernel_rfl) (by kernel_rfl) (by kernel_rfl) (fun _ _ _ h => h) (Or.inl ⟨by rfl, fun wS hSw => ?hyEwdacbdf55⟩) (by assumption) ?restEwdacbdf55
                case hyEwdacbdf55 => (go_simp; first | done | with_reducible rfl)
                try simp only [Act.put, List.setIfInBounds_toArray, List.set_cons_zero, List.set_cons_succ]
                refine take_dst (some 67) (i := 56) (v := ?vEwdacbdf56) rfl rfl (by kernel_rfl) (by kernel_rfl) (by kernel_rfl) (fun _ _ _ h => h) (Or.inl ⟨by rfl, fun wS hSw => ?hyEwdacbdf56⟩) (by assumption) ?restEwdacbdf56
                case hyEwdacbdf56 => (go_simp; first | done | with_reducible rfl)
                try simp only [Act.put, List.setIfInBounds_toArray, List.set_cons_zero, List.set_cons_succ]
                refine wpAnyH_done (by kernel_rfl) ?_ _
                go_wp2_with fail
                go_roundw
                case rel => exact ⟨i + 1, by go_num, Hii.out, fun j hj => by rcases Nat.lt_succ_iff_lt_or_eq.1 hj with h | h; (· exact HNO.out j h); (· rw [h, Hca2.out]; rw [decide_eq_false Hpq.out]; simp), below_ext HB.out HBW.out⟩
                case measure => simp [natOf]; have := Hlt.out; omega
        · obtain ⟨kwdab, wdab, hcv, hbN, hbt⟩ := run_bytes_of ⟨yi.toArray⟩ (by have := Hsx.out.2.2; simp [ByteArray.size]; omega) wda
          go_simp
          clear hcv
          have HBb : Hid (BtsAt wdab.heap.size wdab yi (.slice (some ⟨wda.heap.size, 0, none⟩) (⟨yi.toArray⟩ : ByteArray).size kwdab)) := hbt
          replace HA := Lib.hid (HA.out.ext hbN)
          replace HBW := Lib.hid (below_ext HBW.out hbN)
          clear hbN hbt
          refine hK.out _ _ HBW.out (fun hHeld => ?_)
          clear hK K
          try simp only [Act.put, List.setIfInBounds_toArray, List.set_cons_zero, List.set_cons_succ]
          refine wpAnyH_ready (rs := [42]) (by kernel_rfl) (by simp) ?_
          refine AllReadyH.cons rfl (fun K hK => ?_) AllReadyH.nil
          · have hcall := Lib.hid (tagged_any ⟨xt.toArray⟩ _ xi wdab (by have := Hsx.out.1; simp [ByteArray.size]; omega) (by have := Hsx.out.2.1; omega) HA.out (HLd.out.ext (below_ext HB.out HBW.out)))
            go_simp
            refine hcall.out.mono ?_
            rintro e wdabc ⟨rfl, hbN⟩
            rw [show tagged (ByteArray.data ⟨xt.toArray⟩).toList xi = p from HX.out]
            replace HBb := Lib.hid (HBb.out.ext hbN)
            replace HBW := Lib.hid (below_ext HBW.out hbN)
            clear hbN hcall
            refine hK.out _ _ HBW.out (fun hHeld => ?_)
            clear hK K
            try simp only [Act.put, List.setIfInBounds_toArray, List.set_cons_zero, List.set_cons_succ]
            refine wpAnyH_ready (rs := [54]) (by kernel_rfl) (by simp) ?_
            refine AllReadyH.cons rfl (fun K hK => ?_) AllReadyH.nil
            · have hcall := Lib.hid (tagged_any ⟨xt.toArray⟩ _ yi wdabc (by have := Hsx.out.1; simp [ByteArray.size]; omega) (by have := Hsx.out.2.2; omega) HBb.out (HLd.out.ext (below_ext HB.out HBW.out)))
              go_simp
              refine hcall.out.mono ?_
              rintro e wdabcd ⟨rfl, hbN⟩
              rw [show tagged (ByteArray.data ⟨xt.toArray⟩).toList yi = q from HY.out]
              replace HBW := Lib.hid (below_ext HBW.out hbN)
              clear hbN hcall
              refine hK.out _ _ HBW.out (fun hHeld => ?_)
              clear hK K
              try simp only [Act.put, List.setIfInBounds_toArray, List.set_cons_zero, List.set_cons_succ]
              have hgd := fun (a1 a2 : Operand) (W : World) => gd_dv .eql a1 a2 p q W
              by_cases hpq : p = q
              · have heq : ∀ W, (binOp .eql 29 (dv p) (dv q)).run Tryd.prog W = .ok (.bool true) W := fun W => by rw [eql_dv _ _ Hp.out Hq.out, decide_eq_true hpq]
                have Hpq := Lib.hid hpq
                clear hpq
                refine take_dst (some 66) (i := 55) (v := ?vEwdabcdt55) rfl rfl (by kernel_rfl) (by kernel_rfl) (by kernel_rfl) (fun _ _ _ h => h) (Or.inl ⟨by rfl, fun wS hSw => ?hyEwdabcdt55⟩) (by assumption) ?restEwdabcdt55
                case hyEwdabcdt55 => (go_simp; first | done | with_reducible rfl)
                try simp only [Act.put, List.setIfInBounds_toArray, List.set_cons_zero, List.set_cons_succ]
                refine take_dst (some 67) (i := 56) (v := ?vEwdabcdt56) rfl rfl (by kernel_rfl) (by kernel_rfl) (by kernel_rfl) (fun _ _ _ h => h) (Or.inl ⟨by rfl, fun wS hSw => ?hyEwdabcdt56⟩) (by assumption) ?restEwdabcdt56
                case hyEwdabcdt56 => (go_simp; first | done | with_reducible rfl)
                try simp only [Act.put, List.setIfInBounds_toArray, List.set_cons_zero, List.set_cons_succ]
                refine wpAnyH_done (by kernel_rfl) ?_ _
                go_wp2_with fail
                go_ret
                exact ⟨by rw [col_yes Hii.out (by rw [Hca2.out, decide_eq_false Hne.out, decide_eq_true Hpq.out]; rfl)]; rfl, below_ext HB.out HBW.out⟩
              · have heq : ∀ W, (binOp .eql 29 (dv p) (dv q)).run Tryd.prog W = .ok (.bool false) W := fun W => by rw [eql_dv _ _ Hp.out Hq.out, decide_eq_false hpq]
                have Hpq := Lib.hid hpq
                clear hpq
                refine take_dst (some 66) (i := 55) (v := ?vEwdabcdf55) rfl rfl (by kernel_rfl) (by kernel_rfl) (by kernel_rfl) (fun _ _ _ h => h) (Or.inl ⟨by rfl, fun wS hSw => ?hyEwdabcdf55⟩) (by assumption) ?restEwdabcdf55
                case hyEwdabcdf55 => (go_simp; first | done | with_reducible rfl)
                try simp only [Act.put, List.setIfInBounds_toArray, List.set_cons_zero, List.set_cons_succ]
                refine take_dst (some 67) (i := 56) (v := ?vEwdabcdf56) rfl rfl (by kernel_rfl) (by kernel_rfl) (by kernel_rfl) (fun _ _ _ h => h) (Or.inl ⟨by rfl, fun wS hSw => ?hyEwdabcdf56⟩) (by assumption) ?restEwdabcdf56
                case hyEwdabcdf56 => (go_simp; first | done | with_reducible rfl)
                try simp only [Act.put, List.setIfInBounds_toArray, List.set_cons_zero, List.set_cons_succ]
                refine wpAnyH_done (by kernel_rfl) ?_ _
                go_wp2_with fail
                go_roundw
                case rel => exact ⟨i + 1, by go_num, Hii.out, fun j hj => by rcases Nat.lt_succ_iff_lt_or_eq.1 hj with h | h; (· exact HNO.out j h); (· rw [h, Hca2.out]; rw [decide_eq_false Hpq.out]; simp), below_ext HB.out HBW.out⟩
                case measure => simp [natOf]; have := Hlt.out; omega
      · obtain ⟨kwdb, wdb, hcv, hbN, hbt⟩ := run_bytes_of ⟨yi.toArray⟩ (by have := Hsx.out.2.2; simp [ByteArray.size]; omega) wd
        go_simp
        clear hcv
        have HBb : Hid (BtsAt wdb.heap.size wdb yi (.slice (some ⟨wd.heap.size, 0, none⟩) (⟨yi.toArray⟩ : ByteArray).size kwdb)) := hbt
        replace HBW := Lib.hid (below_ext HBW.out hbN)
        clear hbN hbt
        refine hK.out _ _ HBW.out (fun hHeld => ?_)
        clear hK K
        try simp only [Act.put, List.setIfInBounds_toArray, List.set_cons_zero, List.set_cons_succ]
        refine wpAnyH_ready (rs := [41]) (by kernel_rfl) (by simp) ?_
        refine AllReadyH.cons rfl (fun K hK => ?_) AllReadyH.nil
        · obtain ⟨kwdba, wdba, hcv, hbN, hbt⟩ := run_bytes_of ⟨xi.toArray⟩ (by have := Hsx.out.2.1; simp [ByteArray.size]; omega) wdb
          go_simp
          clear hcv
          have HA : Hid (BtsAt wdba.heap.size wdba xi (.slice (some ⟨wdb.heap.size, 0, none⟩) (⟨xi.toArray⟩ : ByteArray).size kwdba)) := hbt
          replace HBb := Lib.hid (HBb.out.ext hbN)
          replace HBW := Lib.hid (below_ext HBW.out hbN)
          clear hbN hbt
          refine hK.out _ _ HBW.out (fun hHeld => ?_)
          clear hK K
          try simp only [Act.put, List.setIfInBounds_toArray, List.set_cons_zero, List.set_cons_succ]
          refine wpAnyH_ready (rs := [42]) (by kernel_rfl) (by simp) ?_
          refine AllReadyH.cons rfl (fun K hK => ?_) AllReadyH.nil
          · have hcall := Lib.hid (tagged_any ⟨xt.toArray⟩ _ xi wdba (by have := Hsx.out.1; simp [ByteArray.size]; omega) (by have := Hsx.out.2.1; omega) HA.out (HLd.out.ext (below_ext HB.out HBW.out)))
            go_simp
            refine hcall.out.mono ?_
            rintro e wdbac ⟨rfl, hbN⟩
            rw [show tagged (ByteArray.data ⟨xt.toArray⟩).toList xi = p from HX.out]
            replace HBb := Lib.hid (HBb.out.ext hbN)
            replace HBW := Lib.hid (below_ext HBW.out hbN)
            clear hbN hcall
            refine hK.out _ _ HBW.out (fun hHeld => ?_)
            clear hK K
            try simp only [Act.put, List.setIfInBounds_toArray, List.set_cons_zero, List.set_cons_succ]
            refine wpAnyH_ready (rs := [54]) (by kernel_rfl) (by simp) ?_
            refine AllReadyH.cons rfl (fun K hK => ?_) AllReadyH.nil
            · have hcall := Lib.hid (tagged_any ⟨xt.toArray⟩ _ yi wdbac (by have := Hsx.out.1; simp [ByteArray.size]; omega) (by have := Hsx.out.2.2; omega) HBb.out (HLd.out.ext (below_ext HB.out HBW.out)))
              go_simp
              refine hcall.out.mono ?_
              rintro e wdbacd ⟨rfl, hbN⟩
              rw [show tagged (ByteArray.data ⟨xt.toArray⟩).toList yi = q from HY.out]
              replace HBW := Lib.hid (below_ext HBW.out hbN)
              clear hbN hcall
              refine hK.out _ _ HBW.out (fun hHeld => ?_)
              clear hK K
              try simp only [Act.put, List.setIfInBounds_toArray, List.set_cons_zero, List.set_cons_succ]
              have hgd := fun (a1 a2 : Operand) (W : World) => gd_dv .eql a1 a2 p q W
              by_cases hpq : p = q
              · have heq : ∀ W, (binOp .eql 29 (dv p) (dv q)).run Tryd.prog W = .ok (.bool true) W := fun W => by rw [eql_dv _ _ Hp.out Hq.out, decide_eq_true hpq]
                have Hpq := Lib.hid hpq
                clear hpq
                refine take_dst (some 66) (i := 55) (v := ?vEwdbacdt55) rfl rfl (by kernel_rfl) (by kernel_rfl) (by kernel_rfl) (fun _ _ _ h => h) (Or.inl ⟨by rfl, fun wS hSw => ?hyEwdbacdt55⟩) (by assumption) ?restEwdbacdt55
                case hyEwdbacdt55 => (go_simp; first | done | with_reducible rfl)
                try simp only [Act.put, List.setIfInBounds_toArray, List.set_cons_zero, List.set_cons_succ]
                refine take_dst (some 67) (i := 56) (v := ?vEwdbacdt56) rfl rfl (by kernel_rfl) (by kernel_rfl) (by kernel_rfl) (fun _ _ _ h => h) (Or.inl ⟨by rfl, fun wS hSw => ?hyEwdbacdt56⟩) (by assumption) ?restEwdbacdt56
                case hyEwdbacdt56 => (go_simp; first | done | with_reducible rfl)
                try simp only [Act.put, List.setIfInBounds_toArray, List.set_cons_zero, List.set_cons_succ]
                refine wpAnyH_done (by kernel_rfl) ?_ _
                go_wp2_with fail
                go_ret
                exact ⟨by rw [col_yes Hii.out (by rw [Hca2.out, decide_eq_false Hne.out, decide_eq_true Hpq.out]; rfl)]; rfl, below_ext HB.out HBW.out⟩
              · have heq : ∀ W, (binOp .eql 29 (dv p) (dv q)).run Tryd.prog W = .ok (.bool false) W := fun W => by rw [eql_dv _ _ Hp.out Hq.out, decide_eq_false hpq]
                have Hpq := Lib.hid hpq
                clear hpq
                refine take_dst (some 66) (i := 55) (v := ?vEwdbacdf55) rfl rfl (by kernel_rfl) (by kernel_rfl) (by kernel_rfl) (fun _ _ _ h => h) (Or.inl ⟨by rfl, fun wS hSw => ?hyEwdbacdf55⟩) (by assumption) ?restEwdbacdf55
                case hyEwdbacdf55 => (go_simp; first | done | with_reducible rfl)
                try simp only [Act.put, List.setIfInBounds_toArray, List.set_cons_zero, List.set_cons_succ]
                refine take_dst (some 67) (i := 56) (v := ?vEwdbacdf56) rfl rfl (by kernel_rfl) (by kernel_rfl) (by kernel_rfl) (fun _ _ _ h => h) (Or.inl ⟨by rfl, fun wS hSw => ?hyEwdbacdf56⟩) (by assumption) ?restEwdbacdf56
                case hyEwdbacdf56 => (go_simp; first | done | with_reducible rfl)
                try simp only [Act.put, List.setIfInBounds_toArray, List.set_cons_zero, List.set_cons_succ]
                refine wpAnyH_done (by kernel_rfl) ?_ _
                go_wp2_with fail
                go_roundw
                case rel => exact ⟨i + 1, by go_num, Hii.out, fun j hj => by rcases Nat.lt_succ_iff_lt_or_eq.1 hj with h | h; (· exact HNO.out j h); (· rw [h, Hca2.out]; rw [decide_eq_false Hpq.out]; simp), below_ext HB.out HBW.out⟩
                case measure => simp [natOf]; have := Hlt.out; omega
end Go.Proofs.YtbonebmboolemaaDoor
