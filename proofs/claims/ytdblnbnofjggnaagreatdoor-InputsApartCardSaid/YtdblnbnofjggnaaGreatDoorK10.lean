/- Parts of the proofs of chapter 49's laws: Form Chk Cfo. -/
import Derived.Test.YtdblnbnofjggnaaGreatDoorK05
import Derived.Deep.DeepCutAuto
namespace Go.Proofs.YtdblnbnofjggnaaGreatDoor
open Go.RowKit
def FormPost (x : V) (w : World) (e : Ending) (w' : World) : Prop := e = .returned (.tuple #[.int .i64 (if fm x then dp x else 0), .bool (fm x)]) ∧ Below w.heap.size w w'
theorem szs_get : ∀ {l : List V} {i : Nat} {x : V}, l[i]? = some x → sz x ≤ szs l
 | [], _, _, h => by simp at h
 | y :: r, 0, x, h => by simp at h; subst h; simp [szs]
 | y :: r, i + 1, x, h => by simp only [szs]; have := szs_get (l := r) (i := i) (x := x) (by simpa using h); omega
theorem fms_take {l : List V} {i : Nat} {x : V} (h : l[i]? = some x) : fms (l.take (i + 1)) = (fms (l.take i) && fm x) := by
 induction l generalizing i with
 | nil => simp at h
 | cons y r ih => cases i with
  | zero => simp at h; subst h; simp [fms]
  | succ i => simp only [List.take_succ_cons, fms]; rw [ih (by simpa using h), Bool.and_assoc]
theorem dps_take {l : List V} {i : Nat} {x : V} (h : l[i]? = some x) : dps (l.take (i + 1)) = max (dps (l.take i)) (dp x) := by
 induction l generalizing i with
 | nil => simp at h
 | cons y r ih => cases i with
  | zero => simp at h; subst h; simp [dps]
  | succ i => simp only [List.take_succ_cons, dps]; rw [ih (by simpa using h), Nat.max_assoc]
theorem fms_false {l : List V} {i : Nat} {x : V} (h : l[i]? = some x) (hf : fm x = false) : fms l = false := by
 induction l generalizing i with
 | nil => simp at h
 | cons y r ih => cases i with
  | zero => simp at h; subst h; simp [fms, hf]
  | succ i => simp only [fms, ih (by simpa using h), Bool.and_false]
theorem szs_len : ∀ l : List V, l.length ≤ szs l
 | [] => by simp
 | x :: r => by obtain ⟨k, n, s, l⟩ := x; have := szs_len r; simp only [szs, sz, List.length_cons]; omega
mutual
theorem dp_sz : ∀ x : V, dp x ≤ sz x
 | .mk k _ s l => by have := dps_szs l; simp only [dp, sz]; split <;> omega
theorem dps_szs : ∀ l : List V, dps l ≤ szs l
 | [] => by simp [dps]
 | x :: r => by have := dp_sz x; have := dps_szs r; simp only [dps, szs]; omega
end
def FormTab (k n : Int) (s : ByteArray) (lv : Value) (bn bs le : Bool) (w : World) (v : Value) (wx : World) : Prop :=
 v = .pointer (some ⟨w.heap.size + 1, 0, none⟩) ∧ wx = (w.alloc (.cells #[.int .i64 k, .int .i64 n, .string s, lv] 80)).alloc (.cells #[.bool false, .bool (bs && le), .bool (bn && le), .bool (bn && bs)] 208)
theorem fm_bad (k n : Int) (s : ByteArray) (l : List V) (h : k < 1 ∨ 3 < k) : fm (.mk k n s l) = false := by
 rw [fm, if_neg (by omega), if_neg (by omega), if_neg (by omega)]
theorem fm_1 (n : Int) (s : ByteArray) (l : List V) (bs : Bool) (h : s.toList.isEmpty = bs) : fm (.mk 1 n s l) = (bs && l.isEmpty) := by simp [fm, h]
theorem fm_2 (n : Int) (s : ByteArray) (l : List V) (bn : Bool) (h : (n == 0) = bn) : fm (.mk 2 n s l) = (bn && l.isEmpty) := by simp [fm, h]
theorem fm_3 (n : Int) (s : ByteArray) (l : List V) (bn bs : Bool) (h : (n == 0) = bn) (h' : s.toList.isEmpty = bs) : fm (.mk 3 n s l) = (bn && bs && fms l) := by simp [fm, h, h']
theorem dp_3 (n : Int) (s : ByteArray) (l : List V) : dp (.mk 3 n s l) = dps l + 1 := by simp [dp]
theorem dp_1 (n : Int) (s : ByteArray) (l : List V) : dp (.mk 1 n s l) = 0 := by simp [dp]
theorem dp_2 (n : Int) (s : ByteArray) (l : List V) : dp (.mk 2 n s l) = 0 := by simp [dp]
def FormRel (B : Nat) (w : World) (l : List V) (i d : Value) (wr : World) : Prop :=
 ∃ k : Nat, k ≤ l.length ∧ i = .int .i64 k ∧ d = .int .i64 (dps (l.take k)) ∧ fms (l.take k) = true ∧ dps (l.take k) ≤ 1000000000 ∧ Below B w wr
set_option maxRecDepth 100000 in
set_option maxHeartbeats 1000000 in
theorem formed_any (N : Nat) (hN : N ≤ 1000000000) : ∀ (x : V) (_ : sz x ≤ N) (v : Value) (w : World) (_ : RdV w.heap.size w x v), Calls Tryz.prog 156 #[v] w (FormPost x w) := by
 induction N with
 | zero => intro x hx; obtain ⟨k, n, s, l⟩ := x; simp [sz] at hx
 | succ N ih =>
 have IH := Lib.hid (ih (by omega)); clear ih
 intro x hx v w hr
 obtain ⟨k, n, s, l⟩ := x
 obtain ⟨oa, cap, rfl, hl⟩ := hr.form
 clear hr
 simp only [V.kind, V.n, V.s, V.l] at *
 have HL := Lib.hid hl; clear hl
 obtain ⟨le, hle⟩ : ∃ b, (((l.length : Nat) : Int) == 0) = b := ⟨_, rfl⟩
 have Hle : Hid (l.isEmpty = le) := by
  show l.isEmpty = le
  rw [← hle]; cases l <;> simp <;> omega
 obtain ⟨bn, hbn⟩ : ∃ b, (n == 0) = b := ⟨_, rfl⟩
 obtain ⟨bs, hbs⟩ : ∃ b, s.toList.isEmpty = b := ⟨_, rfl⟩
 go_enter Tryz.func156, Tryz.ntmps156
 go_upto_region 1 with fail
 go_cut [4] (fun v wx => FormTab k n s (.slice oa l.length cap) bn bs le w v wx)
 case first =>
  cases bn <;> cases bs <;> cases le
  all_goals go_wp2
  all_goals go_meet
  all_goals exact ⟨rfl, rfl⟩
 case rest =>
  obtain ⟨rfl, rfl⟩ := hcut
  have Hn := Lib.hid hbn; have Hs := Lib.hid hbs; clear hbn hbs
  by_cases hok : k = 3 ∧ bn = true ∧ bs = true
  case neg =>
   have hc : k = 1 ∨ k = 2 ∨ k = 3 ∨ k < 1 ∨ 3 < k := by omega
   rcases hc with rfl | rfl | rfl | hc | hc
   · have HF := Lib.hid (fm_1 n s l bs Hs.out)
     cases bs <;> cases le
     all_goals go_wp2
     all_goals go_ret2
     all_goals exact ⟨by rw [HF.out, Hle.out, dp_1]; rfl, by repeat (first | exact Below.refl _ _ | refine Below.alloc ?_ (by simp) _)⟩
   · have HF := Lib.hid (fm_2 n s l bn Hn.out)
     cases bn <;> cases le
     all_goals go_wp2
     all_goals go_ret2
     all_goals exact ⟨by rw [HF.out, Hle.out, dp_2]; rfl, by repeat (first | exact Below.refl _ _ | refine Below.alloc ?_ (by simp) _)⟩
   · have HF := Lib.hid (fm_3 n s l bn bs Hn.out Hs.out)
     obtain ⟨bb, hbb, rfl⟩ : ∃ bb, (bn && bs) = bb ∧ bb = false := ⟨_, rfl, by simpa using hok⟩
     clear hok
     go_wp2
     go_ret2
     exact ⟨by rw [HF.out, hbb]; rfl, by repeat (first | exact Below.refl _ _ | refine Below.alloc ?_ (by simp) _)⟩
   all_goals
    have HF := Lib.hid (fm_bad k n s l (by omega))
    clear hok
    go_wp2
    go_ret2
    exact ⟨by rw [HF.out]; rfl, by repeat (first | exact Below.refl _ _ | refine Below.alloc ?_ (by simp) _)⟩
  case pos =>
   obtain ⟨rfl, rfl, rfl⟩ := hok
   have hszl : szs l ≤ N := by have := hx; simp only [sz] at this; omega
   have hll : l.length ≤ 1000000000 := by have := szs_len l; omega
   go_wp2
   go_loopw [2, 57] (fun d i wr => FormRel w.heap.size w l i d wr) (fun _ i _ => l.length - (intOf i).toNat)
   case atStart => exact ⟨0, Nat.zero_le _, rfl, rfl, rfl, by simp [dps], by repeat (first | exact Below.refl _ _ | refine Below.alloc ?_ (by simp) _)⟩
   case round =>
    obtain ⟨k, hkl, rfl, rfl, hfm, hdp, hb⟩ := hrel
    have Hfm := Lib.hid hfm; clear hfm
    by_cases hlt : k < l.length
    case neg =>
     have HF := Lib.hid (fm_3 n s l true true Hn.out Hs.out)
     have hkk : Hid (l.take k = l) := List.take_of_length_le (by omega)
     go_wp2
     go_ret2
     have hfl : fms l = true := hkk.out ▸ Hfm.out
     exact ⟨by rw [HF.out, hfl, dp_3, hkk.out]; simp, hb⟩
    case pos =>
     obtain ⟨x, hx'⟩ : ∃ x, l[k]? = some x := ⟨l[k], by simp [hlt]⟩
     have Hx := Lib.hid hx'; clear hx'
     rcases HL.out with ⟨rfl, _⟩ | ⟨_, c, o, cap', he, hlm, hat⟩
     · simp at hlt
     injection he with he1 he2 he3
     subst he1
     have hv := V.at_keep (Nat.le_refl _) hb.block x c (o + k * 4) (V.ats_get hat k x Hx.out)
     obtain ⟨hcb, c0, c1, c2, xo, xc, c3, hrd⟩ := V.at_def hv
     have hrd' : ∀ ob, RdV (wr.alloc ob).heap.size (wr.alloc ob) x (.agg #[.int .i64 x.kind, .int .i64 x.n, .string x.s, .slice xo x.l.length xc]) := fun ob =>
      hrd.keep (by have := hb.size; simp; omega) ((Below.refl _ wr).alloc hb.size ob).block
     have hsx := szs_get Hx.out
     have hdx := dp_sz x
     clear hat hv hrd he2 he3
     have hb2 : ∀ ob w', Below (wr.alloc ob).heap.size (wr.alloc ob) w' → Below w.heap.size w w' := fun ob w' hb' => (hb.alloc hb.size ob).trans (hb'.mono (by have := hb.size; simp; omega))
     rcases Bool.eq_false_or_eq_true (fm x) with hfx | hfx
     · go_wp2_with (go_at_call 156; refine (IH.out x (by omega) _ _ (hrd' _)).mono ?_; rintro e w' ⟨rfl, hb'⟩)
       go_roundw
       case rel =>
        refine ⟨k + 1, by omega, by go_num, ?_, ?_, ?_, hb2 _ _ hb'⟩
        · rw [dps_take Hx.out]; congr 1; split <;> omega
        · rw [fms_take Hx.out, Hfm.out, hfx]; rfl
        · rw [dps_take Hx.out]; omega
       case measure => simp [intOf]; omega
     · go_wp2_with (go_at_call 156; refine (IH.out x (by omega) _ _ (hrd' _)).mono ?_; rintro e w' ⟨rfl, hb'⟩)
       have HF := Lib.hid (fm_3 n s l true true Hn.out Hs.out)
       have hfl := fms_false Hx.out hfx
       go_ret2
       exact ⟨by rw [HF.out, hfl]; rfl, hb2 _ _ hb'⟩
end Go.Proofs.YtdblnbnofjggnaaGreatDoor
namespace Go.Proofs.YtdblnbnofjggnaaGreatDoor
open Go.RowKit
theorem RdV.alloc {w : World} {x : V} {v : Value} (h : RdV w.heap.size w x v) (ob : Obj) : RdV (w.alloc ob).heap.size (w.alloc ob) x v :=
 h.keep (by simp) ((Below.refl _ w).alloc (Nat.le_refl _) ob).block
theorem SlV.alloc {w : World} {x : List V} {v : Value} (h : SlV w.heap.size w x v) (ob : Obj) : SlV (w.alloc ob).heap.size (w.alloc ob) x v :=
 h.keep (by simp) ((Below.refl _ w).alloc (Nat.le_refl _) ob).block
theorem RdV.ext {w w' : World} {x : V} {v : Value} (h : RdV w.heap.size w x v) (hb : Below w.heap.size w w') : RdV w'.heap.size w' x v := h.keep hb.size hb.block
theorem SlV.ext {w w' : World} {x : List V} {v : Value} (h : SlV w.heap.size w x v) (hb : Below w.heap.size w w') : SlV w'.heap.size w' x v := h.keep hb.size hb.block
def ck (x : V) : Int := if fm x then (if 16 < dp x then 2 else 0) else 1
def IntPost (n : Int) (w : World) (e : Ending) (w' : World) : Prop := e = .returned (.int .i64 n) ∧ Below w.heap.size w w'
set_option maxRecDepth 100000 in
set_option maxHeartbeats 1000000 in
theorem check_any (x : V) (hx : sz x ≤ 100000000) (v : Value) (w : World) (hr : RdV w.heap.size w x v) : Calls Tryz.prog 102 #[v] w (IntPost (ck x) w) := by
 have HR := Lib.hid (fun ob => hr.alloc ob)
 obtain ⟨oa, cap, rfl, hl⟩ := hr.form
 have hd := dp_sz x
 clear hr hl
 rcases Bool.eq_false_or_eq_true (fm x) with hfx | hfx
 · by_cases h16 : 16 < dp x
   all_goals
    have hck := Lib.hid (show ck x = (if 16 < dp x then 2 else 0) from by simp [ck, hfx])
    go_enter Tryz.func102, Tryz.ntmps102
    go_wp2_with (go_at_call 156; refine (formed_any 100000000 (by decide) x hx _ _ (HR.out _)).mono ?_; rintro e w' ⟨rfl, hb'⟩)
    go_ret
    exact ⟨by rw [hck.out]; first | rw [if_pos h16]; rfl | rw [if_neg h16]; rfl, below_after hb'⟩
 · have hck := Lib.hid (show ck x = 1 from by simp [ck, hfx])
   go_enter Tryz.func102, Tryz.ntmps102
   go_wp2_with (go_at_call 156; refine (formed_any 100000000 (by decide) x hx _ _ (HR.out _)).mono ?_; rintro e w' ⟨rfl, hb'⟩)
   go_ret
   exact ⟨by rw [hck.out]; rfl, below_after hb'⟩
end Go.Proofs.YtdblnbnofjggnaaGreatDoor
namespace Go.Proofs.YtdblnbnofjggnaaGreatDoor
open Go.RowKit
theorem str_eq {s t : ByteArray} (h : s.toList = t.toList) : s = t := by
 rw [ByteArray.toList_eq, ByteArray.toList_eq] at h
 exact ByteArray.ext (Array.toList_inj.1 h)
theorem RdV.drew {w : World} {x : V} {v : Value} (h : RdV w.heap.size w x v) : RdV w.drew.heap.size w.drew x v := h.keep (Nat.le_refl _) (fun _ _ => rfl)
end Go.Proofs.YtdblnbnofjggnaaGreatDoor
