/- Parts of the proofs of chapter 49's laws: Lex. -/
import Derived.Test.YtdblnbnofjggnaaGreatDoorK05
import Derived.Lib.Strings
import Derived.Lib.Slices
import Derived.Lib.Walk
import Derived.Lib.Bytealg
namespace Go.Proofs.YtdblnbnofjggnaaGreatDoor
open Go.RowKit
set_option maxHeartbeats 1000000 in
set_option maxRecDepth 100000 in
theorem stringslite_IndexByte (s : ByteArray) (c : Int) (w : World) :
 Calls Tryz.prog 206 #[.string s, .int .u8 c] w fun e w' => e = .returned (.int .i64 (Lib.indexByte s.data.toList c.toNat.toUInt8)) ∧ w' = w := by
 go_enter Tryz.func206, Tryz.ntmps206
 go_wp2
 rw [run_callFunc_extern Tryz.func217 (by kernel_rfl) (by kernel_rfl) (by kernel_rfl) (e := Extern.BytealgIndexByte.indexByte) (by kernel_rfl), Lib.run_indexByteString]
 simp only [Result.andThen]
 rw [Oper.upon_value]
 go_wp2
 go_ret
 exact ⟨rfl, rfl⟩
set_option maxHeartbeats 1000000 in
theorem strings_IndexByte (s : ByteArray) (c : Int) (w : World) :
 Calls Tryz.prog 192 #[.string s, .int .u8 c] w fun e w' => e = .returned (.int .i64 (Lib.indexByte s.data.toList c.toNat.toUInt8)) ∧ w = w' := by
 go_enter Tryz.func192, Tryz.ntmps192
 go_wp2_with (go_at_call 206; refine (stringslite_IndexByte _ _ _).mono ?_; rintro e w' ⟨rfl, rfl⟩)
 go_ret
 exact ⟨rfl, rfl⟩
def letZ (c : Int) : Bool := decide (97 ≤ c ∧ c ≤ 122 ∨ 65 ≤ c ∧ c ≤ 90)
def partZ (c : Int) : Bool := decide (97 ≤ c ∧ c ≤ 122 ∨ 65 ≤ c ∧ c ≤ 90 ∨ 48 ≤ c ∧ c ≤ 57 ∨ c = 95)
def ClsPost (c : Int) (w : World) (e : Ending) (w' : World) : Prop := ∃ k : Int, e = .returned (.int .i64 k) ∧ w = w' ∧ (k == 2) = letZ c ∧ (k == 2 || k == 3 || k == 5) = partZ c
theorem ClsPost.mk {c k : Int} {w : World} (h1 : (k == 2) = letZ c) (h2 : (k == 2 || k == 3 || k == 5) = partZ c) : ClsPost c w (.returned (.int .i64 k)) w := ⟨k, rfl, rfl, h1, h2⟩
set_option maxHeartbeats 2000000 in
theorem class_any (c : Int) (w : World) : Calls Tryz.prog 152 #[.int .u8 c] w (ClsPost c w) := by
 obtain ⟨q, hq⟩ : ∃ q, Lib.indexByte [123, 125, 40, 41, 59, 44, 61, 35, 47, 60, 33, 45, 46] c.toNat.toUInt8 = q := ⟨_, rfl⟩
 go_enter Tryz.func152, Tryz.ntmps152
 go_wp2_with (go_at_call 192; refine (strings_IndexByte _ _ _).mono ?_; rintro e w' ⟨rfl, rfl⟩)
 all_goals go_ret
 all_goals refine ClsPost.mk ?_ ?_
 all_goals (try simp only [beq_iff_eq, beq_eq_false_iff_ne, ne_eq] at *)
 all_goals (simp [letZ, partZ]; try omega)
def nameB (l : List UInt8) : Bool := decide (1 ≤ l.length ∧ l.length ≤ 32) && letZ ((l.headD 0).toNat : Int) && l.all fun c => partZ (c.toNat : Int)
theorem nameB_len {l : List UInt8} (h : nameB l = true) : 1 ≤ l.length ∧ l.length ≤ 32 := by
 unfold nameB at h; simp only [Bool.and_eq_true, decide_eq_true_eq] at h; exact h.1.1
theorem nameB_long {l : List UInt8} (h : 32 < l.length) : nameB l = false := by
 cases hb : nameB l
 · rfl
 · have := nameB_len hb; omega
theorem head_at (s : ByteArray) (h : 0 < s.size) : s.data.toList.headD 0 = s[0] := by
 obtain ⟨⟨l⟩⟩ := s
 cases l with
 | nil => simp [ByteArray.size] at h
 | cons a r => rfl
theorem get_at (s : ByteArray) (k : Nat) (h : k < s.size) : s.data.toList[k]? = some s[k] := by
 rw [List.getElem?_eq_getElem (by simpa using h)]; rfl
theorem nameB_first (s : ByteArray) (h : 0 < s.size) (hl : letZ (s[0].toNat : Int) = false) : nameB s.data.toList = false := by
 unfold nameB; rw [head_at s h, hl]; simp
theorem nameB_part (s : ByteArray) (k : Nat) (h : k < s.size) (hl : partZ (s[k].toNat : Int) = false) : nameB s.data.toList = false := by
 have hm : s[k] ∈ s.data.toList := List.mem_of_getElem? (get_at s k h)
 have ha : (s.data.toList.all fun c => partZ (c.toNat : Int)) = false := by
  rw [List.all_eq_false]; exact ⟨_, hm, by rw [hl]; decide⟩
 unfold nameB; rw [ha]; simp
theorem all_take (s : ByteArray) (k : Nat) (h : k < s.size) (ha : ((s.data.toList.take k).all fun c => partZ (c.toNat : Int)) = true) (hl : partZ (s[k].toNat : Int) = true) : ((s.data.toList.take (k + 1)).all fun c => partZ (c.toNat : Int)) = true := by
 rw [List.take_add_one, get_at s k h, List.all_append, ha]; simp [hl]
theorem nameB_all (s : ByteArray) (h : 0 < s.size) (h2 : s.size ≤ 32) (hl : letZ (s[0].toNat : Int) = true) (ha : ((s.data.toList.take s.size).all fun c => partZ (c.toNat : Int)) = true) : nameB s.data.toList = true := by
 rw [List.take_of_length_le (by simp)] at ha
 unfold nameB
 rw [head_at s h, hl, ha]; simp; omega
def NamePost (s : ByteArray) (w : World) (e : Ending) (w' : World) : Prop := e = .returned (.bool (nameB s.data.toList)) ∧ w = w'
theorem NamePost.mk {s : ByteArray} {b : Bool} {w : World} (h : nameB s.data.toList = b) : NamePost s w (.returned (.bool b)) w := ⟨by rw [h], rfl⟩
theorem ne_bool {k n : Int} {b : Bool} (h : (k == n) = b) : (k != n) = !b := by rw [← h]; rfl
def NmRel (s : ByteArray) (w : World) (i : Value) (wr : World) : Prop := ∃ k : Nat, k ≤ s.size ∧ i = .int .i64 k ∧ ((s.data.toList.take k).all fun c => partZ (c.toNat : Int)) = true ∧ w = wr
set_option maxHeartbeats 2000000 in
theorem name_any (s : ByteArray) (hs : s.size ≤ 9223372036854775807) (w : World) : Calls Tryz.prog 79 #[.string s] w (NamePost s w) := by
 by_cases h0 : s.size = 0
 · obtain rfl : s = ⟨#[]⟩ := by
    obtain ⟨⟨l⟩⟩ := s
    cases l with
    | nil => rfl
    | cons a r => simp [ByteArray.size] at h0
   clear h0 hs
   go_enter Tryz.func79, Tryz.ntmps79
   go_wp2
   go_ret
   exact NamePost.mk (by decide)
 have f1 : ¬ s.toList = [] := by
  intro h
  rw [ByteArray.toList_eq] at h
  have h2 : s.data.toList.length = 0 := by rw [h]; rfl
  have h3 : s.size = s.data.toList.length := by simp
  omega
 have f2 : s.toList.isEmpty = false := by cases h : s.toList <;> simp_all
 have h1 : 0 < s.size := by omega
 by_cases h2 : 32 < s.size
 · have t2 : decide ((32 : Int) < (s.size : Int)) = true := by simp; omega
   have hN := Lib.hid (nameB_long (l := s.data.toList) (by simpa using h2))
   clear h0 h2
   go_enter Tryz.func79, Tryz.ntmps79
   go_wp2
   go_ret
   exact NamePost.mk hN.out
 have t2 : decide ((32 : Int) < (s.size : Int)) = false := by simp; omega
 have H2 : Hid (s.size ≤ 32) := by show _ ≤ _; omega
 clear h0 h2
 go_enter Tryz.func79, Tryz.ntmps79
 go_wp2_with fail
 refine (class_any _ _).mono ?_
 rintro e w1 ⟨k, rfl, rfl, hk, hk2⟩
 cases hl : letZ (s[0].toNat : Int)
 · rw [hl] at hk
   have hkn := ne_bool hk
   have hN := Lib.hid (nameB_first s h1 hl)
   clear hk2 hl
   go_wp2_with fail
   go_ret
   exact NamePost.mk hN.out
 · rw [hl] at hk
   have hkn := ne_bool hk
   have HL := Lib.hid hl
   clear hk2 hl
   go_wp2_with fail
   clear hk hkn
   go_loopw [20] (fun i wr => NmRel s w i wr) (fun i _ => s.size - (intOf i).toNat)
   case atStart => exact ⟨0, by omega, rfl, rfl, rfl⟩
   case round =>
    obtain ⟨j, hj, rfl, ha, rfl⟩ := hrel
    have HA := Lib.hid ha; clear ha
    by_cases hlt : j < s.size
    · have tj : decide ((j : Int) < (s.size : Int)) = true := by simp; omega
      have tj' : decide (j < s.size) = true := by simp; omega
      go_wp2_with fail
      refine (class_any _ _).mono ?_
      rintro e w1 ⟨k2, rfl, rfl, _, hp⟩
      cases h2 : (k2 == 2) <;> cases h3 : (k2 == 3) <;> cases h5 : (k2 == 5)
      all_goals
       rw [h2, h3, h5] at hp
       have n2 := ne_bool h2; have n3 := ne_bool h3; have n5 := ne_bool h5
      · have hN := Lib.hid (nameB_part s j hlt hp.symm)
        clear hp
        go_wp2_with fail
        go_ret
        exact NamePost.mk hN.out
      all_goals
       have HN := Lib.hid (all_take s j hlt HA.out hp.symm)
       clear hp
       go_wp2_with fail
       go_roundw
       case rel => exact ⟨j + 1, by omega, by go_num, HN.out, rfl⟩
       case measure => simp [intOf]; omega
    · obtain rfl : j = s.size := by omega
      have tj : decide ((s.size : Int) < (s.size : Int)) = false := by simp
      have hN := Lib.hid (nameB_all s h1 H2.out HL.out HA.out)
      go_wp2_with fail
      go_ret
      exact NamePost.mk hN.out
end Go.Proofs.YtdblnbnofjggnaaGreatDoor
