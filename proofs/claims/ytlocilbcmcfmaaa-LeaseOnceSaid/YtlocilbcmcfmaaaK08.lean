/- Merged: Chk Enc Wri Wr2 Wr3 Eco Rdr Rdn. -/
import Derived.Test.YtlocilbcmcfmaaaK01
import Derived.Test.YtlocilbcmcfmaaaK07
import Derived.Deep.RegionHeld3
import Derived.StillTailTactics
import Derived.Laws.EntriesVeiled
/- codec.Check; the reference's Formed, Depth, Check; the makers of values. -/
namespace Go.Proofs.Ytlocilbcmcfmaaa
open Go.RowKit

theorem RdV.alloc {w : World} {x : V} {v : Value} (h : RdV w.heap.size w x v) (ob : Obj) : RdV (w.alloc ob).heap.size (w.alloc ob) x v :=
  h.keep (by simp) ((Below.refl _ w).alloc (Nat.le_refl _) ob).block
theorem SlV.alloc {w : World} {x : List V} {v : Value} (h : SlV w.heap.size w x v) (ob : Obj) : SlV (w.alloc ob).heap.size (w.alloc ob) x v :=
  h.keep (by simp) ((Below.refl _ w).alloc (Nat.le_refl _) ob).block
theorem RdV.ext {w w' : World} {x : V} {v : Value} (h : RdV w.heap.size w x v) (hb : Below w.heap.size w w') : RdV w'.heap.size w' x v := h.keep hb.size hb.block
theorem SlV.ext {w w' : World} {x : List V} {v : Value} (h : SlV w.heap.size w x v) (hb : Below w.heap.size w w') : SlV w'.heap.size w' x v := h.keep hb.size hb.block

theorem SlV.elem {B : Nat} {w wr : World} {l : List V} {oa : Option Addr} {cap : Nat} (h : SlV B w l (.slice oa l.length cap)) (hs : ∀ k, k < B → wr.heap[k]? = w.heap[k]?) (hB : B ≤ wr.heap.size) {k : Nat} {x : V} (hx : l[k]? = some x) :
    ∃ c o xo xc, oa = some ⟨c, o, none⟩ ∧ c < B ∧ wr.cell? ⟨c, o + k * 4, none⟩ = some (.int .i64 x.kind) ∧ wr.cell? ⟨c, o + k * 4 + 1, none⟩ = some (.int .i64 x.n) ∧ wr.cell? ⟨c, o + k * 4 + 2, none⟩ = some (.string x.s) ∧
      wr.cell? ⟨c, o + k * 4 + 3, none⟩ = some (.slice xo x.l.length xc) ∧ RdV wr.heap.size wr x (.agg #[.int .i64 x.kind, .int .i64 x.n, .string x.s, .slice xo x.l.length xc]) := by
  rcases h with ⟨rfl, _⟩ | ⟨_, c, o, cap', he, hlm, hat⟩
  · simp at hx
  injection he with he1 he2 he3
  have hv := V.at_keep (Nat.le_refl _) hs x c (o + k * 4) (V.ats_get hat k x hx)
  obtain ⟨hcb, c0, c1, c2, xo, xc, c3, hrd⟩ := V.at_def hv
  exact ⟨c, o, xo, xc, he1, hcb, c0, c1, c2, c3, hrd.keep hB (fun _ _ => rfl)⟩

/-- what Check answers -/
def ck (x : V) : Int := if fm x then (if 16 < dp x then 2 else 0) else 1
def IntPost (n : Int) (w : World) (e : Ending) (w' : World) : Prop := e = .returned (.int .i64 n) ∧ Below w.heap.size w w'
def BoolPost (b : Bool) (w : World) (e : Ending) (w' : World) : Prop := e = .returned (.bool b) ∧ Below w.heap.size w w'

set_option maxRecDepth 100000 in
set_option maxHeartbeats 1000000 in
theorem check_any (x : V) (hx : sz x ≤ 100000000) (v : Value) (w : World) (hr : RdV w.heap.size w x v) : Calls Try.prog 32 #[v] w (IntPost (ck x) w) := by
  have HR := Lib.hid (fun ob => hr.alloc ob)
  obtain ⟨oa, cap, rfl, hl⟩ := hr.form
  have hd := dp_sz x
  clear hr hl
  rcases Bool.eq_false_or_eq_true (fm x) with hfx | hfx
  · by_cases h16 : 16 < dp x
    all_goals
      have hck := Lib.hid (show ck x = (if 16 < dp x then 2 else 0) from by simp [ck, hfx])
      go_enter Try.func32, Try.ntmps32
      go_wp2_with (go_at_call 42; refine (formed_any 100000000 (by decide) x hx _ _ (HR.out _)).mono ?_; rintro e w' ⟨rfl, hb'⟩)
      go_ret
      exact ⟨by rw [hck.out]; first | rw [if_pos h16]; rfl | rw [if_neg h16]; rfl, below_after hb'⟩
  · have hck := Lib.hid (show ck x = 1 from by simp [ck, hfx])
    go_enter Try.func32, Try.ntmps32
    go_wp2_with (go_at_call 42; refine (formed_any 100000000 (by decide) x hx _ _ (HR.out _)).mono ?_; rintro e w' ⟨rfl, hb'⟩)
    go_ret
    exact ⟨by rw [hck.out]; rfl, below_after hb'⟩

end Go.Proofs.Ytlocilbcmcfmaaa
/- The encoding as a Lean function; codec.unsigned and the reference's unsigned. -/
namespace Go.Proofs.Ytlocilbcmcfmaaa
open Go.RowKit

theorem OwnB.drew {e : TypeId} {w : World} {base : Nat} {v : Value} {l : List UInt8} (h : OwnB e w base v l) : OwnB e w.drew base v l := h
theorem grown_drew {w w1 : World} {G : Option Nat} (h : w.grownBy w1 G) : w.grownBy w1.drew G := ⟨h.os, h.tape, h.output, h.size, h.block⟩
theorem cell_grown {w w' : World} {row : Option Nat} (hg : w.grownBy w' row) {a : Addr} {v : Value} (h : w.cell? a = some v) (hne : some a.block ≠ row) : w'.cell? a = some v := hg.cell h hne
/-- the unsigned form of a number -/
def uns (n : Int) : Nat := if 0 ≤ n then (2 * n).toNat else (2 * (-(n + 1)) + 1).toNat
theorem uns_lt (n : Int) (h : I64 n) : uns n < 18446744073709551616 := by unfold I64 at h; unfold uns; split <;> omega
/-- the bytes of a text -/
def sbytes (s : ByteArray) : List UInt8 := s.toList
mutual
/-- the encoding of a value -/
def enc : V → List UInt8
  | .mk k n s l => if k = 1 then 1 :: num (uns n) else if k = 2 then 2 :: (num s.size ++ s.data.toList) else 3 :: (num l.length ++ encs l)
def encs : List V → List UInt8
  | [] => []
  | x :: r => enc x ++ encs r
end
theorem enc_1 (n : Int) (s : ByteArray) (l : List V) : enc (.mk 1 n s l) = [1] ++ num (uns n) := by simp [enc]
theorem enc_2 (n : Int) (s : ByteArray) (l : List V) : enc (.mk 2 n s l) = [2] ++ num s.size ++ s.data.toList := by simp [enc]
theorem enc_3 (n : Int) (s : ByteArray) (l : List V) : enc (.mk 3 n s l) = [3] ++ num l.length ++ encs l := by simp [enc]
mutual
theorem enc_sz : ∀ x : V, (enc x).length ≤ sz x
  | .mk k n s l => by
    have h1 := numF_len 9 (uns n); have h2 := numF_len 9 s.size; have h3 := numF_len 9 l.length; have h4 := encs_sz l
    have h5 : s.data.toList.length = s.size := by simp
    simp only [enc, sz]
    split
    · simp only [List.length_cons, num]; omega
    · split
      · simp only [List.length_cons, List.length_append, num, h5]; omega
      · simp only [List.length_cons, List.length_append, num]; omega
theorem encs_sz : ∀ l : List V, (encs l).length ≤ szs l
  | [] => by simp [encs]
  | x :: r => by have := enc_sz x; have := encs_sz r; simp only [encs, szs, List.length_append]; omega
end
theorem encs_take {l : List V} {i : Nat} {x : V} (h : l[i]? = some x) : encs (l.take (i + 1)) = encs (l.take i) ++ enc x := by
  induction l generalizing i with
  | nil => simp at h
  | cons y r ih => cases i with
    | zero => simp at h; subst h; simp [encs]
    | succ i => simp only [List.take_succ_cons, encs]; rw [ih (by simpa using h), List.append_assoc]

theorem uns_pos (n : Int) (h0 : 0 ≤ n) (hn : I64 n) : bits BinOp.xor IntKind.u64 (IntKind.u64.wrap (IntKind.u64.wrap n * 2)) (IntKind.u64.wrap (n / 9223372036854775808)) = (uns n : Int) := by
  unfold I64 at hn
  obtain ⟨m, rfl⟩ := Int.eq_ofNat_of_zero_le h0
  rw [IntKind.wrap_u64, IntKind.wrap_u64, IntKind.wrap_u64]
  rw [show (m : Int) % 18446744073709551616 * 2 % 18446744073709551616 = ((2 * m : Nat) : Int) from by omega, show (m : Int) / 9223372036854775808 % 18446744073709551616 = ((0 : Nat) : Int) from by omega,
    bits_xor_u64_nat _ _ (by omega) (by omega), Nat.xor_zero]
  unfold uns; rw [if_pos h0]; omega
theorem xor_ones (a : Nat) (h : a < 18446744073709551616) : a ^^^ 18446744073709551615 = 18446744073709551615 - a := by
  have h1 : (BitVec.ofNat 64 a ^^^ BitVec.allOnes 64).toNat = (~~~ BitVec.ofNat 64 a).toNat := by rw [BitVec.xor_allOnes]
  rw [BitVec.toNat_xor, BitVec.toNat_not, BitVec.toNat_allOnes, BitVec.toNat_ofNat, Nat.mod_eq_of_lt (by simpa using h)] at h1
  simpa using h1
theorem uns_neg (n : Int) (h0 : n < 0) (hn : I64 n) : bits BinOp.xor IntKind.u64 (IntKind.u64.wrap (IntKind.u64.wrap n * 2)) (IntKind.u64.wrap (n / 9223372036854775808)) = (uns n : Int) := by
  unfold I64 at hn
  rw [IntKind.wrap_u64, IntKind.wrap_u64, IntKind.wrap_u64]
  obtain ⟨m, rfl⟩ : ∃ m : Nat, n = -(m : Int) - 1 := ⟨(-n - 1).toNat, by omega⟩
  rw [show (-(m : Int) - 1) % 18446744073709551616 * 2 % 18446744073709551616 = ((18446744073709551614 - 2 * m : Nat) : Int) from by omega, show (-(m : Int) - 1) / 9223372036854775808 % 18446744073709551616 = ((18446744073709551615 : Nat) : Int) from by omega,
    bits_xor_u64_nat _ _ (by omega) (by omega), xor_ones _ (by omega)]
  unfold uns; rw [if_neg (by omega)]; omega

set_option maxHeartbeats 1000000 in
theorem unsigned_any (n : Int) (hn : Hid (I64 n)) (w : World) : Calls Try.prog 45 #[.int .i64 n] w fun e w' => e = .returned (.int .u64 (uns n)) ∧ w = w' := by
  go_enter Try.func45, Try.ntmps45
  go_wp2
  go_ret
  refine ⟨?_, rfl⟩
  rcases Int.lt_or_le n 0 with h | h
  · exact congrArg (fun z => Ending.returned (.int .u64 z)) (uns_neg n h hn.out)
  · exact congrArg (fun z => Ending.returned (.int .u64 z)) (uns_pos n h hn.out)

end Go.Proofs.Ytlocilbcmcfmaaa
/- codec's writers. -/
namespace Go.Proofs.Ytlocilbcmcfmaaa
open Go.RowKit

set_option maxRecDepth 100000 in
set_option maxHeartbeats 1000000 in
theorem write1_any (base : Nat) (b : Value) (pre : List UInt8) (n : Int) (hn : Hid (I64 n)) (s : ByteArray) (lv : Value) (w : World) (hown : OwnB 5 w base b pre) (hsz : pre.length ≤ 10000000000) (hbase : base ≤ w.heap.size) (out : List UInt8) (hout : Hid (out = pre ++ ([1] ++ num (uns n)))) :
    Calls Try.prog 43 #[b, .agg #[.int .i64 1, .int .i64 n, .string s, lv]] w (NumPost base b out w) := by
  go_enter Try.func43, Try.ntmps43
  go_wp2
  have hb0 : ∀ g, b.ownBlock = some g → g < w.heap.size := fun g hg => (hown.lt g hg).2
  have hown1 := hown.alloc (.cells #[.int .i64 1, .int .i64 n, .string s, lv] 54)
  have hne : some w.heap.size ≠ b.ownBlock := fun h => by have := hb0 _ h.symm; omega
  go_region_held3 (fun w' => w'.cell? ⟨w.heap.size, 1, none⟩ = some (.int .i64 n)) (first | go_keep | exact cell_grown (row := b.ownBlock) (by assumption) (by simp) hne)
    (first
     | (refine step_append_1 (e := 5) Try.underlying46 (by kernel_rfl) rfl _ _ rfl base b pre rfl ?own _ 1 1 rfl ?c1 rfl ?c2 ?c3 ?_
        case own => exact (hown1.alloc _).drew
        case c1 => simp
        case c2 => omega
        case c3 => simp; omega
        intro v' w1 ho2 hg2 hn2)
     | (go_at_call 45; refine (unsigned_any n hn _).mono ?_; rintro e w' ⟨rfl, rfl⟩)
     | (go_at_call 44; refine (numeral_any base v' (pre ++ [1]) (uns n) (uns_lt n hn.out) _ ho2 ?d1 ?d2).mono ?_
        case d1 => simp; omega
        case d2 => have := hg2.size; simp at this; omega
        rintro e w2 ⟨v2, rfl, ho3, hg3, hn3⟩
        have hg4 := grown_trans hg2 hg3 hn2))
  go_wp2
  go_ret
  refine ⟨v2, rfl, ?_, grown_trans (grown_drew (grown_alloc (grown_alloc (grown_refl w _) _) _)) hg4 (.inl rfl), ?_⟩
  · rw [hout.out, ← List.append_assoc]; exact ho3
  · exact Next.trans (Next.trans (Next.refl w b) (by simp; omega) hn2) (by have := hg2.size; simp at this; omega) hn3
end Go.Proofs.Ytlocilbcmcfmaaa
/- codec's writer of texts. -/
namespace Go.Proofs.Ytlocilbcmcfmaaa
open Go.RowKit

set_option maxRecDepth 100000 in
set_option maxHeartbeats 200000 in
theorem write2_any (base : Nat) (b : Value) (pre : List UInt8) (n : Int) (s : ByteArray) (lv : Value) (w : World) (hown : OwnB 5 w base b pre) (hsz : pre.length ≤ 10000000000) (hss : s.size ≤ 50000000) (hbase : base ≤ w.heap.size) (out : List UInt8) (hout : Hid (out = pre ++ ([2] ++ num s.size ++ s.data.toList))) :
    Calls Try.prog 46 #[b, .agg #[.int .i64 2, .int .i64 n, .string s, lv]] w (NumPost base b out w) := by
  have hb0 : ∀ g, b.ownBlock = some g → g < w.heap.size := fun g hg => (hown.lt g hg).2
  have hown1 := hown.alloc (.cells #[.int .i64 2, .int .i64 n, .string s, lv] 54)
  have hne : some w.heap.size ≠ b.ownBlock := fun h => by have := hb0 _ h.symm; omega
  have hsd : s.data.toList.length = s.size := by simp
  have Hsd := Lib.hid hsd; clear hsd
  have hw : IntKind.u64.wrap (s.size : Int) = (s.size : Int) := by rw [IntKind.wrap_u64]; omega
  go_enter Try.func46, Try.ntmps46
  go_wp2
  go_region_held3 (fun w' => w'.cell? ⟨w.heap.size, 2, none⟩ = some (.string s)) (first | go_keep | exact cell_grown (row := b.ownBlock) (by assumption) (by simp) hne)
    (first
     | (go_at_call 44; refine (numeral_any base v' (pre ++ [2]) s.size ?d0 _ ho2 ?d1 ?d2).mono ?_
        case d0 => show s.size < _; omega
        case d1 => simp; omega
        case d2 => have := hg2.size; simp at this; omega
        rintro e w2 ⟨v2, rfl, ho3, hg3, hn3⟩
        have hg4 := grown_trans hg2 hg3 hn2)
     | (refine step_append_1 (e := 5) Try.underlying46 (by kernel_rfl) rfl _ _ rfl base b pre rfl ?own _ 2 2 rfl ?c1 rfl ?c2 ?c3 ?_
        case own => exact (hown1.alloc _).drew
        case c1 => simp
        case c2 => omega
        case c3 => simp; omega
        intro v' w1 ho2 hg2 hn2)
     | (refine step_append_B (e := 5) Try.underlying46 (by kernel_rfl) rfl _ _ rfl base _ (pre ++ [2] ++ num s.size) rfl ?own _ s.data.toList rfl ?c1 ?c2 ?c3 ?_
        case own => exact ho3
        case c1 => exact SrcB.ofString Try.underlying9 s _
        case c2 => have h9 := numF_len 9 s.size; rw [Hsd.out]; simp [num]; omega
        case c3 => have h8 := hg2.size; have h9 := hg3.size; simp at h8; omega
        intro v3 w3 ho4 hg5 hn4
        have hg6 := grown_trans hg4 hg5 (Next.trans hn2 hg2.size hn3)))
  go_wp2
  go_ret
  refine ⟨v3, rfl, ?_, grown_trans (grown_drew (grown_alloc (grown_alloc (grown_refl w _) _) _)) hg6 (.inl rfl), ?_⟩
  · rw [hout.out, ← List.append_assoc, ← List.append_assoc]; exact ho4
  · have h8 := hg2.size; have h9 := hg3.size; simp at h8
    exact Next.trans (Next.trans (Next.trans (Next.refl w b) (by simp; omega) hn2) (by omega) hn3) (by omega) hn4
end Go.Proofs.Ytlocilbcmcfmaaa
/- codec's writer of lists. -/
namespace Go.Proofs.Ytlocilbcmcfmaaa
open Go.RowKit

/-- the writers in memory -/
structure WrAt (B : Nat) (w : World) (tb G : Nat) : Prop where
  tlt : tb < B
  glt : G < B
  var : w.cell? ⟨tb, 0, none⟩ = some (.pointer (some ⟨G, 0, none⟩))
  w1 : w.cell? ⟨G, 1, none⟩ = some (.func (.func 43) #[] #[])
  w2 : w.cell? ⟨G, 2, none⟩ = some (.func (.func 46) #[] #[])
  w3 : w.cell? ⟨G, 3, none⟩ = some (.func (.func 47) #[] #[.pointer (some ⟨tb, 0, none⟩)])
theorem WrAt.keep {B B' : Nat} {w w' : World} {tb G : Nat} (h : WrAt B w tb G) (hB : B ≤ B') (hs : ∀ k, k < B → w'.heap[k]? = w.heap[k]?) : WrAt B' w' tb G := by
  have e1 : ∀ o, w'.cell? ⟨tb, o, none⟩ = w.cell? ⟨tb, o, none⟩ := fun o => World.cell?_of_block (w := w) (hs tb h.tlt)
  have e2 : ∀ o, w'.cell? ⟨G, o, none⟩ = w.cell? ⟨G, o, none⟩ := fun o => World.cell?_of_block (w := w) (hs G h.glt)
  exact ⟨Nat.lt_of_lt_of_le h.tlt hB, Nat.lt_of_lt_of_le h.glt hB, (e1 0).trans h.var, (e2 1).trans h.w1, (e2 2).trans h.w2, (e2 3).trans h.w3⟩

/-- the relation of the writer's loop -/
def WrRel (base : Nat) (b0 : Value) (pre : List UInt8) (l : List V) (w : World) (b i : Value) (wr : World) : Prop :=
  ∃ k : Nat, k ≤ l.length ∧ i = .int .i64 k ∧ OwnB 5 wr base b (pre ++ encs (l.take k)) ∧ w.grownBy wr b0.ownBlock ∧ Next w b0 b

theorem fm_kind {x : V} (h : fm x = true) : x.kind = 1 ∨ x.kind = 2 ∨ x.kind = 3 := by
  obtain ⟨k, n, s, l⟩ := x
  simp only [fm] at h
  simp only [V.kind]
  by_cases h1 : k = 1
  · exact .inl h1
  · by_cases h2 : k = 2
    · exact .inr (.inl h2)
    · by_cases h3 : k = 3
      · exact .inr (.inr h3)
      · simp [h1, h2, h3] at h

theorem SlV.elemB {B : Nat} {w wr : World} {l : List V} {oa : Option Addr} {cap : Nat} (h : SlV B w l (.slice oa l.length cap)) (hs : ∀ k, k < B → wr.heap[k]? = w.heap[k]?) {k : Nat} {x : V} (hx : l[k]? = some x) :
    ∃ c o xo xc, oa = some ⟨c, o, none⟩ ∧ c < B ∧ wr.cell? ⟨c, o + k * 4, none⟩ = some (.int .i64 x.kind) ∧ wr.cell? ⟨c, o + k * 4 + 1, none⟩ = some (.int .i64 x.n) ∧ wr.cell? ⟨c, o + k * 4 + 2, none⟩ = some (.string x.s) ∧
      wr.cell? ⟨c, o + k * 4 + 3, none⟩ = some (.slice xo x.l.length xc) ∧ RdV B wr x (.agg #[.int .i64 x.kind, .int .i64 x.n, .string x.s, .slice xo x.l.length xc]) := by
  rcases h with ⟨rfl, _⟩ | ⟨_, c, o, cap', he, hlm, hat⟩
  · simp at hx
  injection he with he1 he2 he3
  have hv := V.at_keep (Nat.le_refl _) hs x c (o + k * 4) (V.ats_get hat k x hx)
  obtain ⟨hcb, c0, c1, c2, xo, xc, c3, hrd⟩ := V.at_def hv
  exact ⟨c, o, xo, xc, he1, hcb, c0, c1, c2, c3, hrd⟩
theorem fms_get {l : List V} {i : Nat} {x : V} (h : fms l = true) (hx : l[i]? = some x) : fm x = true := by
  rcases Bool.eq_false_or_eq_true (fm x) with h' | h'
  · exact h'
  · rw [fms_false hx h'] at h; cases h
theorem encs_len_take {l : List V} {i : Nat} {x : V} (h : l[i]? = some x) : (encs (l.take i)).length + sz x ≤ szs l := by
  induction l generalizing i with
  | nil => simp at h
  | cons y r ih => cases i with
    | zero => simp at h; subst h; simp [encs, szs]
    | succ i => simp only [List.take_succ_cons, encs, szs, List.length_append]; have := ih (i := i) (by simpa using h); have := enc_sz y; omega
theorem enc_k1 (x : V) (h : x.kind = 1) : enc x = [1] ++ num (uns x.n) := by obtain ⟨k, n, s, l⟩ := x; simp only [V.kind] at h; subst h; exact enc_1 n s l
theorem enc_k2 (x : V) (h : x.kind = 2) : enc x = [2] ++ num x.s.size ++ x.s.data.toList := by obtain ⟨k, n, s, l⟩ := x; simp only [V.kind] at h; subst h; exact enc_2 n s l
theorem sz_s (x : V) : x.s.size + 24 ≤ sz x := by obtain ⟨k, n, s, l⟩ := x; simp only [sz, V.s]; omega
theorem sz_l (x : V) : szs x.l + 24 ≤ sz x := by obtain ⟨k, n, s, l⟩ := x; simp only [sz, V.l]; omega
theorem fm_l (x : V) (h : x.kind = 3) (hf : fm x = true) : fms x.l = true := by
  obtain ⟨k, n, s, l⟩ := x; simp only [V.kind] at h; subst h; simp only [fm] at hf; simp at hf; exact hf.2
theorem enc_k3 (x : V) (h : x.kind = 3) : enc x = enc (.mk 3 x.n x.s x.l) := by obtain ⟨k, n, s, l⟩ := x; simp only [V.kind] at h; subst h; rfl
theorem RdV.sl {B : Nat} {w : World} {x : V} {a b c lv : Value} (h : RdV B w x (.agg #[a, b, c, lv])) : SlV B w x.l lv := by
  obtain ⟨_, _, _, lv', he, hs⟩ := h
  simp at he
  obtain ⟨_, _, _, rfl⟩ := he
  exact hs
def W3Said (N : Nat) : Prop := ∀ (l : List V), fms l = true → szs l ≤ N → ∀ (base tb G : Nat) (b : Value) (pre : List UInt8) (n : Int) (s : ByteArray) (oa : Option Addr) (cap : Nat) (w : World) (out : List UInt8),
  SlV base w l (.slice oa l.length cap) → WrAt base w tb G → OwnB 5 w base b pre → pre.length + N ≤ 1000000000 → base ≤ w.heap.size → Hid (out = pre ++ enc (.mk 3 n s l)) →
  Calls Try.prog 47 #[b, .agg #[.int .i64 3, .int .i64 n, .string s, .slice oa l.length cap], .pointer (some ⟨tb, 0, none⟩)] w (NumPost base b out w)

set_option maxRecDepth 100000 in
set_option maxHeartbeats 400000 in
theorem write3_step (N : Nat) (hN : N ≤ 50000000) (ih : ∀ M, M < N → W3Said M) : W3Said N := by
  intro l hf hsz base tb G b pre n s oa cap w out hl hw hown hpre hbase hout
  have hll := szs_len l
  have hb0 : ∀ g, b.ownBlock = some g → g < w.heap.size := fun g hg => (hown.lt g hg).2
  have hown1 := hown.alloc (.cells #[.int .i64 3, .int .i64 n, .string s, .slice oa l.length cap] 54)
  have hne : some w.heap.size ≠ b.ownBlock := fun h => by have := hb0 _ h.symm; omega
  have HL := Lib.hid hl; have HF := Lib.hid hf; have HW := Lib.hid hw; have IH := Lib.hid ih
  clear hl hf hw ih
  have hwl : IntKind.u64.wrap (l.length : Int) = (l.length : Int) := by rw [IntKind.wrap_u64]; omega
  go_enter Try.func47, Try.ntmps47
  go_wp2
  go_region_held3 (fun w' => w'.cell? ⟨w.heap.size, 3, none⟩ = some (.slice oa l.length cap)) (first | go_keep | exact cell_grown (row := b.ownBlock) (by assumption) (by simp) hne)
    (first
     | (go_at_call 44; refine (numeral_any base v' (pre ++ [3]) l.length ?d0 _ ho2 ?d1 ?d2).mono ?_
        case d0 => show l.length < _; omega
        case d1 => simp; omega
        case d2 => have := hg2.size; simp at this; omega
        rintro e w2 ⟨v2, rfl, ho3, hg3, hn3⟩
        have hg4 := grown_trans hg2 hg3 hn2)
     | (refine step_append_1 (e := 5) Try.underlying46 (by kernel_rfl) rfl _ _ rfl base b pre rfl ?own _ 3 3 rfl ?c1 rfl ?c2 ?c3 ?_
        case own => exact (hown1.alloc _).drew
        case c1 => simp
        case c2 => omega
        case c3 => simp; omega
        intro v' w1 ho2 hg2 hn2))
  have c3 : w2.cell? ⟨w.heap.size, 3, none⟩ = some (.slice oa l.length cap) := cell_grown (row := b.ownBlock) hg4 (by simp) hne
  have hg5 : w.grownBy w2 b.ownBlock := grown_trans (grown_drew (grown_alloc (grown_alloc (grown_refl w _) _) _)) hg4 (.inl rfl)
  have hn5 : Next w b v2 := by
    have h8 := hg2.size; simp at h8
    exact Next.trans (Next.trans (Next.refl w b) (by simp; omega) hn2) (by omega) hn3
  have HO := Lib.hid ho3
  clear ho3 ho2 hn2 hn3 hg2 hg3 hwl
  go_wp2
  go_loopw [0, 19] (fun b' i wr => WrRel base b (pre ++ [3] ++ num l.length) l w b' i wr) (fun _ i _ => l.length - (intOf i).toNat)
  case atStart => exact ⟨0, Nat.zero_le _, rfl, by simpa [encs] using HO.out, hg5, hn5⟩
  case round =>
    obtain ⟨k, hkl, rfl, ho, hg, hn⟩ := hrel
    have hs : Hid (∀ k, k < base → wr.heap[k]? = w.heap[k]?) := fun j hj => hg.block j (by omega) (fun e => by have := (hown.lt j e.symm).1; omega)
    have hbr : base ≤ wr.heap.size := Nat.le_trans hbase hg.size
    have HO := Lib.hid ho; clear ho
    have hlen5 : (num l.length).length ≤ 10 := numF_len 9 l.length
    by_cases hlt : k < l.length
    case neg =>
      have hkk : Hid (l.take k = l) := List.take_of_length_le (by omega)
      go_wp2
      go_ret
      exact ⟨_, rfl, by rw [hout.out, enc_3]; have := HO.out; rw [hkk.out] at this; simpa using this, hg, hn⟩
    case pos =>
      obtain ⟨x, hx'⟩ : ∃ x, l[k]? = some x := ⟨l[k], by simp [hlt]⟩
      have Hx := Lib.hid hx'; clear hx'
      obtain ⟨c, o, xo, xc, rfl, hcb, c0, c1, c2, c3', hrd⟩ := HL.out.elemB hs.out Hx.out
      have hsx := szs_get Hx.out
      have hfx := fms_get HF.out Hx.out
      have hex := encs_len_take Hx.out
      obtain ⟨htb, hgb, hv0, hv1, hv2, hv3⟩ := HW.out.keep (Nat.le_refl _) hs.out
      have hne9 : some wr.heap.size ≠ u0.ownBlock := fun e => by have := (HO.out.lt _ e.symm).2; omega
      have hb1 : ∀ g, u0.ownBlock = some g → g < wr.heap.size := fun g hg => (HO.out.lt g hg).2
      have hneT : some tb ≠ u0.ownBlock := fun e => by have := (HO.out.lt _ e.symm).1; omega
      have hneG : some G ≠ u0.ownBlock := fun e => by have := (HO.out.lt _ e.symm).1; omega
      have ne0 := World.new_ne wr _ hv0
      have ne1 := World.new_ne wr _ hv1
      rcases fm_kind hfx with hk | hk | hk
      · rw [hk] at c0 hrd
        go_wp2
        go_region_held3 (fun w' => w'.cell? ⟨tb, 0, none⟩ = some (.pointer (some ⟨G, 0, none⟩)) ∧ w'.cell? ⟨G, 1, none⟩ = some (.func (.func 43) #[] #[]) ∧ w'.cell? ⟨wr.heap.size, 0, none⟩ = some (.int .i64 1) ∧
            w'.cell? ⟨wr.heap.size, 1, none⟩ = some (.int .i64 x.n) ∧ w'.cell? ⟨wr.heap.size, 2, none⟩ = some (.string x.s) ∧ w'.cell? ⟨wr.heap.size, 3, none⟩ = some (.slice xo x.l.length xc))
          (first | go_keep | exact ⟨cell_grown (row := u0.ownBlock) hg9 (by simp [*]) hneT, cell_grown (row := u0.ownBlock) hg9 (by simp [*]) hneG,
            cell_grown (row := u0.ownBlock) hg9 (by simp) hne9, cell_grown (row := u0.ownBlock) hg9 (by simp) hne9, cell_grown (row := u0.ownBlock) hg9 (by simp) hne9, cell_grown (row := u0.ownBlock) hg9 (by simp) hne9⟩)
          (first
           | (go_at_call 43; refine (write1_any base u0 (pre ++ [3] ++ num l.length ++ encs (l.take k)) x.n hrd.2.1 x.s _ _ (HO.out.alloc _).drew ?d1 ?d2 (pre ++ [3] ++ num l.length ++ encs (l.take k) ++ enc x) ?d3).mono ?_
              case d1 => simp; omega
              case d2 => simp; omega
              case d3 => show _ = _; rw [enc_k1 x hk]
              rintro e w9 ⟨v9, rfl, ho9, hg9, hn9⟩))
        go_wp2
        go_roundw
        case rel => exact ⟨k + 1, by omega, by go_num, by rw [encs_take Hx.out, ← List.append_assoc]; exact ho9, grown_trans hg (grown_trans (grown_drew (grown_alloc (grown_refl wr _) _)) hg9 (.inl rfl)) hn, Next.trans (Next.trans hn hg.size (Next.refl wr u0)) (by have := hg.size; simp; omega) hn9⟩
        case measure => simp [intOf]; omega
      · rw [hk] at c0 hrd
        go_wp2
        go_region_held3 (fun w' => w'.cell? ⟨tb, 0, none⟩ = some (.pointer (some ⟨G, 0, none⟩)) ∧ w'.cell? ⟨G, 2, none⟩ = some (.func (.func 46) #[] #[]) ∧ w'.cell? ⟨wr.heap.size, 0, none⟩ = some (.int .i64 2) ∧
            w'.cell? ⟨wr.heap.size, 1, none⟩ = some (.int .i64 x.n) ∧ w'.cell? ⟨wr.heap.size, 2, none⟩ = some (.string x.s) ∧ w'.cell? ⟨wr.heap.size, 3, none⟩ = some (.slice xo x.l.length xc))
          (first | go_keep | exact ⟨cell_grown (row := u0.ownBlock) hg9 (by simp [*]) hneT, cell_grown (row := u0.ownBlock) hg9 (by simp [*]) hneG,
            cell_grown (row := u0.ownBlock) hg9 (by simp) hne9, cell_grown (row := u0.ownBlock) hg9 (by simp) hne9, cell_grown (row := u0.ownBlock) hg9 (by simp) hne9, cell_grown (row := u0.ownBlock) hg9 (by simp) hne9⟩)
          (first
           | (go_at_call 46; refine (write2_any base u0 (pre ++ [3] ++ num l.length ++ encs (l.take k)) x.n x.s _ _ (HO.out.alloc _).drew ?d1 ?d4 ?d2 (pre ++ [3] ++ num l.length ++ encs (l.take k) ++ enc x) ?d3).mono ?_
              case d1 => simp; omega
              case d4 => have := sz_s x; omega
              case d2 => simp; omega
              case d3 => show _ = _; rw [enc_k2 x hk]
              rintro e w9 ⟨v9, rfl, ho9, hg9, hn9⟩))
        go_wp2
        go_roundw
        case rel => exact ⟨k + 1, by omega, by go_num, by rw [encs_take Hx.out, ← List.append_assoc]; exact ho9, grown_trans hg (grown_trans (grown_drew (grown_alloc (grown_refl wr _) _)) hg9 (.inl rfl)) hn, Next.trans (Next.trans hn hg.size (Next.refl wr u0)) (by have := hg.size; simp; omega) hn9⟩
        case measure => simp [intOf]; omega
      · rw [hk] at c0 hrd
        go_wp2
        go_region_held3 (fun w' => w'.cell? ⟨tb, 0, none⟩ = some (.pointer (some ⟨G, 0, none⟩)) ∧ w'.cell? ⟨G, 3, none⟩ = some (.func (.func 47) #[] #[.pointer (some ⟨tb, 0, none⟩)]) ∧ w'.cell? ⟨wr.heap.size, 0, none⟩ = some (.int .i64 3) ∧
            w'.cell? ⟨wr.heap.size, 1, none⟩ = some (.int .i64 x.n) ∧ w'.cell? ⟨wr.heap.size, 2, none⟩ = some (.string x.s) ∧ w'.cell? ⟨wr.heap.size, 3, none⟩ = some (.slice xo x.l.length xc))
          (first | go_keep | exact ⟨cell_grown (row := u0.ownBlock) hg9 (by simp [*]) hneT, cell_grown (row := u0.ownBlock) hg9 (by simp [*]) hneG,
            cell_grown (row := u0.ownBlock) hg9 (by simp) hne9, cell_grown (row := u0.ownBlock) hg9 (by simp) hne9, cell_grown (row := u0.ownBlock) hg9 (by simp) hne9, cell_grown (row := u0.ownBlock) hg9 (by simp) hne9⟩)
          (first
           | (go_at_call 47; refine (IH.out (szs x.l) ?d5 x.l (fm_l x hk hfx) (Nat.le_refl _) base tb G u0 (pre ++ [3] ++ num l.length ++ encs (l.take k)) x.n x.s xo xc _ (pre ++ [3] ++ num l.length ++ encs (l.take k) ++ enc x) ?d6 ?d7 (HO.out.alloc _).drew ?d1 ?d2 ?d3).mono ?_
              case d5 => have := sz_l x; omega
              case d6 => exact SlV.keep hrd.sl (Nat.le_refl _) (fun j hj => Below.heap_alloc wr _ j (by omega))
              case d7 => exact (HW.out.keep (Nat.le_refl _) hs.out).keep (Nat.le_refl _) (fun j hj => Below.heap_alloc wr _ j (by omega))
              case d1 => have := sz_l x; simp; omega
              case d2 => simp; omega
              case d3 => show _ = _; rw [enc_k3 x hk]
              rintro e w9 ⟨v9, rfl, ho9, hg9, hn9⟩))
        go_wp2
        go_roundw
        case rel => exact ⟨k + 1, by omega, by go_num, by rw [encs_take Hx.out, ← List.append_assoc]; exact ho9, grown_trans hg (grown_trans (grown_drew (grown_alloc (grown_refl wr _) _)) hg9 (.inl rfl)) hn, Next.trans (Next.trans hn hg.size (Next.refl wr u0)) (by have := hg.size; simp; omega) hn9⟩
        case measure => simp [intOf]; omega

theorem write3_any (N : Nat) (hN : N ≤ 50000000) : W3Said N := by
  induction N using Nat.strongRecOn with
  | _ N ih => exact write3_step N hN fun M hM => ih M hM (by omega)
end Go.Proofs.Ytlocilbcmcfmaaa
/- codec.newWriter, codec.Encode. -/
namespace Go.Proofs.Ytlocilbcmcfmaaa
open Go.RowKit

theorem RdB.keep {w w' : World} {v : Value} {l : List UInt8} (h : RdB w v l) (hs : ∀ k, k < w.heap.size → w'.heap[k]? = w.heap[k]?) : RdB w' v l := by
  rcases h with h | ⟨a, cap, h1, h1', h2, h3, h4⟩
  · exact .inl h
  · refine .inr ⟨a, cap, h1, h1', h2, h3, fun j u hu => ?_⟩
    have hc := h4 j u hu
    have hlt := World.block_lt_of_cell? w _ hc
    rw [World.cell?_of_block (w := w) (hs _ hlt)]; exact hc
theorem RdB.ext {w w' : World} {v : Value} {l : List UInt8} (h : RdB w v l) (hb : Below w.heap.size w w') : RdB w' v l := h.keep hb.block

def NewPost (w : World) (e : Ending) (w' : World) : Prop :=
  ∃ tb G, e = .returned (.pointer (some ⟨G, 0, none⟩)) ∧ WrAt w'.heap.size w' tb G ∧ Below w.heap.size w w'

set_option maxRecDepth 100000 in
set_option maxHeartbeats 1000000 in
theorem newWriter_any (w : World) : Calls Try.prog 33 #[] w (NewPost w) := by
  have hmf : ∀ (fn : Fn) (first cap : Array Value) (w : World), (Instr.makeFunc fn first cap).run Try.prog w = .ok (.func fn first cap) w := fun _ _ _ _ => rfl
  go_enter Try.func33, Try.ntmps33
  go_wp2
  go_ret
  refine ⟨w.heap.size + 1, w.heap.size, rfl, ⟨by simp, by simp; omega, ?_, ?_, ?_, ?_⟩, ?_⟩
  all_goals first | simp | skip
  repeat (first | exact Below.refl _ _ | refine Below.alloc ?_ (by simp) _)

/-- what Encode hands back: the bytes, and the error -/
def EncPost (x : V) (w : World) (e : Ending) (w' : World) : Prop :=
  ∃ v, e = .returned (.tuple #[v, .int .i64 (ck x)]) ∧ RdB w' v (if ck x = 0 then enc x else []) ∧ Below w.heap.size w w'

theorem ck_fm {x : V} (h : ck x = 0) : fm x = true := by
  unfold ck at h; by_cases hf : fm x = true
  · exact hf
  · rw [if_neg hf] at h; cases h

set_option maxRecDepth 100000 in
set_option maxHeartbeats 1000000 in
theorem encode_big (x : V) (hx : sz x ≤ 50000000) (v : Value) (w : World) (hr : RdV w.heap.size w x v) : Calls Try.prog 17 #[v] w (EncPost x w) := by
  have HR := Lib.hid (fun ob => hr.alloc ob)
  have HR0 := Lib.hid hr
  obtain ⟨oa, cap, rfl, hl⟩ := hr.form
  clear hr hl
  by_cases hck : ck x = 0
  case neg =>
    have hne : (ck x != 0) = true := by rw [bne_iff_ne]; exact hck
    have Hck := Lib.hid hck; clear hck
    go_enter Try.func17, Try.ntmps17
    go_wp2_with (go_at_call 32; refine (check_any x (by omega) _ _ (HR.out _)).mono ?_; rintro e w' ⟨rfl, hb'⟩)
    go_ret2
    exact ⟨_, rfl, by rw [if_neg Hck.out]; exact .inl ⟨rfl, rfl⟩, below_after hb'⟩
  case pos =>
    have hfm := ck_fm hck
    have heq : (ck x != 0) = false := by rw [hck]; rfl
    have Hck := Lib.hid hck; clear hck
    rcases fm_kind hfm with hk | hk | hk
    · rw [hk] at HR HR0 ⊢
      go_enter Try.func17, Try.ntmps17
      go_wp2_with (go_at_call 32; refine (check_any x (by omega) _ _ (HR.out _)).mono ?_; rintro e w' ⟨rfl, hb'⟩)
      have hlt : w.heap.size < w'.heap.size := by have := hb'.size; simp at this; omega
      have hx0 : w'.cell? ⟨w.heap.size, 0, none⟩ = some (.int .i64 1) := (hb'.cell (p := ⟨w.heap.size, 0, none⟩) (by simp)).trans (by simp)
      have hx1 : w'.cell? ⟨w.heap.size, 1, none⟩ = some (.int .i64 x.n) := (hb'.cell (p := ⟨w.heap.size, 1, none⟩) (by simp)).trans (by simp)
      have hx2 : w'.cell? ⟨w.heap.size, 2, none⟩ = some (.string x.s) := (hb'.cell (p := ⟨w.heap.size, 2, none⟩) (by simp)).trans (by simp)
      have hx3 : w'.cell? ⟨w.heap.size, 3, none⟩ = some (.slice oa x.l.length cap) := (hb'.cell (p := ⟨w.heap.size, 3, none⟩) (by simp)).trans (by simp)
      have hbw := below_after hb'
      have Hrx := Lib.hid (HR0.out.ext hbw)
      refine wp_region_held_drew (S := (fun w9 => w9.cell? ⟨w.heap.size, 0, none⟩ = some (.int .i64 1) ∧ w9.cell? ⟨w.heap.size, 1, none⟩ = some (.int .i64 x.n) ∧ w9.cell? ⟨w.heap.size, 2, none⟩ = some (.string x.s) ∧ w9.cell? ⟨w.heap.size, 3, none⟩ = some (.slice oa x.l.length cap))) (by kernel_rfl) ⟨hx0, hx1, hx2, hx3⟩ (fun hHeld => ?_)
      refine wpAnyH_take (i := 1) (v := ?vk1_1) rfl (by kernel_rfl) (by kernel_rfl) (by kernel_rfl) (fun _ _ _ h => h) (Or.inl ⟨by rfl, fun wS hSw => ?hyk1_1⟩) (by assumption) ?restk1_1
      case hyk1_1 => (obtain ⟨h0, h1, h2, h3⟩ := hSw; go_simp; first | done | with_reducible rfl)
      simp only [Act.put, List.setIfInBounds_toArray]
      refine wpAnyH_take (i := 2) (v := ?vk1_2) rfl (by kernel_rfl) (by kernel_rfl) (by kernel_rfl) (fun _ _ _ h => h) (Or.inl ⟨by rfl, fun wS hSw => ?hyk1_2⟩) (by assumption) ?restk1_2
      case hyk1_2 => (obtain ⟨h0, h1, h2, h3⟩ := hSw; go_simp; first | done | with_reducible rfl)
      simp only [Act.put]
      refine wpAnyH_take (i := 7) (v := ?vk1_7) rfl (by kernel_rfl) (by kernel_rfl) (by kernel_rfl) (fun _ _ _ h => h) (Or.inl ⟨by rfl, fun wS hSw => ?hyk1_7⟩) (by assumption) ?restk1_7
      case hyk1_7 => (obtain ⟨h0, h1, h2, h3⟩ := hSw; go_simp; first | done | with_reducible rfl)
      simp only [Act.put]
      refine wpAnyH_ready (rs := [0]) (by kernel_rfl) (by simp) ?_
      refine AllReadyH.cons rfl (fun K hK => ?_) AllReadyH.nil
      go_simp
      refine (newWriter_any _).mono ?_
      rintro e w2 ⟨tb, G, rfl, hW, hb2'⟩
      have hb2 : Below w'.heap.size w' w2 := ((Below.refl _ w').drew).trans hb2'
      have HW := Lib.hid hW
      obtain ⟨htb, hgb, hv0, hv1, hv2, hv3⟩ := hW
      have k0 := (hb2.cell (p := ⟨w.heap.size, 0, none⟩) hlt).trans hx0
      have k1 := (hb2.cell (p := ⟨w.heap.size, 1, none⟩) hlt).trans hx1
      have k2 := (hb2.cell (p := ⟨w.heap.size, 2, none⟩) hlt).trans hx2
      have k3 := (hb2.cell (p := ⟨w.heap.size, 3, none⟩) hlt).trans hx3
      clear hb2'
      refine hK.out _ _ ⟨k0, k1, k2, k3⟩ (fun hHeld => ?_)
      clear hK K
      try simp only [Act.put, List.setIfInBounds_toArray, List.set_cons_zero, List.set_cons_succ]
      refine wpAnyH_take (i := 3) (v := ?vk1_3) rfl (by kernel_rfl) (by kernel_rfl) (by kernel_rfl) (fun _ _ _ h => h) (Or.inl ⟨by rfl, fun wS hSw => ?hyk1_3⟩) (by assumption) ?restk1_3
      case hyk1_3 => (obtain ⟨h0, h1, h2, h3⟩ := hSw; go_simp; first | done | with_reducible rfl)
      simp only [Act.put, List.setIfInBounds_toArray]
      refine wpAnyH_take (i := 4) (v := ?vk1_4) rfl (by kernel_rfl) (by kernel_rfl) (by kernel_rfl) (fun _ _ _ h => h) (Or.inl ⟨by rfl, fun wS hSw => ?hyk1_4⟩) (by assumption) ?restk1_4
      case hyk1_4 => (obtain ⟨h0, h1, h2, h3⟩ := hSw; go_simp; first | done | with_reducible rfl)
      simp only [Act.put]
      refine wpAnyH_take (i := 5) (v := ?vk1_5) rfl (by kernel_rfl) (by kernel_rfl) (by kernel_rfl) (fun _ _ _ h => h) (Or.inl ⟨by rfl, fun wS hSw => ?hyk1_5⟩) (by assumption) ?restk1_5
      case hyk1_5 => (obtain ⟨h0, h1, h2, h3⟩ := hSw; go_simp; first | done | with_reducible rfl)
      simp only [Act.put]
      refine wpAnyH_ready (rs := [6]) (by kernel_rfl) (by simp) ?_
      refine AllReadyH.cons rfl (fun K hK => ?_) AllReadyH.nil
      go_simp
      refine hK.out _ _ ⟨k0, k1, k2, k3⟩ (fun hHeld => ?_)
      clear hK K
      try simp only [Act.put, List.setIfInBounds_toArray, List.set_cons_zero, List.set_cons_succ]
      refine wpAnyH_ready (rs := [8]) (by kernel_rfl) (by simp) ?_
      refine AllReadyH.cons rfl (fun K hK => ?_) AllReadyH.nil
      go_simp
      refine (write1_any w2.heap.size (.slice none 0 0) [] x.n Hrx.out.2.1 x.s _ _ (OwnB.nil _ _ _) ?d1 ?d2 (enc x) ?d3).mono ?_
      case d1 => simp
      case d2 => exact Nat.le_refl _
      case d3 => show _ = _; rw [enc_k1 x hk]; rfl
      rintro e w3 ⟨v3, rfl, ho3, hg3, hn3⟩
      refine hK.out _ _ ⟨cell_grown hg3 k0 (by simp [Value.ownBlock]), cell_grown hg3 k1 (by simp [Value.ownBlock]), cell_grown hg3 k2 (by simp [Value.ownBlock]), cell_grown hg3 k3 (by simp [Value.ownBlock])⟩ (fun hHeld => ?_)
      clear hK K
      try simp only [Act.put, List.setIfInBounds_toArray, List.set_cons_zero, List.set_cons_succ]
      refine wpAnyH_ready (rs := [9]) (by kernel_rfl) (by simp) ?_
      refine AllReadyH.cons rfl (fun K hK => ?_) AllReadyH.nil
      go_simp
      refine hK.out _ _ hHeld (fun hHeld => ?_)
      clear hK K
      try simp only [Act.put, List.setIfInBounds_toArray, List.set_cons_zero, List.set_cons_succ]
      refine wpAnyH_ready (rs := [10]) (by kernel_rfl) (by simp) ?_
      refine AllReadyH.cons rfl (fun K hK => ?_) AllReadyH.nil
      go_simp
      refine hK.out _ _ hHeld (fun hHeld => ?_)
      clear hK K
      try simp only [Act.put, List.setIfInBounds_toArray, List.set_cons_zero, List.set_cons_succ]
      refine wpAnyH_done (by kernel_rfl) ?_ _
      have hb4 : Below w.heap.size w w3 := below_ext hbw (hb2.trans ((Below.refl _ w2).grown hg3 hb2.size (by simp [Value.ownBlock])))
      have HO := Lib.hid ho3.rd
      clear ho3
      go_wp2
      go_ret2
      exact ⟨_, by rw [Hck.out]; rfl, by rw [if_pos Hck.out]; exact HO.out, hb4⟩
    · rw [hk] at HR HR0 ⊢
      go_enter Try.func17, Try.ntmps17
      go_wp2_with (go_at_call 32; refine (check_any x (by omega) _ _ (HR.out _)).mono ?_; rintro e w' ⟨rfl, hb'⟩)
      have hlt : w.heap.size < w'.heap.size := by have := hb'.size; simp at this; omega
      have hx0 : w'.cell? ⟨w.heap.size, 0, none⟩ = some (.int .i64 2) := (hb'.cell (p := ⟨w.heap.size, 0, none⟩) (by simp)).trans (by simp)
      have hx1 : w'.cell? ⟨w.heap.size, 1, none⟩ = some (.int .i64 x.n) := (hb'.cell (p := ⟨w.heap.size, 1, none⟩) (by simp)).trans (by simp)
      have hx2 : w'.cell? ⟨w.heap.size, 2, none⟩ = some (.string x.s) := (hb'.cell (p := ⟨w.heap.size, 2, none⟩) (by simp)).trans (by simp)
      have hx3 : w'.cell? ⟨w.heap.size, 3, none⟩ = some (.slice oa x.l.length cap) := (hb'.cell (p := ⟨w.heap.size, 3, none⟩) (by simp)).trans (by simp)
      have hbw := below_after hb'
      have Hrx := Lib.hid (HR0.out.ext hbw)
      refine wp_region_held_drew (S := (fun w9 => w9.cell? ⟨w.heap.size, 0, none⟩ = some (.int .i64 2) ∧ w9.cell? ⟨w.heap.size, 1, none⟩ = some (.int .i64 x.n) ∧ w9.cell? ⟨w.heap.size, 2, none⟩ = some (.string x.s) ∧ w9.cell? ⟨w.heap.size, 3, none⟩ = some (.slice oa x.l.length cap))) (by kernel_rfl) ⟨hx0, hx1, hx2, hx3⟩ (fun hHeld => ?_)
      refine wpAnyH_take (i := 1) (v := ?vk2_1) rfl (by kernel_rfl) (by kernel_rfl) (by kernel_rfl) (fun _ _ _ h => h) (Or.inl ⟨by rfl, fun wS hSw => ?hyk2_1⟩) (by assumption) ?restk2_1
      case hyk2_1 => (obtain ⟨h0, h1, h2, h3⟩ := hSw; go_simp; first | done | with_reducible rfl)
      simp only [Act.put, List.setIfInBounds_toArray]
      refine wpAnyH_take (i := 2) (v := ?vk2_2) rfl (by kernel_rfl) (by kernel_rfl) (by kernel_rfl) (fun _ _ _ h => h) (Or.inl ⟨by rfl, fun wS hSw => ?hyk2_2⟩) (by assumption) ?restk2_2
      case hyk2_2 => (obtain ⟨h0, h1, h2, h3⟩ := hSw; go_simp; first | done | with_reducible rfl)
      simp only [Act.put]
      refine wpAnyH_take (i := 7) (v := ?vk2_7) rfl (by kernel_rfl) (by kernel_rfl) (by kernel_rfl) (fun _ _ _ h => h) (Or.inl ⟨by rfl, fun wS hSw => ?hyk2_7⟩) (by assumption) ?restk2_7
      case hyk2_7 => (obtain ⟨h0, h1, h2, h3⟩ := hSw; go_simp; first | done | with_reducible rfl)
      simp only [Act.put]
      refine wpAnyH_ready (rs := [0]) (by kernel_rfl) (by simp) ?_
      refine AllReadyH.cons rfl (fun K hK => ?_) AllReadyH.nil
      go_simp
      refine (newWriter_any _).mono ?_
      rintro e w2 ⟨tb, G, rfl, hW, hb2'⟩
      have hb2 : Below w'.heap.size w' w2 := ((Below.refl _ w').drew).trans hb2'
      have HW := Lib.hid hW
      obtain ⟨htb, hgb, hv0, hv1, hv2, hv3⟩ := hW
      have k0 := (hb2.cell (p := ⟨w.heap.size, 0, none⟩) hlt).trans hx0
      have k1 := (hb2.cell (p := ⟨w.heap.size, 1, none⟩) hlt).trans hx1
      have k2 := (hb2.cell (p := ⟨w.heap.size, 2, none⟩) hlt).trans hx2
      have k3 := (hb2.cell (p := ⟨w.heap.size, 3, none⟩) hlt).trans hx3
      clear hb2'
      refine hK.out _ _ ⟨k0, k1, k2, k3⟩ (fun hHeld => ?_)
      clear hK K
      try simp only [Act.put, List.setIfInBounds_toArray, List.set_cons_zero, List.set_cons_succ]
      refine wpAnyH_take (i := 3) (v := ?vk2_3) rfl (by kernel_rfl) (by kernel_rfl) (by kernel_rfl) (fun _ _ _ h => h) (Or.inl ⟨by rfl, fun wS hSw => ?hyk2_3⟩) (by assumption) ?restk2_3
      case hyk2_3 => (obtain ⟨h0, h1, h2, h3⟩ := hSw; go_simp; first | done | with_reducible rfl)
      simp only [Act.put, List.setIfInBounds_toArray]
      refine wpAnyH_take (i := 4) (v := ?vk2_4) rfl (by kernel_rfl) (by kernel_rfl) (by kernel_rfl) (fun _ _ _ h => h) (Or.inl ⟨by rfl, fun wS hSw => ?hyk2_4⟩) (by assumption) ?restk2_4
      case hyk2_4 => (obtain ⟨h0, h1, h2, h3⟩ := hSw; go_simp; first | done | with_reducible rfl)
      simp only [Act.put]
      refine wpAnyH_take (i := 5) (v := ?vk2_5) rfl (by kernel_rfl) (by kernel_rfl) (by kernel_rfl) (fun _ _ _ h => h) (Or.inl ⟨by rfl, fun wS hSw => ?hyk2_5⟩) (by assumption) ?restk2_5
      case hyk2_5 => (obtain ⟨h0, h1, h2, h3⟩ := hSw; go_simp; first | done | with_reducible rfl)
      simp only [Act.put]
      refine wpAnyH_ready (rs := [6]) (by kernel_rfl) (by simp) ?_
      refine AllReadyH.cons rfl (fun K hK => ?_) AllReadyH.nil
      go_simp
      refine hK.out _ _ ⟨k0, k1, k2, k3⟩ (fun hHeld => ?_)
      clear hK K
      try simp only [Act.put, List.setIfInBounds_toArray, List.set_cons_zero, List.set_cons_succ]
      refine wpAnyH_ready (rs := [8]) (by kernel_rfl) (by simp) ?_
      refine AllReadyH.cons rfl (fun K hK => ?_) AllReadyH.nil
      go_simp
      refine (write2_any w2.heap.size (.slice none 0 0) [] x.n x.s _ _ (OwnB.nil _ _ _) ?d1 ?d4 ?d2 (enc x) ?d3).mono ?_
      case d1 => simp
      case d4 => have := sz_s x; omega
      case d2 => exact Nat.le_refl _
      case d3 => show _ = _; rw [enc_k2 x hk]; rfl
      rintro e w3 ⟨v3, rfl, ho3, hg3, hn3⟩
      refine hK.out _ _ ⟨cell_grown hg3 k0 (by simp [Value.ownBlock]), cell_grown hg3 k1 (by simp [Value.ownBlock]), cell_grown hg3 k2 (by simp [Value.ownBlock]), cell_grown hg3 k3 (by simp [Value.ownBlock])⟩ (fun hHeld => ?_)
      clear hK K
      try simp only [Act.put, List.setIfInBounds_toArray, List.set_cons_zero, List.set_cons_succ]
      refine wpAnyH_ready (rs := [9]) (by kernel_rfl) (by simp) ?_
      refine AllReadyH.cons rfl (fun K hK => ?_) AllReadyH.nil
      go_simp
      refine hK.out _ _ hHeld (fun hHeld => ?_)
      clear hK K
      try simp only [Act.put, List.setIfInBounds_toArray, List.set_cons_zero, List.set_cons_succ]
      refine wpAnyH_ready (rs := [10]) (by kernel_rfl) (by simp) ?_
      refine AllReadyH.cons rfl (fun K hK => ?_) AllReadyH.nil
      go_simp
      refine hK.out _ _ hHeld (fun hHeld => ?_)
      clear hK K
      try simp only [Act.put, List.setIfInBounds_toArray, List.set_cons_zero, List.set_cons_succ]
      refine wpAnyH_done (by kernel_rfl) ?_ _
      have hb4 : Below w.heap.size w w3 := below_ext hbw (hb2.trans ((Below.refl _ w2).grown hg3 hb2.size (by simp [Value.ownBlock])))
      have HO := Lib.hid ho3.rd
      clear ho3
      go_wp2
      go_ret2
      exact ⟨_, by rw [Hck.out]; rfl, by rw [if_pos Hck.out]; exact HO.out, hb4⟩
    · rw [hk] at HR HR0 ⊢
      go_enter Try.func17, Try.ntmps17
      go_wp2_with (go_at_call 32; refine (check_any x (by omega) _ _ (HR.out _)).mono ?_; rintro e w' ⟨rfl, hb'⟩)
      have hlt : w.heap.size < w'.heap.size := by have := hb'.size; simp at this; omega
      have hx0 : w'.cell? ⟨w.heap.size, 0, none⟩ = some (.int .i64 3) := (hb'.cell (p := ⟨w.heap.size, 0, none⟩) (by simp)).trans (by simp)
      have hx1 : w'.cell? ⟨w.heap.size, 1, none⟩ = some (.int .i64 x.n) := (hb'.cell (p := ⟨w.heap.size, 1, none⟩) (by simp)).trans (by simp)
      have hx2 : w'.cell? ⟨w.heap.size, 2, none⟩ = some (.string x.s) := (hb'.cell (p := ⟨w.heap.size, 2, none⟩) (by simp)).trans (by simp)
      have hx3 : w'.cell? ⟨w.heap.size, 3, none⟩ = some (.slice oa x.l.length cap) := (hb'.cell (p := ⟨w.heap.size, 3, none⟩) (by simp)).trans (by simp)
      have hbw := below_after hb'
      have Hrx := Lib.hid (HR0.out.ext hbw)
      refine wp_region_held_drew (S := (fun w9 => w9.cell? ⟨w.heap.size, 0, none⟩ = some (.int .i64 3) ∧ w9.cell? ⟨w.heap.size, 1, none⟩ = some (.int .i64 x.n) ∧ w9.cell? ⟨w.heap.size, 2, none⟩ = some (.string x.s) ∧ w9.cell? ⟨w.heap.size, 3, none⟩ = some (.slice oa x.l.length cap))) (by kernel_rfl) ⟨hx0, hx1, hx2, hx3⟩ (fun hHeld => ?_)
      refine wpAnyH_take (i := 1) (v := ?vk3_1) rfl (by kernel_rfl) (by kernel_rfl) (by kernel_rfl) (fun _ _ _ h => h) (Or.inl ⟨by rfl, fun wS hSw => ?hyk3_1⟩) (by assumption) ?restk3_1
      case hyk3_1 => (obtain ⟨h0, h1, h2, h3⟩ := hSw; go_simp; first | done | with_reducible rfl)
      simp only [Act.put, List.setIfInBounds_toArray]
      refine wpAnyH_take (i := 2) (v := ?vk3_2) rfl (by kernel_rfl) (by kernel_rfl) (by kernel_rfl) (fun _ _ _ h => h) (Or.inl ⟨by rfl, fun wS hSw => ?hyk3_2⟩) (by assumption) ?restk3_2
      case hyk3_2 => (obtain ⟨h0, h1, h2, h3⟩ := hSw; go_simp; first | done | with_reducible rfl)
      simp only [Act.put]
      refine wpAnyH_take (i := 7) (v := ?vk3_7) rfl (by kernel_rfl) (by kernel_rfl) (by kernel_rfl) (fun _ _ _ h => h) (Or.inl ⟨by rfl, fun wS hSw => ?hyk3_7⟩) (by assumption) ?restk3_7
      case hyk3_7 => (obtain ⟨h0, h1, h2, h3⟩ := hSw; go_simp; first | done | with_reducible rfl)
      simp only [Act.put]
      refine wpAnyH_ready (rs := [0]) (by kernel_rfl) (by simp) ?_
      refine AllReadyH.cons rfl (fun K hK => ?_) AllReadyH.nil
      go_simp
      refine (newWriter_any _).mono ?_
      rintro e w2 ⟨tb, G, rfl, hW, hb2'⟩
      have hb2 : Below w'.heap.size w' w2 := ((Below.refl _ w').drew).trans hb2'
      have HW := Lib.hid hW
      obtain ⟨htb, hgb, hv0, hv1, hv2, hv3⟩ := hW
      have k0 := (hb2.cell (p := ⟨w.heap.size, 0, none⟩) hlt).trans hx0
      have k1 := (hb2.cell (p := ⟨w.heap.size, 1, none⟩) hlt).trans hx1
      have k2 := (hb2.cell (p := ⟨w.heap.size, 2, none⟩) hlt).trans hx2
      have k3 := (hb2.cell (p := ⟨w.heap.size, 3, none⟩) hlt).trans hx3
      clear hb2'
      refine hK.out _ _ ⟨k0, k1, k2, k3⟩ (fun hHeld => ?_)
      clear hK K
      try simp only [Act.put, List.setIfInBounds_toArray, List.set_cons_zero, List.set_cons_succ]
      refine wpAnyH_take (i := 3) (v := ?vk3_3) rfl (by kernel_rfl) (by kernel_rfl) (by kernel_rfl) (fun _ _ _ h => h) (Or.inl ⟨by rfl, fun wS hSw => ?hyk3_3⟩) (by assumption) ?restk3_3
      case hyk3_3 => (obtain ⟨h0, h1, h2, h3⟩ := hSw; go_simp; first | done | with_reducible rfl)
      simp only [Act.put, List.setIfInBounds_toArray]
      refine wpAnyH_take (i := 4) (v := ?vk3_4) rfl (by kernel_rfl) (by kernel_rfl) (by kernel_rfl) (fun _ _ _ h => h) (Or.inl ⟨by rfl, fun wS hSw => ?hyk3_4⟩) (by assumption) ?restk3_4
      case hyk3_4 => (obtain ⟨h0, h1, h2, h3⟩ := hSw; go_simp; first | done | with_reducible rfl)
      simp only [Act.put]
      refine wpAnyH_take (i := 5) (v := ?vk3_5) rfl (by kernel_rfl) (by kernel_rfl) (by kernel_rfl) (fun _ _ _ h => h) (Or.inl ⟨by rfl, fun wS hSw => ?hyk3_5⟩) (by assumption) ?restk3_5
      case hyk3_5 => (obtain ⟨h0, h1, h2, h3⟩ := hSw; go_simp; first | done | with_reducible rfl)
      simp only [Act.put]
      refine wpAnyH_ready (rs := [6]) (by kernel_rfl) (by simp) ?_
      refine AllReadyH.cons rfl (fun K hK => ?_) AllReadyH.nil
      go_simp
      refine hK.out _ _ ⟨k0, k1, k2, k3⟩ (fun hHeld => ?_)
      clear hK K
      try simp only [Act.put, List.setIfInBounds_toArray, List.set_cons_zero, List.set_cons_succ]
      refine wpAnyH_ready (rs := [8]) (by kernel_rfl) (by simp) ?_
      refine AllReadyH.cons rfl (fun K hK => ?_) AllReadyH.nil
      go_simp
      refine (write3_any (szs x.l) ?d5 x.l (fm_l x hk hfm) (Nat.le_refl _) w2.heap.size tb G (.slice none 0 0) [] x.n x.s oa cap _ (enc x) ?d6 HW.out (OwnB.nil _ _ _) ?d1 ?d2 ?d3).mono ?_
      case d5 => have := sz_l x; omega
      case d6 => exact (Hrx.out.ext hb2).sl
      case d1 => have := sz_l x; simp; omega
      case d2 => exact Nat.le_refl _
      case d3 => show _ = _; rw [enc_k3 x hk]; rfl
      rintro e w3 ⟨v3, rfl, ho3, hg3, hn3⟩
      refine hK.out _ _ ⟨cell_grown hg3 k0 (by simp [Value.ownBlock]), cell_grown hg3 k1 (by simp [Value.ownBlock]), cell_grown hg3 k2 (by simp [Value.ownBlock]), cell_grown hg3 k3 (by simp [Value.ownBlock])⟩ (fun hHeld => ?_)
      clear hK K
      try simp only [Act.put, List.setIfInBounds_toArray, List.set_cons_zero, List.set_cons_succ]
      refine wpAnyH_ready (rs := [9]) (by kernel_rfl) (by simp) ?_
      refine AllReadyH.cons rfl (fun K hK => ?_) AllReadyH.nil
      go_simp
      refine hK.out _ _ hHeld (fun hHeld => ?_)
      clear hK K
      try simp only [Act.put, List.setIfInBounds_toArray, List.set_cons_zero, List.set_cons_succ]
      refine wpAnyH_ready (rs := [10]) (by kernel_rfl) (by simp) ?_
      refine AllReadyH.cons rfl (fun K hK => ?_) AllReadyH.nil
      go_simp
      refine hK.out _ _ hHeld (fun hHeld => ?_)
      clear hK K
      try simp only [Act.put, List.setIfInBounds_toArray, List.set_cons_zero, List.set_cons_succ]
      refine wpAnyH_done (by kernel_rfl) ?_ _
      have hb4 : Below w.heap.size w w3 := below_ext hbw (hb2.trans ((Below.refl _ w2).grown hg3 hb2.size (by simp [Value.ownBlock])))
      have HO := Lib.hid ho3.rd
      clear ho3
      go_wp2
      go_ret2
      exact ⟨_, by rw [Hck.out]; rfl, by rw [if_pos Hck.out]; exact HO.out, hb4⟩

theorem RdB.form {w : World} {v : Value} {l : List UInt8} (h : RdB w v l) : ∃ oa cap, v = .slice oa l.length cap := by
  rcases h with ⟨rfl, rfl⟩ | ⟨a, cap, rfl, _⟩
  · exact ⟨none, 0, rfl⟩
  · exact ⟨some a, cap, rfl⟩

theorem encode_any (x : V) (hx : sz x ≤ 60000) (v : Value) (w : World) (hr : RdV w.heap.size w x v) : Calls Try.prog 17 #[v] w (EncPost x w) := encode_big x (by omega) v w hr
end Go.Proofs.Ytlocilbcmcfmaaa
/- codec.reader: want, take. -/
namespace Go.Proofs.Ytlocilbcmcfmaaa
open Go.RowKit

/-- the panic of want -/
def badChain : List PanicEntry := [{ v := .iface 30 (.int .i64 10), recovered := false }]

set_option maxHeartbeats 1000000 in
theorem want_true (p : Value) (w : World) : Calls Try.prog 40 #[p, .bool true] w fun e w' => e = .returned (.tuple #[]) ∧ w = w' := by
  go_enter Try.func40, Try.ntmps40
  go_wp2
  go_end0
  exact ⟨rfl, rfl⟩
set_option maxHeartbeats 1000000 in
theorem want_false (p : Value) (w : World) : Calls Try.prog 40 #[p, .bool false] w fun e w' => e = .panicked badChain ∧ w = w' := by
  go_enter Try.func40, Try.ntmps40
  go_wp2
  exact ⟨rfl, rfl, rfl⟩

/-- the reader in memory: what is left to be read -/
structure RdrAt (B : Nat) (w : World) (R : Nat) (l : List UInt8) : Prop where
  le : B ≤ R
  free : w.frozen? ⟨R, 0, none⟩ = false
  rest : ∃ v, w.cell? ⟨R, 0, none⟩ = some v ∧ BtsAt B w l v

def TakePost (B : Nat) (R : Nat) (l : List UInt8) (n : Nat) (w : World) (e : Ending) (w' : World) : Prop :=
  ∃ v v', e = .returned v ∧ BtsAt B w (l.take n) v ∧ BtsAt B w (l.drop n) v' ∧ w' = w.setCell ⟨R, 0, none⟩ v'

set_option maxRecDepth 100000 in
set_option maxHeartbeats 1000000 in
theorem take_ok (B R : Nat) (l : List UInt8) (n : Nat) (ni : Int) (hni : ni = (n : Int)) (w : World) (hr : RdrAt B w R l) (hn : n ≤ l.length) (hl : l.length ≤ 1000000) :
    Calls Try.prog 53 #[.pointer (some ⟨R, 0, none⟩), .int .i64 ni] w (TakePost B R l n w) := by
  subst hni
  obtain ⟨hle, hfr, v, hv, hb⟩ := hr
  rcases hb with ⟨rfl, oa, cap, rfl, hcm⟩ | ⟨hne, b, off, cap, rfl, h2, h3, h4, h5⟩
  · obtain rfl : n = 0 := by simpa using hn
    go_enter Try.func53, Try.ntmps53
    go_wp2_with (go_at_call 40; refine (want_true _ _).mono ?_; rintro e w' ⟨rfl, rfl⟩)
    all_goals go_ret
    all_goals exact ⟨_, _, rfl, .inl ⟨rfl, _, _, rfl, by first | exact hcm | simp⟩, .inl ⟨rfl, _, _, rfl, by first | exact hcm | simp⟩, by first | rfl | simp⟩
  · have H5 := Lib.hid h5; clear h5
    go_enter Try.func53, Try.ntmps53
    go_wp2_with (go_at_call 40; refine (want_true _ _).mono ?_; rintro e w' ⟨rfl, rfl⟩)
    all_goals go_ret
    · have hnl : n = l.length := by omega
      refine ⟨_, _, rfl, BtsAt.mk' (by simp; omega) (by simp; omega) (by omega) h4 (fun j c hj => H5.out j c ?_), BtsAt.mk' (by simp) (by simp; omega) (by omega) h4 (fun j c hj => ?_), rfl⟩
      · rw [List.getElem?_take] at hj; split at hj
        · exact hj
        · cases hj
      · rw [List.getElem?_drop, List.getElem?_eq_none (by omega)] at hj; cases hj
    · refine ⟨_, _, rfl, BtsAt.mk' (by simp; omega) (by simp; omega) (by omega) h4 (fun j c hj => H5.out j c ?_), BtsAt.mk' (by simp) (by simp; omega) (by omega) h4 (fun j c hj => ?_), rfl⟩
      · rw [List.getElem?_take] at hj; split at hj
        · exact hj
        · cases hj
      · rw [Nat.add_assoc]; exact H5.out (n + j) c (by simpa using hj)
end Go.Proofs.Ytlocilbcmcfmaaa
/- codec.reader: number. -/
namespace Go.Proofs.Ytlocilbcmcfmaaa
open Go.RowKit

set_option maxHeartbeats 1000000 in
theorem take_bad (B R : Nat) (l : List UInt8) (n : Nat) (ni : Int) (hni : ni = (n : Int)) (w : World) (hr : RdrAt B w R l) (hn : l.length < n) (_ : n ≤ 1000000000) :
    Calls Try.prog 53 #[.pointer (some ⟨R, 0, none⟩), .int .i64 ni] w fun e w' => e = .panicked badChain ∧ w = w' := by
  subst hni
  obtain ⟨hle, hfr, v, hv, hb⟩ := hr
  obtain ⟨oa, cap, rfl, hlc, hcm⟩ := hb.form
  clear hb
  have hd : decide (n ≤ l.length) = false := by simpa using hn
  go_enter Try.func53, Try.ntmps53
  go_wp2_with (go_at_call 40; refine (want_false _ _).mono ?_; rintro e w' ⟨rfl, rfl⟩)
  exact ⟨rfl, rfl, rfl⟩

theorem setCell_grown (w : World) (R : Nat) (v : Value) : w.grownBy (w.setCell ⟨R, 0, none⟩ v) (some R) :=
  ⟨rfl, rfl, rfl, by simp [World.setCell], fun k _ hk => Below.heap_setCell _ _ _ _ (fun h => hk (by rw [h]))⟩
theorem RdrAt.took {B R : Nat} {w : World} {l l' : List UInt8} {v' : Value} (h : RdrAt B w R l) (hb : BtsAt B w l' v') : RdrAt B (w.setCell ⟨R, 0, none⟩ v') R l' := by
  obtain ⟨hle, hfr, v, hv, _⟩ := h
  refine ⟨hle, by rw [World.frozen?_setCell]; exact hfr, v', World.cell?_setCell_same _ _ _ hv, hb.keep (Nat.le_refl _) fun k hk => Below.heap_setCell _ _ _ _ (by show k ≠ R; omega)⟩

/-- a numeral that is read -/
def rdNum : Nat → Nat → List UInt8 → Option (Nat × List UInt8)
  | _, _, [] => none
  | i, u, c :: r => if (i = 0 ∨ c.toNat ≠ 0) ∧ (i < 9 ∨ c.toNat ≤ 1) then (if c.toNat < 128 then some (u + c.toNat * 2 ^ (7 * i), r) else rdNum (i + 1) (u + (c.toNat - 128) * 2 ^ (7 * i)) r) else none

/-- what a reading leaves: the value and the rest, or the panic -/
def ReadPost (B R : Nat) (o : Option (Value × List UInt8)) (w : World) (e : Ending) (w' : World) : Prop :=
  match o with
  | some (v, r) => e = .returned v ∧ RdrAt B w' R r ∧ w.grownBy w' (some R)
  | none => e = .panicked badChain ∧ w.grownBy w' (some R)

theorem and127 : ∀ b : Fin 256, bits BinOp.and IntKind.u8 ((b : Nat) : Int) 127 = ((b.val % 128 : Nat) : Int) := by decide +kernel
theorem num_or (x k : Nat) (c : UInt8) (hk : k ≤ 9) (hx : x < 2 ^ (7 * k)) (hc : k = 9 → c.toNat ≤ 1) :
    bits BinOp.or IntKind.u64 (x : Int) (IntKind.u64.wrap (IntKind.u64.wrap (bits BinOp.and IntKind.u8 (c.toNat : Int) 127) * 2 ^ (7 * k))) = ((x + c.toNat % 128 * 2 ^ (7 * k) : Nat) : Int) := by
  have h1 := and127 ⟨c.toNat, c.toNat_lt⟩
  simp only at h1
  have hm : c.toNat % 128 < 128 := Nat.mod_lt _ (by decide)
  have hpow : (2 : Nat) ^ (7 * k) ≤ 2 ^ 63 := Nat.pow_le_pow_right (by decide) (by omega)
  have hb : c.toNat % 128 * 2 ^ (7 * k) < 18446744073709551616 := by
    by_cases h9 : k = 9
    · subst h9; have := hc rfl; omega
    · have h2 : (2 : Nat) ^ (7 * k) ≤ 2 ^ 56 := Nat.pow_le_pow_right (by decide) (by omega)
      have h3 : c.toNat % 128 * 2 ^ (7 * k) ≤ 127 * 2 ^ 56 := Nat.mul_le_mul (by omega) h2
      omega
  rw [h1]
  rw [IntKind.wrap_u64, IntKind.wrap_u64]
  have e1 : ((c.toNat % 128 : Nat) : Int) % 18446744073709551616 = ((c.toNat % 128 : Nat) : Int) := by omega
  rw [e1]
  have e2 : ((c.toNat % 128 : Nat) : Int) * 2 ^ (7 * k) = ((c.toNat % 128 * 2 ^ (7 * k) : Nat) : Int) := by push_cast; rfl
  rw [e2]
  have e3 : ((c.toNat % 128 * 2 ^ (7 * k) : Nat) : Int) % 18446744073709551616 = ((c.toNat % 128 * 2 ^ (7 * k) : Nat) : Int) := by omega
  rw [e3, bits_or_u64_nat _ _ (by omega) hb]
  congr 1
  have h4 := Nat.shiftLeft_add_eq_or_of_lt hx (c.toNat % 128)
  rw [Nat.shiftLeft_eq] at h4
  rw [Nat.or_comm, ← h4]; omega
theorem rdNum_end {k x : Nat} {c : UInt8} {r : List UInt8} (h : (k = 0 ∨ c.toNat ≠ 0) ∧ (k < 9 ∨ c.toNat ≤ 1)) (hc : c.toNat < 128) : rdNum k x (c :: r) = some (x + c.toNat % 128 * 2 ^ (7 * k), r) := by
  rw [rdNum, if_pos h, if_pos hc, Nat.mod_eq_of_lt hc]
theorem rdNum_on {k x : Nat} {c : UInt8} {r : List UInt8} (h : (k = 0 ∨ c.toNat ≠ 0) ∧ (k < 9 ∨ c.toNat ≤ 1)) (hc : ¬ c.toNat < 128) : rdNum k x (c :: r) = rdNum (k + 1) (x + c.toNat % 128 * 2 ^ (7 * k)) r := by
  rw [rdNum, if_pos h, if_neg hc]
  have := c.toNat_lt
  rw [show c.toNat - 128 = c.toNat % 128 from by omega]
theorem rdNum_bad {k x : Nat} {c : UInt8} {r : List UInt8} (h : ¬ ((k = 0 ∨ c.toNat ≠ 0) ∧ (k < 9 ∨ c.toNat ≤ 1))) : rdNum k x (c :: r) = none := by rw [rdNum, if_neg h]
def NumbRel (B R : Nat) (l : List UInt8) (w : World) (i u : Value) (wr : World) : Prop :=
  ∃ (k x : Nat) (r : List UInt8), i = .int .i64 k ∧ u = .int .u64 x ∧ k ≤ 9 ∧ x < 2 ^ (7 * k) ∧ rdNum 0 0 l = rdNum k x r ∧ r.length ≤ 1000000 ∧ RdrAt B wr R r ∧ w.grownBy wr (some R)

set_option maxRecDepth 100000 in
set_option maxHeartbeats 1000000 in
theorem number_any (B R : Nat) (l : List UInt8) (hl : l.length ≤ 1000000) (w : World) (hr : RdrAt B w R l) :
    Calls Try.prog 55 #[.pointer (some ⟨R, 0, none⟩)] w (ReadPost B R ((rdNum 0 0 l).map fun p => (.int .u64 (p.1 : Int), p.2)) w) := by
  have HR := Lib.hid hr; clear hr
  go_enter Try.func55, Try.ntmps55
  go_wp2
  go_loopw [2, 3] (fun u i wr => NumbRel B R l w i u wr) (fun _ i _ => 10 - (intOf i).toNat)
  case atStart => exact ⟨0, 0, l, rfl, rfl, by omega, by simp, rfl, hl, HR.out, grown_refl _ _⟩
  case round =>
    obtain ⟨k, x, r, rfl, rfl, hk, hx, heq, hrl, hrd, hg⟩ := hrel
    have Heq := Lib.hid heq; have Hx := Lib.hid hx; have HRd := Lib.hid hrd
    clear heq hx hrd
    cases r with
    | nil =>
      have hn : Hid (rdNum 0 0 l = none) := by have := Heq.out; rw [rdNum] at this; exact this
      go_wp2_with (go_at_call 53; refine (take_bad B R [] 1 _ rfl _ HRd.out (by simp) (by omega)).mono ?_; rintro e w' ⟨rfl, rfl⟩)
      exact ⟨rfl, by rw [hn.out]; exact And.intro rfl hg⟩
    | cons c r =>
      have c0 : ∀ v, BtsAt B wr [c] v → ∃ b off cap, v = .slice (some ⟨b, off, none⟩) 1 cap ∧ b < B ∧ wr.cell? ⟨b, off, none⟩ = some (.int .u8 (c.toNat : Int)) := fun v hv => by
        rcases hv with ⟨h, _⟩ | ⟨_, b, off, cap, rfl, _, _, h4, h5⟩
        · cases h
        · exact ⟨b, off, cap, rfl, h4, by simpa using h5 0 c rfl⟩
      have C0 := Lib.hid c0; clear c0
      have hrl' : r.length ≤ 1000000 := by simp at hrl; omega
      obtain ⟨b0, e0⟩ : ∃ b, ((k : Int) == 0) = b := ⟨_, rfl⟩
      obtain ⟨b1, e1⟩ : ∃ b, ((c.toNat : Int) != 0) = b := ⟨_, rfl⟩
      obtain ⟨b2, e2⟩ : ∃ b, decide ((k : Int) < 9) = b := ⟨_, rfl⟩
      obtain ⟨b3, e3⟩ : ∃ b, decide ((c.toNat : Int) ≤ 1) = b := ⟨_, rfl⟩
      obtain ⟨b4, e4⟩ : ∃ b, decide ((c.toNat : Int) < 128) = b := ⟨_, rfl⟩
      have E := Lib.hid (And.intro e0 (And.intro e1 (And.intro e2 (And.intro e3 e4))))
      have hcond : Hid (((b0 || b1) && (b2 || b3)) = true ↔ ((k = 0 ∨ c.toNat ≠ 0) ∧ (k < 9 ∨ c.toNat ≤ 1))) := by
        show _ ↔ _
        rw [← e0, ← e1, ← e2, ← e3]
        simp; omega
      by_cases hgood : ((b0 || b1) && (b2 || b3)) = true
      case neg =>
        have hn : Hid (rdNum 0 0 l = none) := by show _ = _; rw [Heq.out]; exact rdNum_bad fun h => hgood (hcond.out.2 h)
        have hgf : ((b0 || b1) && (b2 || b3)) = false := by simpa using hgood
        clear hgood hcond
        have HG := Lib.hid hgf; clear hgf
        cases b0 <;> cases b1 <;> cases b2 <;> cases b3
        all_goals first | (exfalso; exact absurd HG.out (by decide)) | skip
        all_goals
          go_wp2_with (first
            | (go_at_call 53; refine (take_ok B R (c :: r) 1 _ rfl _ HRd.out (by simp) hrl).mono ?_; rintro e w1 ⟨v, v', rfl, hv, hv', rfl⟩; obtain ⟨b, off, cap, rfl, hbB, hc⟩ := C0.out v hv; have hbR : R ≠ b := by (have := HRd.out.le; omega))
            | (go_at_call 40; refine (want_false _ _).mono ?_; rintro e w' ⟨rfl, rfl⟩))
          exact ⟨rfl, by rw [hn.out]; exact And.intro rfl (grown_trans hg (setCell_grown _ _ _) (.inl rfl))⟩
      case pos =>
        have hgd := hcond.out.1 hgood
        have HGD := Lib.hid hgd
        have HG := Lib.hid hgood; clear hgood hgd hcond
        cases b4
        · have hc128 : Hid (¬ c.toNat < 128) := by have := E.out.2.2.2.2; simp at this; show ¬ _; omega
          have hk9 : k < 9 := by
            have h1 := HGD.out.2; have h2 := hc128.out; omega
          have hor := Lib.hid (num_or x k c hk Hx.out (by omega))
          have hon := Lib.hid (rdNum_on (x := x) (r := r) HGD.out hc128.out)
          cases b0 <;> cases b1 <;> cases b2 <;> cases b3
          all_goals first | (exfalso; exact absurd HG.out (by decide)) | skip
          all_goals
            go_wp2_with (first
              | (go_at_call 53; refine (take_ok B R (c :: r) 1 _ rfl _ HRd.out (by simp) hrl).mono ?_; rintro e w1 ⟨v, v', rfl, hv, hv', rfl⟩; obtain ⟨b, off, cap, rfl, hbB, hc⟩ := C0.out v hv; have hbR : R ≠ b := by (have := HRd.out.le; omega))
              | (go_at_call 40; refine (want_true _ _).mono ?_; rintro e w' ⟨rfl, rfl⟩))
            go_roundw
            case rel =>
              refine ⟨k + 1, x + c.toNat % 128 * 2 ^ (7 * k), r, by go_num, by rw [hor.out], by omega, ?_, by rw [Heq.out, hon.out], hrl', HRd.out.took (by simpa using hv'), grown_trans hg (setCell_grown _ _ _) (.inl rfl)⟩
              have h1 : c.toNat % 128 * 2 ^ (7 * k) ≤ 127 * 2 ^ (7 * k) := Nat.mul_le_mul_right _ (by omega)
              have h2 : (2 : Nat) ^ (7 * (k + 1)) = 128 * 2 ^ (7 * k) := by rw [show 7 * (k + 1) = 7 + 7 * k from by omega, Nat.pow_add]
              have h3 := Hx.out
              omega
            case measure => simp [intOf]; omega
        · have hc128 : Hid (c.toNat < 128) := by have := E.out.2.2.2.2; simp at this; show _ < _; omega
          have hor := Lib.hid (num_or x k c hk Hx.out (fun h => by have := HGD.out.2; omega))
          have hen := Lib.hid (rdNum_end (x := x) (r := r) HGD.out hc128.out)
          cases b0 <;> cases b1 <;> cases b2 <;> cases b3
          all_goals first | (exfalso; exact absurd HG.out (by decide)) | skip
          all_goals
            go_wp2_with (first
              | (go_at_call 53; refine (take_ok B R (c :: r) 1 _ rfl _ HRd.out (by simp) hrl).mono ?_; rintro e w1 ⟨v, v', rfl, hv, hv', rfl⟩; obtain ⟨b, off, cap, rfl, hbB, hc⟩ := C0.out v hv; have hbR : R ≠ b := by (have := HRd.out.le; omega))
              | (go_at_call 40; refine (want_true _ _).mono ?_; rintro e w' ⟨rfl, rfl⟩))
            go_ret
            rw [Heq.out, hen.out]
            exact And.intro (by rw [← hor.out]; rfl) (And.intro (HRd.out.took (by simpa using hv')) (grown_trans hg (setCell_grown _ _ _) (.inl rfl)))
end Go.Proofs.Ytlocilbcmcfmaaa
