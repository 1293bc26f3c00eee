/- Merged: Ttw Tcl Tpa Tcc. -/
import Derived.Test.YtbonebmboolemaaDoorK06
import Derived.Test.YtbonebmboolemaaDoorK08
import Derived.Test.YtbonebmboolemaaDoorK25
import Derived.Test.YtbonebmboolemaaDoorK27
import Derived.Laws.ResultCell
import Derived.Deep.DeepCutAuto
/- the law's two tables. -/
namespace Go.Proofs.YtbonebmboolemaaDoor
open Go.RowKit
def dgOf (b : UInt8) : Dg := ⟨b :: List.replicate 31 0, by simp⟩
def tab1 : Tab := ⟨3, 5, [0, 40, -1], dgOf 1⟩
def tab2 : Tab := ⟨3, 9, [7, 0, 1048576], dgOf 2⟩
def twoT : List Tab := [tab1, tab2]
theorem tb_places : placesOf Tryd.prog 31 = some [(0, 1), (1, 1), (2, 1), (3, 32)] := by kernel_rfl
theorem tb_zero : ((Tryd.prog.info? 31).bind (·.zero)).map (·.cells.size) = some 35 := by kernel_rfl
theorem tb_info : ((Tryd.prog.info? 31).bind fun i => i.zero.map fun _ => i.size) = some 35 := by kernel_rfl
theorem tb_seq (r : Tb) : SeqP ([(0, 1), (1, 1), (2, 1), (3, 32)].toArray[·]?) 0 [(0, .int .i64 r.air), (1, .int .i64 r.fl), (2, r.cv), (3, dv r.salt.1)] := by
  have h : (dv r.salt.1).cells.size = 32 := by show (bcells r.salt.1).toArray.size = 32; rw [List.size_toArray, bcells_length, r.salt.2]
  refine ⟨rfl, rfl, rfl, by rw [h]; rfl, trivial⟩
theorem tb_flat (r : Tb) : flatC [(0, .int .i64 r.air), (1, .int .i64 r.fl), (2, r.cv), (3, dv r.salt.1)] = r.cells := by
  simp [flatC, Tb.cells, dv, Value.cells, Tb.cv]
theorem tbv_size (r : Tb) : r.v.cells.size = 35 := by show r.cells.toArray.size = 35; rw [List.size_toArray, tb_len]
theorem two_seq (r s : Tb) : SeqP (fun i => some (i * 35, 35)) 0 [(0, r.v), (1, s.v)] := by
  refine ⟨by rw [tbv_size], by rw [tbv_size, tbv_size], trivial⟩
theorem two_flat (r s : Tb) : flatC [(0, r.v), (1, s.v)] = tbK.flat [r, s] := by
  simp [flatC, EK.flat, Tb.v, Value.cells, tbK]
theorem one_seq (r : Tb) : SeqP (fun i => some (i * 35, 35)) 0 [(0, r.v)] := ⟨by rw [tbv_size], trivial⟩
theorem one_flat (r : Tb) : flatC [(0, r.v)] = tbK.flat [r] := by
  simp [flatC, EK.flat, Tb.v, Value.cells, tbK]
theorem dg_built1 : Tryd.prog.built 29 [(0, .int .u8 1)] = some (bcells (dgOf 1).1).toArray := by kernel_rfl
theorem dg_built2 : Tryd.prog.built 29 [(0, .int .u8 2)] = some (bcells (dgOf 2).1).toArray := by kernel_rfl
set_option maxRecDepth 100000 in
set_option maxHeartbeats 4000000 in
theorem two_any (w : World) : Calls Tryd.prog 26 #[] w fun e w' => ∃ v, e = .returned v ∧ TabsAt w' twoT v ∧ Below w.heap.size w w' := by
  go_enter Tryd.func26, Tryd.ntmps26
  go_wp2_with fail
  have h1 := b_al (w := w) (.cells #[.int .i64 0, .int .i64 40, .int .i64 (-1)] 3)
  have c1 : CB (w.alloc (.cells #[.int .i64 0, .int .i64 40, .int .i64 (-1)] 3)) w.heap.size 3 (nuK.flat [0, 40, -1]) := cb_one w _ _ _ rfl
  obtain ⟨w1, hw1⟩ : ∃ w1, w.alloc (.cells #[.int .i64 0, .int .i64 40, .int .i64 (-1)] 3) = w1 := ⟨_, rfl⟩
  have s1 : w1.heap.size = w.heap.size + 1 := by rw [← hw1, World.size_alloc]
  rw [hw1] at h1 c1
  have h2 := b_al (w := w1) (.cells #[.int .i64 7, .int .i64 0, .int .i64 1048576] 3)
  have c2 : CB (w1.alloc (.cells #[.int .i64 7, .int .i64 0, .int .i64 1048576] 3)) w1.heap.size 3 (nuK.flat [7, 0, 1048576]) := cb_one w1 _ _ _ rfl
  have c12 := c1.ext h2
  obtain ⟨w2, hw2⟩ : ∃ w2, w1.alloc (.cells #[.int .i64 7, .int .i64 0, .int .i64 1048576] 3) = w2 := ⟨_, rfl⟩
  have s2 : w2.heap.size = w.heap.size + 1 + 1 := by rw [← hw2, World.size_alloc, s1]
  rw [hw2] at h2 c2 c12
  rw [s1] at c2
  obtain ⟨B, hB⟩ : ∃ B : Obj, B = .cells (tbK.flat [⟨3, 5, some ⟨w.heap.size, 0, none⟩, 3, 3, dgOf 1⟩, ⟨3, 9, some ⟨w.heap.size + 1, 0, none⟩, 3, 3, dgOf 2⟩]).toArray 31 := ⟨_, rfl⟩
  have h3 := b_al (w := w2) B
  have c3 : CB (w2.alloc B) w2.heap.size 31 (tbK.flat [⟨3, 5, some ⟨w.heap.size, 0, none⟩, 3, 3, dgOf 1⟩, ⟨3, 9, some ⟨w.heap.size + 1, 0, none⟩, 3, 3, dgOf 2⟩]) := cb_one w2 B _ _ hB
  have c13 := c12.ext h3
  have c23 := c2.ext h3
  have hb : Below w.heap.size w (w2.alloc B) := below_ext (below_ext h1 h2) h3
  go_ret
  have hw : ((w.alloc (.cells #[.int .i64 0, .int .i64 40, .int .i64 (-1)] 3)).alloc (.cells #[.int .i64 7, .int .i64 0, .int .i64 1048576] 3)).alloc B = w2.alloc B := by rw [hw1, hw2]
  rw [hB] at hw
  have key : TabsAt (w2.alloc B) twoT (.slice (some ⟨w.heap.size + 1 + 1, 0, none⟩) 2 2) := by
    have hl := ls_block (K := tbK) 2 c3 rfl (by unfold maxLen; omega)
    rw [s2] at hl
    refine ⟨_, by rw [World.size_alloc, s2]; rw [World.size_alloc, s2] at hl; exact hl, rfl, fun i t r ht hr => ?_⟩
    match i, ht, hr with
    | 0, ht, hr =>
      injection ht with ht; injection hr with hr; subst ht hr
      exact ⟨rfl, rfl, rfl, ls_block (K := nuK) 3 c13 rfl (by unfold maxLen; omega)⟩
    | 1, ht, hr =>
      injection ht with ht; injection hr with hr; subst ht hr
      exact ⟨rfl, rfl, rfl, ls_block (K := nuK) 3 c23 rfl (by unfold maxLen; omega)⟩
    | i + 2, ht, _ => simp [twoT] at ht
  rw [hB] at key hb
  rw [← hw] at key hb
  exact ⟨_, rfl, key, hb⟩
end Go.Proofs.YtbonebmboolemaaDoor
/- digest.Climb. -/
namespace Go.Proofs.YtbonebmboolemaaDoor
open Go.RowKit
theorem results_row2 {P : Program} {fn : Func} {p u : Tmp} {ty : TypeId} (h : fn.results = #[.cell p ty, .tmp u]) (tmps : Array Value) (w : World) (g : Nat) (t : TypeId) (cs : Array Value) (fr : Nat × Nat) (d : TypeDesc) (x : Value)
    (hp : tmps.getD p undef = .pointer (some ⟨g, 0, none⟩)) (hx : tmps.getD u undef = x) (hg : w.heap[g]? = some (.cells cs t fr))
    (hu : P.underlying ty = some d) (hd : (match d with | .struct _ | .array _ _ => true | _ => false) = true) (hi : (P.info? ty).map (·.size) = some cs.size) :
    (results fn tmps).run P w = .ok (.tuple #[.agg cs, x]) w := by
  rw [results_cell_tmp h, hp, hx]
  have hp' : tmps[p]?.getD undef = .pointer (some ⟨g, 0, none⟩) := by simpa using hp
  simp [asAddr, Result.andThen, run_loadVar_row w g t ty cs fr d hg hu hd hi]
/-- truth values as elements -/
def boolK : EK Bool := ⟨1, fun b => [.bool b], fun _ => rfl, fun b u hu => by rw [List.mem_singleton] at hu; rw [hu]; rfl, by decide⟩
theorem bool_info : (Tryd.prog.info? 4).map (fun i => (i.zero, i.size, i.bytes)) = some (some (.bool false), 1, 1) := by kernel_rfl
/-- what a climb answers -/
def climbD (d : Dg) (n a : Nat) (p : List Dg) : Dg := if p.length = (firsts n a).length then riseD d n a p else dgZ
def climbE (n a : Nat) (p : List Dg) : Int := if p.length = (firsts n a).length then 0 else 1
/-- half-way up -/
def upI (d : Dg) (f : List Bool) (p : List Dg) (i : Nat) : Dg := ((f.reverse.zip p).take i).foldl upD (leafD d)
theorem upI_zero (d : Dg) (f : List Bool) (p : List Dg) : upI d f p 0 = leafD d := rfl
theorem upI_succ {d y : Dg} {f : List Bool} {p : List Dg} {i : Nat} {b : Bool} (hl : p.length = f.length) (hi : p[i]? = some y) (hb : f[f.length - 1 - i]? = some b) : upI d f p (i + 1) = upD (upI d f p i) (b, y) := by
  have hip := (List.getElem?_eq_some_iff.1 hi).1
  have hr : f.reverse[i]? = some b := by rw [List.getElem?_reverse (by omega)]; exact hb
  have hz : (f.reverse.zip p)[i]? = some (b, y) := by rw [List.getElem?_zip_eq_some]; exact ⟨hr, hi⟩
  unfold upI
  rw [List.take_add_one, List.foldl_append, hz]
  rfl
theorem upI_all {d : Dg} {f : List Bool} {p : List Dg} {n a : Nat} (hf : firsts n a = f) (hl : p.length = f.length) : upI d f p p.length = climbD d n a p := by
  unfold upI climbD riseD
  rw [if_pos (by rw [hf, hl]), hf, List.take_of_length_le (by rw [List.length_zip, List.length_reverse]; omega)]
structure C2Rel (d : Dg) (f : List Bool) (p : List Dg) (w : World) (S : Nat) (vf : Value) (vi : Value) (wr : World) : Prop where
  h : ∃ i : Nat, vi = .int .i64 (i : Int) ∧ i ≤ p.length ∧ wr.heap[w.heap.size + 1]? = some (.cells (bcells (upI d f p i).1).toArray 29 (0, 0)) ∧ OwnK boolK 4 wr S vf f ∧ Below w.heap.size w wr
structure C1Rel (A N : Nat) (w0 : World) (S : Nat) (va vn vf : Value) (wr : World) : Prop where
  h : ∃ (a n : Nat) (f : List Bool), va = .int .i64 (a : Int) ∧ vn = .int .i64 (n : Int) ∧ OwnK boolK 4 wr S vf f ∧ firsts N A = f ++ firsts n a ∧ a < n ∧ n ≤ N ∧ f.length + n ≤ N ∧ Below S w0 wr
def natOf : Value → Nat
  | .int _ n => n.toNat
  | _ => 0
set_option maxRecDepth 100000 in
set_option maxHeartbeats 4000000 in
theorem climb_any (d : Dg) (A N : Nat) (p : List Dg) (v : Value) (w : World) (hl : LsAt digK w.heap.size w p v) (hN : N ≤ 64) (hA : A < N) (hL : Laid w) :
    Calls Tryd.prog 43 #[dv d.1, .int .i64 (A : Int), .int .i64 (N : Int), v] w fun e w' => e = .returned (.tuple #[dv (climbD d N A p).1, .int .i64 (climbE N A p)]) ∧ Below w.heap.size w w' := by
  have HL := Lib.hid hL; have HV := Lib.hid hl; have HN := Lib.hid hN
  obtain ⟨oa, cap, rfl, hlm⟩ := hl.shape
  have b1 : decide ((N : Int) < 1) = false := by simp; omega
  have b2 : decide (1099511627776 < (N : Int)) = false := by simp; omega
  have b3 : decide ((A : Int) < 0) = false := by simp
  have b4 : decide ((N : Int) ≤ (A : Int)) = false := by simp; omega
  have b5 : decide (N ≤ A) = false := by simp; omega
  have b6 : (A : Int) < (N : Int) := by omega
  have HAN := Lib.hid hA
  have H4 : Hid (CB ((w.alloc (bD d)).alloc ZD) w.heap.size 29 (bcells d.1)) := (cb_one w _ _ _ rfl).alloc _
  have H8 : Hid (CB ((w.alloc (bD d)).alloc ZD) (w.heap.size + 1) 29 (bcells dgZ.1)) := by
    have := cb_one (w.alloc (bD d)) ZD _ _ rfl
    rw [World.size_alloc] at this; exact this
  have HB : Hid (Below w.heap.size w ((w.alloc (bD d)).alloc ZD)) := by
    refine Below.alloc ((Below.refl w.heap.size w).alloc (Nat.le_refl _) _) ?_ _; simp only [World.size_alloc]; omega
  have HS : Hid (((w.alloc (bD d)).alloc ZD).heap.size = w.heap.size + 2) := by show _ = _; rw [World.size_alloc, World.size_alloc]
  clear hl hN hA hL
  change Calls Tryd.prog 43 #[.agg (bcells d.1).toArray, _, _, _] w _
  go_enter Tryd.func43, Tryd.ntmps43
  go_upto_region 1 with fail
  change Code.wp _ _ _ _ ((w.alloc (bD d)).alloc ZD)
  generalize (w.alloc (bD d)).alloc ZD = w0 at *
  go_wp2_with fail
  go_loopw [1, 2, 10] (fun va vn vf wr => C1Rel A N w0 (w.heap.size + 2) va vn vf wr) (fun _ vn _ _ => natOf vn)
  case atStart => exact ⟨⟨A, N, [], rfl, rfl, OwnK.nil _ _ _, rfl, HAN.out, Nat.le_refl _, by simp, Below.refl _ _⟩⟩
  case round =>
    obtain ⟨a, n, f, rfl, rfl, ho, hf, han, hnN, hfn, hb⟩ := hrel.h
    have HO := Lib.hid ho; have HF := Lib.hid hf; have HB1 := Lib.hid hb; have Hfn := Lib.hid hfn
    obtain ⟨of, cf, rfl, _⟩ := ho.rd.shape
    clear hrel ho hf hb hfn
    by_cases h1 : n ≤ 1
    · have t1 : decide (1 < (n : Int)) = false := by simp; omega
      have t1' : decide (1 < n) = false := by simp; omega
      have hfin := Lib.hid (HF.out.trans (by rw [firsts_one a h1, List.append_nil]))
      clear h1
      have HBw : Hid (Below w.heap.size w wr) := HB.out.trans (below_mono HB1.out (by omega))
      have X8 : Hid (wr.heap[w.heap.size + 1]? = some (.cells (bcells dgZ.1).toArray 29 (0, 0))) := H8.out.keepB HB1.out (by omega)
      have Y8 : Hid (CB wr (w.heap.size + 1) 29 (bcells dgZ.1)) := X8.out
      have Y4 : Hid (CB wr w.heap.size 29 (bcells d.1)) := H4.out.keepB HB1.out (by omega)
      have hfl : Hid (f.length ≤ 64) := by show _ ≤ _; have := Hfn.out; have := HN.out; omega
      have Hdl := Lib.hid d.2; have Hzl : Hid (dgZ.1.length = 32) := dgZ.2
      clear H4 H8 HF HB1 HB HS
      generalize wr = wa at *
      by_cases hpl : p.length = f.length
      · have t2 : decide ((p.length : Int) = (f.length : Int)) = true := by simp; omega
        have t2' : decide (p.length = f.length) = true := by simpa using hpl
        have t3 : ((p.length : Int) = (f.length : Int)) = True := by simp; omega
        have hleaf := Lib.hid (dleaf_any d wa (HL.out.ext HBw.out))
        have hrl := (leafD d).2
        have hx0 := upI_zero d f p
        obtain ⟨r, hr⟩ : ∃ r, (leafD d) = r := ⟨_, rfl⟩
        rw [hr] at hleaf hrl hx0
        have Hrl := Lib.hid hrl; have HX0 := Lib.hid hx0
        clear hr hrl hx0
        go_wp2_with (first
          | (with_reducible refine wpList_load_d (hgd := rfl) 29 (.tmp 4) rfl w.heap.size d.1 Hdl.out rfl 29 _ Y4.out Tryd.underlying29 rfl dig_sz ?_)
          | (go_at_call 50; refine hleaf.out.mono ?_; go_loud (
              rintro e w2 ⟨rfl, hb2⟩
              have X82 : Hid (w2.heap[w.heap.size + 1]? = some (.cells (bcells dgZ.1).toArray 29 (0, 0))) := Y8.out.ext hb2
              have HB2 := Lib.hid (below_ext HBw.out hb2); have HO2 := Lib.hid (HO.out.ext hb2)
              clear hb2 X8 Y8 Y4 HBw HO hleaf))
          | ((with_reducible refine wpList_store_d (hgd := rfl) 29 (.tmp 8) (.tmp 57) rfl (w.heap.size + 1) r.1 Hrl.out rfl rfl 29 _ X82.out rfl dig_sz ?_); go_loud (
              intro w3 hc3 hg3 hz3
              have X83 : Hid (w3.heap[w.heap.size + 1]? = some (.cells (bcells r.1).toArray 29 (0, 0))) := hc3.out
              have HB3 := Lib.hid (HB2.out.grown hg3.out HB2.out.size (fun k hk => by injection hk; omega))
              have HO3 := Lib.hid (HO2.out.keepR hg3.out (.inr (HO2.out.far (by omega))))
              clear hc3 hg3 hz3 X82 HB2 HO2)))
        go_loopw [60] (fun vi wr => C2Rel d f p w (w.heap.size + 2) (.slice of f.length cf) vi wr) (fun vi _ => p.length - natOf vi)
        case atStart => exact ⟨⟨0, rfl, by omega, by rw [HX0.out]; exact X83.out, HO3.out, HB3.out⟩⟩
        case round =>
          obtain ⟨i, rfl, hip, hx8, ho, hb⟩ := hrel.h
          have X8 := Lib.hid hx8; have HOr := Lib.hid ho; have HBr := Lib.hid hb
          have Y8 : Hid (CB wr (w.heap.size + 1) 29 (bcells (upI d f p i).1)) := hx8
          have hx0l := (upI d f p i).2
          clear hrel hx8 ho hb X83 HO3 HB3
          have HUS : ∀ y b, p[i]? = some y → f[f.length - 1 - i]? = some b → upI d f p (i + 1) = upD (upI d f p i) (b, y) := fun y b h1 h2 => upI_succ hpl h1 h2
          have HUA := Lib.hid (upI_all (d := d) hfin.out hpl)
          obtain ⟨x, hx⟩ : ∃ x, upI d f p i = x := ⟨_, rfl⟩
          rw [hx] at X8 Y8 hx0l HUS
          have Hxl := Lib.hid hx0l; have Hx := Lib.hid hx; have HU := Lib.hid HUS
          clear hx0l hx HUS
          by_cases hlt : i < p.length
          case neg =>
            have hie : i = p.length := by omega
            have t4 : decide ((i : Int) < (p.length : Int)) = false := by simp; omega
            have t4' : decide (i < p.length) = false := by simp; omega
            have HE : Hid (climbD d N A p = x) := by show _ = _; rw [← HUA.out, ← hie, Hx.out]
            go_wp2_with (first
              | (with_reducible refine wpList_load_d (hgd := rfl) 29 (.tmp 8) rfl (w.heap.size + 1) x.1 Hxl.out rfl 29 _ Y8.out Tryd.underlying29 rfl dig_sz ?_)
              | (with_reducible refine wpList_store_d (hgd := rfl) 29 (.tmp 8) (.tmp 80) rfl (w.heap.size + 1) x.1 Hxl.out rfl rfl 29 _ X8.out (by rw [List.size_toArray, bcells_length, Hxl.out]) dig_sz ?_; intro w7 hc7 hg7 hz7))
            refine bodyPost_ret (v := .tuple #[dv x.1, .int .i64 0]) (results_row2 rfl _ _ (w.heap.size + 1) 29 (bcells x.1).toArray (0, 0) _ (.int .i64 0) rfl rfl hc7.out Tryd.underlying29 rfl (by rw [List.size_toArray, bcells_length, Hxl.out]; exact dig_sz)) rfl ?_
            exact ⟨by rw [HE.out]; unfold climbE; rw [if_pos (by rw [hfin.out]; exact hpl)], HBr.out.grown hg7.out HBr.out.size (fun k hk => by injection hk; omega)⟩
          case pos =>
            have t4 : decide ((i : Int) < (p.length : Int)) = true := by simp; omega
            have t4' : decide (i < p.length) = true := by simp; omega
            obtain ⟨y, hy⟩ : ∃ y, p[i]? = some y := ⟨_, List.getElem?_eq_getElem hlt⟩
            obtain ⟨q, hq⟩ : ∃ q, f.length - 1 - i = q := ⟨_, rfl⟩
            obtain ⟨b, hb⟩ : ∃ b, f[q]? = some b := ⟨_, List.getElem?_eq_getElem (by omega)⟩
            have hus := HU.out y b hy (by rw [hq]; exact hb)
            obtain ⟨pb, po, rfl, hpb, _⟩ := HV.out.at hlt
            have Hy := Lib.hid (LsAt.range rfl (HV.out.ext HBr.out) hy)
            have Hyl := Lib.hid y.2
            have HUS := Lib.hid hus
            have q1 : (f.length : Int) - 1 - (i : Int) = (q : Int) := by omega
            have q2 : (q : Int) < (f.length : Int) := by omega
            have q3 : (f.length : Int) ≤ 64 := by have := hfl.out; omega
            have q4 : (0 : Int) < (f.length : Int) := by omega
            have i1 : (i : Int) < (p.length : Int) := by omega
            have i2 : (i : Int) < (f.length : Int) := by omega
            have HZ : Hid ((wr.alloc ZD).heap[wr.heap.size]? = some (.cells (bcells dgZ.1).toArray 29 (0, 0))) := cb_one wr ZD _ _ rfl
            have hbl := Lib.hid (HOr.out.rd.at (k := q) (by omega))
            have Hb := Lib.hid hb
            clear hus hb hy HU hpb hq
            go_upto_region 16 with (first
              | (with_reducible refine wpList_load_mid rfl 29 (.tmp 63) rfl pb (po + i * 32) rfl (bcells y.1) _ Hy.out Tryd.underlying29 rfl (by rw [bcells_length, Hyl.out]; exact dig_sz) ?_)
              | (refine wpList_store_d (hgd := rfl) 29 (.tmp 13) (.tmp 64) rfl wr.heap.size y.1 Hyl.out rfl rfl 29 _ HZ.out rfl dig_sz ?_; go_loud (intro w2 hc2 hg2 hz2)))
            change Code.wp _ _ _ _ w2
            have hsz := hz2
            rw [World.size_alloc] at hsz
            have HB2 : Hid (Below w.heap.size w w2) := ((HBr.out.alloc HBr.out.size ZD)).grown hg2.out (by rw [World.size_alloc]; have := HBr.out.size; omega) (fun k hk => by injection hk; have := HBr.out.size; omega)
            have hlt8 := Y8.out.lt
            have X82 : Hid (w2.heap[w.heap.size + 1]? = some (.cells (bcells x.1).toArray 29 (0, 0))) := (Y8.out.alloc ZD).keep (hg2.out.block _ (by rw [World.size_alloc]; omega) (by intro e; injection e; omega))
            have Y82 : Hid (CB w2 (w.heap.size + 1) 29 (bcells x.1)) := X82.out
            have Y13 : Hid (CB w2 wr.heap.size 29 (bcells y.1)) := hc2.out
            have HO2 : Hid (OwnK boolK 4 w2 (w.heap.size + 2) (.slice of f.length cf) f) := (HOr.out.alloc ZD).keepR hg2.out (.inr (fun e => by have := (HOr.out.lt _ e).2; omega))
            obtain ⟨fb, fo, rfl, hfb, hfat⟩ := HO2.out.rd.at (k := q) (by omega)
            have hcell : w2.cell? ⟨fb, fo + q, none⟩ = some (.bool b) := by
              have := hfat q b Hb.out 0 _ rfl
              simpa [boolK] using this
            have hn1 := Lib.hid (dnode_any x y w2 (HL.out.ext HB2.out))
            have hn2 := Lib.hid (dnode_any y x w2 (HL.out.ext HB2.out))
            clear hc2 hg2 hz2 hsz X8 Y8 HBr HOr Hy hbl hfb hfat HZ hlt8
            obtain rfl | rfl : b = true ∨ b = false := by cases b <;> simp
            · go_wp2_with (first
                | (with_reducible refine wpList_load_d (hgd := rfl) 29 (.tmp 8) rfl (w.heap.size + 1) x.1 Hxl.out rfl 29 _ Y82.out Tryd.underlying29 rfl dig_sz ?_)
                | (with_reducible refine wpList_load_d (hgd := rfl) 29 (.tmp 13) rfl wr.heap.size y.1 Hyl.out rfl 29 _ Y13.out Tryd.underlying29 rfl dig_sz ?_)
                | (go_at_call 52; refine hn1.out.mono ?_; go_loud (
                    rintro e w3 ⟨rfl, hb3⟩
                    have X83 : Hid (w3.heap[w.heap.size + 1]? = some (.cells (bcells x.1).toArray 29 (0, 0))) := Y82.out.ext hb3
                    have HB3 := Lib.hid (below_ext HB2.out hb3); have HO3 := Lib.hid (HO2.out.ext hb3)
                    have hzl := (nodeD x y).2
                    obtain ⟨z, hz⟩ : ∃ z, nodeD x y = z := ⟨_, rfl⟩
                    rw [hz] at hzl ⊢
                    have HZZ := Lib.hid hz; have Hzl2 := Lib.hid hzl
                    clear hb3 X82 Y82 Y13 HB2 HO2 hn1 hn2 hz hzl hcell))
                | ((with_reducible refine wpList_store_d (hgd := rfl) 29 (.tmp 8) (.tmp 75) rfl (w.heap.size + 1) z.1 Hzl2.out rfl rfl 29 _ X83.out (by rw [List.size_toArray, bcells_length, Hxl.out]) dig_sz ?_); go_loud (
                    intro w4 hc4 hg4 hz4
                    have X84 : Hid (w4.heap[w.heap.size + 1]? = some (.cells (bcells z.1).toArray 29 (0, 0))) := hc4.out
                    have HB4 := Lib.hid (HB3.out.grown hg4.out HB3.out.size (fun k hk => by injection hk; omega))
                    have HO4 := Lib.hid (HO3.out.keepR hg4.out (.inr (HO3.out.far (by omega))))
                    clear hc4 hg4 hz4 X83 HB3 HO3)))
              go_roundw
              case rel => exact ⟨⟨i + 1, by go_num, by omega, by rw [HUS.out, show upD x (true, y) = z from HZZ.out]; exact X84.out, HO4.out, HB4.out⟩⟩
              case measure => simp [natOf]; omega
            · go_wp2_with (first
                | (with_reducible refine wpList_load_d (hgd := rfl) 29 (.tmp 8) rfl (w.heap.size + 1) x.1 Hxl.out rfl 29 _ Y82.out Tryd.underlying29 rfl dig_sz ?_)
                | (with_reducible refine wpList_load_d (hgd := rfl) 29 (.tmp 13) rfl wr.heap.size y.1 Hyl.out rfl 29 _ Y13.out Tryd.underlying29 rfl dig_sz ?_)
                | (go_at_call 52; refine hn2.out.mono ?_; go_loud (
                    rintro e w3 ⟨rfl, hb3⟩
                    have X83 : Hid (w3.heap[w.heap.size + 1]? = some (.cells (bcells x.1).toArray 29 (0, 0))) := Y82.out.ext hb3
                    have HB3 := Lib.hid (below_ext HB2.out hb3); have HO3 := Lib.hid (HO2.out.ext hb3)
                    have hzl := (nodeD y x).2
                    obtain ⟨z, hz⟩ : ∃ z, nodeD y x = z := ⟨_, rfl⟩
                    rw [hz] at hzl ⊢
                    have HZZ := Lib.hid hz; have Hzl2 := Lib.hid hzl
                    clear hb3 X82 Y82 Y13 HB2 HO2 hn1 hn2 hz hzl hcell))
                | ((with_reducible refine wpList_store_d (hgd := rfl) 29 (.tmp 8) (.tmp 78) rfl (w.heap.size + 1) z.1 Hzl2.out rfl rfl 29 _ X83.out (by rw [List.size_toArray, bcells_length, Hxl.out]) dig_sz ?_); go_loud (
                    intro w4 hc4 hg4 hz4
                    have X84 : Hid (w4.heap[w.heap.size + 1]? = some (.cells (bcells z.1).toArray 29 (0, 0))) := hc4.out
                    have HB4 := Lib.hid (HB3.out.grown hg4.out HB3.out.size (fun k hk => by injection hk; omega))
                    have HO4 := Lib.hid (HO3.out.keepR hg4.out (.inr (HO3.out.far (by omega))))
                    clear hc4 hg4 hz4 X83 HB3 HO3)))
              go_roundw
              case rel => exact ⟨⟨i + 1, by go_num, by omega, by rw [HUS.out, show upD x (false, y) = z from HZZ.out]; exact X84.out, HO4.out, HB4.out⟩⟩
              case measure => simp [natOf]; omega
      · have t2 : decide ((p.length : Int) = (f.length : Int)) = false := by simp; omega
        have t2' : decide (p.length = f.length) = false := by simpa using hpl
        go_wp2_with (first
          | (with_reducible refine wpList_load_d (hgd := rfl) 29 (.tmp 8) rfl (w.heap.size + 1) dgZ.1 Hzl.out rfl 29 _ Y8.out Tryd.underlying29 rfl dig_sz ?_)
          | (with_reducible refine wpList_store_d (hgd := rfl) 29 (.tmp 8) (.tmp 55) rfl (w.heap.size + 1) dgZ.1 Hzl.out rfl rfl 29 _ X8.out rfl dig_sz ?_; intro w7 hc7 hg7 hz7))
        refine bodyPost_ret (v := .tuple #[dv dgZ.1, .int .i64 1]) (results_row2 rfl _ _ (w.heap.size + 1) 29 (bcells dgZ.1).toArray (0, 0) _ (.int .i64 1) rfl rfl hc7.out Tryd.underlying29 rfl (by rw [List.size_toArray, bcells_length, Hzl.out]; exact dig_sz)) rfl ?_
        exact ⟨by unfold climbD climbE; rw [if_neg (by rw [hfin.out]; exact hpl), if_neg (by rw [hfin.out]; exact hpl)], HBw.out.grown hg7.out HBw.out.size (fun k hk => by injection hk; omega)⟩
    have h2 : 2 ≤ n := by omega
    have t1 : decide (1 < (n : Int)) = true := by simp; omega
    have t1' : decide (1 < n) = true := by simp; omega
    obtain ⟨a1, a2, a3⟩ := half_lt h2
    have h64n : n ≤ 64 := by have := HN.out; omega
    have HH := Lib.hid (half_any n wr h2 h64n)
    have Hlt := fun (h : a < halfN n) => firsts_lt h2 h
    have Hge := fun (h : ¬ a < halfN n) => firsts_ge h2 h
    obtain ⟨k, hk⟩ : ∃ k, halfN n = k := ⟨_, rfl⟩
    rw [hk] at HH a1 a2 a3 Hlt Hge
    have HLT := Lib.hid Hlt; have HGE := Lib.hid Hge
    clear Hlt Hge hk
    by_cases hak : a < k
    · have tk0 := hak
      have tk : decide ((a : Int) < (k : Int)) = true := by simp; omega
      have tk' : decide (a < k) = true := by simp; omega
      have hO1 := Lib.hid (HO.out.alloc (.cells #[.bool true] 4))
      have hB1 := Lib.hid (HB1.out.alloc (by have := HB1.out.size; have := HS.out; omega) (.cells #[.bool true] 4))
      have hSz : Hid (w.heap.size + 2 ≤ (wr.alloc (.cells #[.bool true] 4)).heap.size) := by show _ ≤ _; have := HB1.out.size; have := HS.out; rw [World.size_alloc]; omega
      have hSr := Lib.hid (src_el (P := Tryd.prog) (K := boolK) (a := true) (tx := 87) Tryd.underlying87 (cb_one wr (.cells #[.bool true] 4) _ _ rfl))
      have hfl : Hid (f.length ≤ 64) := by show _ ≤ _; have := Hfn.out; have := HN.out; omega
      clear HO HB1
      go_wp2_with (first
        | (go_at_call 51; refine HH.out.mono ?_; rintro e w' ⟨rfl, rfl⟩)
        | (at_builtin; go_loud (
           refine wpList_append_x (e := 4) (z := .bool false) (size := 1) (bytes := 1) Tryd.underlying87 bool_info rfl rfl (.tmp 34) (.tmp 38) rfl (w.heap.size + 2) _ f.length (boolK.flat f) rfl hO1.out _ 1 (boolK.flat [true]) rfl hSr.out (by have := hfl.out; unfold maxLen; omega) (by have := hfl.out; omega) hSz.out ?_
           intro v4 w4 ho4 hg4 hn4
           have KO4 : Hid (OwnK boolK 4 w4 (w.heap.size + 2) v4 (f ++ [true])) := OwnK.append (K := boolK) ho4 (by simp)
           have KB4 : Hid (Below (w.heap.size + 2) w0 w4) := hB1.out.grown hg4 hSz.out (fun g hg => (hO1.out.lt g hg).1)
           clear ho4 hg4 hn4 hO1 hB1 hSr hSz)))
      go_roundw
      case rel => exact ⟨⟨a, k, f ++ [true], rfl, rfl, KO4.out, by rw [HF.out, HLT.out tk0, List.append_assoc]; rfl, by omega, by omega, by rw [List.length_append, List.length_singleton]; have := Hfn.out; omega, KB4.out⟩⟩
      case measure => simp [natOf]; omega
    · have tk0 := hak
      have tk : decide ((a : Int) < (k : Int)) = false := by simp; omega
      have tk' : decide (a < k) = false := by simp; omega
      have e3 : (a : Int) - (k : Int) = ((a - k : Nat) : Int) := by omega
      have e4 : (n : Int) - (k : Int) = ((n - k : Nat) : Int) := by omega
      have hO1 := Lib.hid (HO.out.alloc (.cells #[.bool false] 4))
      have hB1 := Lib.hid (HB1.out.alloc (by have := HB1.out.size; have := HS.out; omega) (.cells #[.bool false] 4))
      have hSz : Hid (w.heap.size + 2 ≤ (wr.alloc (.cells #[.bool false] 4)).heap.size) := by show _ ≤ _; have := HB1.out.size; have := HS.out; rw [World.size_alloc]; omega
      have hSr := Lib.hid (src_el (P := Tryd.prog) (K := boolK) (a := false) (tx := 87) Tryd.underlying87 (cb_one wr (.cells #[.bool false] 4) _ _ rfl))
      have hfl : Hid (f.length ≤ 64) := by show _ ≤ _; have := Hfn.out; have := HN.out; omega
      clear HO HB1
      go_wp2_with (first
        | (go_at_call 51; refine HH.out.mono ?_; rintro e w' ⟨rfl, rfl⟩)
        | (at_builtin; go_loud (
           refine wpList_append_x (e := 4) (z := .bool false) (size := 1) (bytes := 1) Tryd.underlying87 bool_info rfl rfl (.tmp 34) (.tmp 38) rfl (w.heap.size + 2) _ f.length (boolK.flat f) rfl hO1.out _ 1 (boolK.flat [false]) rfl hSr.out (by have := hfl.out; unfold maxLen; omega) (by have := hfl.out; omega) hSz.out ?_
           intro v4 w4 ho4 hg4 hn4
           have KO4 : Hid (OwnK boolK 4 w4 (w.heap.size + 2) v4 (f ++ [false])) := OwnK.append (K := boolK) ho4 (by simp)
           have KB4 : Hid (Below (w.heap.size + 2) w0 w4) := hB1.out.grown hg4 hSz.out (fun g hg => (hO1.out.lt g hg).1)
           clear ho4 hg4 hn4 hO1 hB1 hSr hSz)))
      go_roundw
      case rel => exact ⟨⟨a - k, n - k, f ++ [false], by first | rfl | (rw [← e3, IntWalk.i64_in _ (by omega)]), by first | rfl | (rw [← e4, IntWalk.i64_in _ (by omega)]), KO4.out, by rw [HF.out, HGE.out tk0, List.append_assoc]; rfl, by omega, by omega, by rw [List.length_append, List.length_singleton]; have := Hfn.out; omega, KB4.out⟩⟩
      case measure => simp [natOf]; omega
end Go.Proofs.YtbonebmboolemaaDoor
/- digest.Path (printed by gen36p.py). -/
namespace Go.Proofs.YtbonebmboolemaaDoor
open Go.RowKit
theorem dig_info2 : (Tryd.prog.info? 29).map (fun i => (i.zero, i.size, i.bytes)) = some (some (.agg (bcells dgZ.1).toArray), 32, 32) := by kernel_rfl
def lenOf : Value → Nat
  | .slice _ n _ => n
  | _ => 0
structure PaRel (L : List Dg) (A : Nat) (w : World) (vl va vp : Value) (wr : World) : Prop where
  h : ∃ (l p : List Dg) (a : Nat), LsAt digK w.heap.size w l vl ∧ va = .int .i64 (a : Int) ∧ OwnK digK 29 wr w.heap.size vp p ∧ a < l.length ∧ p.length + l.length ≤ L.length ∧ pathD L A = pathD l a ++ p.reverse ∧ Below w.heap.size w wr
def PathPost (L : List Dg) (A : Nat) (w : World) (e : Ending) (w' : World) : Prop :=
  ∃ vp, e = .returned (.tuple #[vp, .int .i64 0]) ∧ OwnK digK 29 w' w.heap.size vp (pathD L A) ∧ Below w.heap.size w w'
set_option maxRecDepth 100000 in
set_option maxHeartbeats 4000000 in
theorem path_any (L : List Dg) (v : Value) (A : Nat) (w : World) (hl : LsAt digK w.heap.size w L v) (h64 : L.length ≤ 64) (hA : A < L.length) (hL : Laid w) :
    Calls Tryd.prog 36 #[v, .int .i64 (A : Int)] w (PathPost L A w) := by
  have HL := Lib.hid hL; have HV := Lib.hid hl; have H64 := Lib.hid h64; have HAl := Lib.hid hA
  obtain ⟨oa, cap, rfl, hlm⟩ := hl.shape
  have bA : (A : Int) < (L.length : Int) := by omega
  have bA0 : decide ((A : Int) < 0) = false := by simp
  have bA1 : decide (L.length ≤ A) = false := by simp; omega
  have bL : (L.length : Int) ≤ 64 := by omega
  clear hl hL h64 hA hlm
  go_enter Tryd.func36, Tryd.ntmps36
  go_wp2_with fail
  go_loopw [0, 1, 4] (fun vl va vp wr => PaRel L A w vl va vp wr) (fun vl _ _ _ => lenOf vl)
  case atStart => exact ⟨⟨L, [], A, HV.out, rfl, OwnK.nil _ _ _, HAl.out, by simp, by simp, Below.refl _ _⟩⟩
  case round =>
    obtain ⟨l, p, a, hv, rfl, hp, ha, hpl, hpd, hb⟩ := hrel.h
    have HP := Lib.hid hp; have HB := Lib.hid hb; have Hpd := Lib.hid hpd
    have hle : l ≠ [] := by intro e; rw [e] at ha; simp at ha
    obtain ⟨b, off, cap2, rfl, hlc, hcm⟩ := hv.some_at hle
    obtain ⟨op, cp, rfl, _⟩ := hp.rd.shape
    clear hrel hp hb hpd HV
    by_cases h1 : l.length ≤ 1
    · have t1 : decide (1 < (l.length : Int)) = false := by simp; omega
      have t1' : decide (1 < l.length) = false := by simp; omega
      have hfin : Hid (pathD L A = p.reverse) := by show _ = _; rw [Hpd.out, pathD_one a h1]; rfl
      have hpl2 : p.length ≤ 64 := by have := H64.out; omega
      have Hrv := Lib.hid (reverse_any p (.slice op p.length cp) w.heap.size wr HP.out (by omega))
      clear hv hle hlc hcm ha hpl h1 hpl2
      go_wp2_with fail
      refine Hrv.out.mono ?_
      rintro e w2 ⟨rfl, ho2, hg2⟩
      have HO2 := Lib.hid ho2; have HB2 := Lib.hid (below_ownK HB.out HP.out hg2 (Nat.le_refl _))
      clear ho2 hg2
      go_wp2_with fail
      go_ret2
      exact ⟨_, rfl, by rw [hfin.out]; exact HO2.out, HB2.out⟩
    have h2 : 2 ≤ l.length := by omega
    have t1 : decide (1 < (l.length : Int)) = true := by simp; omega
    have t1' : decide (1 < l.length) = true := by simp; omega
    obtain ⟨a1, a2, a3⟩ := half_lt h2
    have h64l : l.length ≤ 64 := by have := H64.out; omega
    have HH := Lib.hid (half_any l.length wr h2 h64l)
    have Hlt := fun (h : a < halfN l.length) => pathD_lt h2 h
    have Hge := fun (h : ¬ a < halfN l.length) => pathD_ge h2 h
    obtain ⟨k, hk⟩ : ∃ k, halfN l.length = k := ⟨_, rfl⟩
    rw [hk] at HH a1 a2 a3 Hlt Hge
    have HLT := Lib.hid Hlt; have HGE := Lib.hid Hge
    clear Hlt Hge hk
    have b1 : (1 : Int) ≤ (k : Int) := by omega
    have b2 : (k : Int) < (l.length : Int) := by omega
    have b3 : (l.length : Int) ≤ (cap2 : Int) := by omega
    have b4 : (l.length : Int) ≤ 64 := by omega
    have b5 : (cap2 : Int) ≤ 9223372036854775807 := by unfold maxLen at hcm; omega
    have b6 : (a : Int) < (l.length : Int) := by omega
    have e2 : (cap2 = k) = False := by apply propext; constructor; (intro e; omega); (intro h; cases h)
    have e4 : k ≤ cap2 := by omega
    have e5 : k ≤ l.length := by omega
    have Hpl : Hid (p.length ≤ 64) := by show _ ≤ _; have := H64.out; omega
    have Hpl2 := Lib.hid hpl
    have hv1 := Lib.hid (hv.takeS k hle e5)
    have hv2 := Lib.hid (hv.dropS k _ _ hle e5 rfl rfl)
    have Htl : Hid ((l.take k).length = k) := by show _ = _; rw [List.length_take, Nat.min_eq_left e5]
    have Hdl : Hid ((l.drop k).length = l.length - k) := by show _ = _; rw [List.length_drop]
    clear hv hle hlc hcm hpl h1 h64l
    by_cases hak : a < k
    · have tk : decide ((a : Int) < (k : Int)) = true := by simp; omega
      have tk' : decide (a < k) = true := by simp; omega
      obtain ⟨x, hx⟩ : ∃ x, treeD (l.drop k) = x := ⟨_, rfl⟩
      have HT : Hid (∀ W, Below w.heap.size w W → Calls Tryd.prog 25 #[.slice (some ⟨b, off + k * 32, none⟩) (l.length - k) (cap2 - k)] W fun e w' => e = .returned (dv x.1) ∧ Below W.heap.size W w') := fun W hW => by
        rw [← hx]; exact tree_is (by rw [Hdl.out]; omega) (hv2.out.ext hW) (HL.out.ext hW)
      have hst := HLT.out hak
      rw [hx] at hst
      have HST : Hid (pathD L A = pathD (l.take k) a ++ (p ++ [x]).reverse) := by show _ = _; rw [Hpd.out, hst, List.reverse_append, List.append_assoc]; rfl
      clear hx hst
      go_upto_region 6 with (go_at_call 51; refine HH.out.mono ?_; rintro e w' ⟨rfl, rfl⟩)
      refine wp_region_held_drew (S := fun w' => True) (by kernel_rfl) trivial (fun hHeld => ?_)
      have KB := Lib.hid HB.out.drew
      have KP := Lib.hid (HP.out.ext (Below.refl wr.heap.size wr).drew)
      clear HB HP
      generalize wr.drew = w1 at *
      refine take_dst (some 24) (i := 0) (v := ?vP0) rfl rfl (by kernel_rfl) (by kernel_rfl) (by kernel_rfl) (fun _ _ _ h => h) (Or.inl ⟨by rfl, fun wS hSw => ?hyP0⟩) (by assumption) ?restP0
      case hyP0 => (obtain _ := hSw; go_simp; first | done | with_reducible rfl)
      try simp only [Act.put, List.setIfInBounds_toArray, List.set_cons_zero, List.set_cons_succ]
      refine take_dst (some 25) (i := 1) (v := ?vP1) rfl rfl (by kernel_rfl) (by kernel_rfl) (by kernel_rfl) (fun _ _ _ h => h) (Or.inl ⟨by rfl, fun wS hSw => ?hyP1⟩) (by assumption) ?restP1
      case hyP1 => (obtain _ := hSw; go_simp; first | done | with_reducible rfl)
      try simp only [Act.put, List.setIfInBounds_toArray, List.set_cons_zero, List.set_cons_succ]
      refine take_dst (some 26) (i := 2) (v := ?vP2) rfl rfl (by kernel_rfl) (by kernel_rfl) (by kernel_rfl) (fun _ _ _ h => h) (Or.inl ⟨by rfl, fun wS hSw => ?hyP2⟩) (by assumption) ?restP2
      case hyP2 => (obtain _ := hSw; go_simp; first | done | with_reducible rfl)
      try simp only [Act.put, List.setIfInBounds_toArray, List.set_cons_zero, List.set_cons_succ]
      refine take_dst (some 27) (i := 3) (v := ?vP3) rfl rfl (by kernel_rfl) (by kernel_rfl) (by kernel_rfl) (fun _ _ _ h => h) (Or.inl ⟨by rfl, fun wS hSw => ?hyP3⟩) (by assumption) ?restP3
      case hyP3 => (obtain _ := hSw; go_simp; first | done | with_reducible rfl)
      try simp only [Act.put, List.setIfInBounds_toArray, List.set_cons_zero, List.set_cons_succ]
      refine take_dst (some 31) (i := 7) (v := ?vP7) rfl rfl (by kernel_rfl) (by kernel_rfl) (by kernel_rfl) (fun _ _ _ h => h) (Or.inl ⟨by rfl, fun wS hSw => ?hyP7⟩) (by assumption) ?restP7
      case hyP7 => (obtain _ := hSw; go_simp; first | done | with_reducible rfl)
      try simp only [Act.put, List.setIfInBounds_toArray, List.set_cons_zero, List.set_cons_succ]
      refine take_dst (some 32) (i := 8) (v := ?vP8) rfl rfl (by kernel_rfl) (by kernel_rfl) (by kernel_rfl) (fun _ _ _ h => h) (Or.inl ⟨by rfl, fun wS hSw => ?hyP8⟩) (by assumption) ?restP8
      case hyP8 => (obtain _ := hSw; go_simp; first | done | with_reducible rfl)
      try simp only [Act.put, List.setIfInBounds_toArray, List.set_cons_zero, List.set_cons_succ]
      refine take_dst (some 33) (i := 9) (v := ?vP9) rfl rfl (by kernel_rfl) (by kernel_rfl) (by kernel_rfl) (fun _ _ _ h => h) (Or.inl ⟨by rfl, fun wS hSw => ?hyP9⟩) (by assumption) ?restP9
      case hyP9 => (obtain _ := hSw; go_simp; first | done | with_reducible rfl)
      try simp only [Act.put, List.setIfInBounds_toArray, List.set_cons_zero, List.set_cons_succ]
      refine wpAnyH_ready (rs := [4]) (by kernel_rfl) (by simp) ?_
      refine AllReadyH.cons rfl (fun K hK => ?_) AllReadyH.nil
      go_simp
      refine (HT.out w1 KB.out).mono ?_
      rintro e w2 ⟨rfl, hb2⟩
      have KB2 := Lib.hid (below_ext KB.out hb2)
      have KP2 := Lib.hid (KP.out.ext hb2)
      clear hb2 KB KP
      refine hK.out _ _ trivial (fun hHeld => ?_)
      clear hK K
      try simp only [Act.put, List.setIfInBounds_toArray, List.set_cons_zero, List.set_cons_succ]
      refine wpAnyH_ready (rs := [5]) (by kernel_rfl) (by simp) ?_
      refine AllReadyH.cons rfl (fun K hK => ?_) AllReadyH.nil
      refine step_bs rfl _ rfl x rfl ?_
      have KX : Hid (Src Tryd.prog 32 34 (.slice (some ⟨w2.heap.size, 0, none⟩) 1 1) 1 (digK.flat [x]) (w2.alloc (bD x))) := src_el (K := digK) (a := x) Tryd.underlying34 (cb_one w2 _ _ _ rfl)
      have KP3 := Lib.hid (KP2.out.alloc (bD x)); have KB3 := Lib.hid (below_ext KB2.out (b_al (bD x)))
      have KS := Lib.hid KB3.out.size
      clear KB2 KP2
      refine hK.out (Act.put _ (some 29) _) _ trivial (fun hHeld => ?_)
      clear hK K
      generalize hw3 : w2.alloc (bD x) = w3 at *
      clear hw3
      try simp only [Act.put, List.setIfInBounds_toArray, List.set_cons_zero, List.set_cons_succ]
      refine wpAnyH_ready (rs := [6]) (by kernel_rfl) (by simp) ?_
      refine AllReadyH.cons rfl (fun K hK => ?_) AllReadyH.nil
      refine step_append_x (e := 29) (z := .agg (bcells dgZ.1).toArray) (size := 32) (bytes := 32) Tryd.underlying34 dig_info2 rfl rfl _ _ rfl w.heap.size _ p.length (digK.flat p) rfl KP3.out _ 1 (digK.flat [x]) rfl KX.out (by have := Hpl.out; unfold maxLen; omega) (by have := Hpl.out; omega) KS.out ?_
      intro v4 w4 ho4 hg4 hn4
      have KP4 : Hid (OwnK digK 29 w4 w.heap.size v4 (p ++ [x])) := OwnK.append (K := digK) ho4 (by simp)
      have KB4 := Lib.hid (below_ownK KB3.out KP3.out hg4 (Nat.le_refl _))
      clear ho4 hg4 hn4 KX KP3 KB3 KS
      refine hK.out (Act.put _ (some 30) v4) w4 trivial (fun hHeld => ?_)
      clear hK K
      try simp only [Act.put, List.setIfInBounds_toArray, List.set_cons_zero, List.set_cons_succ]
      refine take_dst (some 4) (i := 10) (v := ?vP10) rfl rfl (by kernel_rfl) (by kernel_rfl) (by kernel_rfl) (fun _ _ _ h => h) (Or.inl ⟨by rfl, fun wS hSw => ?hyP10⟩) (by assumption) ?restP10
      case hyP10 => (obtain _ := hSw; go_simp; first | done | with_reducible rfl)
      try simp only [Act.put, List.setIfInBounds_toArray, List.set_cons_zero, List.set_cons_succ]
      refine take_dst (some 0) (i := 11) (v := ?vP11) rfl rfl (by kernel_rfl) (by kernel_rfl) (by kernel_rfl) (fun _ _ _ h => h) (Or.inl ⟨by rfl, fun wS hSw => ?hyP11⟩) (by assumption) ?restP11
      case hyP11 => (obtain _ := hSw; go_simp; first | done | with_reducible rfl)
      try simp only [Act.put, List.setIfInBounds_toArray, List.set_cons_zero]
      refine wpAnyH_done (by kernel_rfl) ?_ _
      go_wp2_with fail
      go_roundw
      case rel => exact ⟨⟨l.take k, p ++ [x], a, hv1.out, rfl, KP4.out, by rw [Htl.out]; exact hak, by rw [Htl.out, List.length_append, List.length_singleton]; have := Hpl2.out; omega, HST.out, KB4.out⟩⟩
      case measure => simp [lenOf]; omega
    · have tk : decide ((a : Int) < (k : Int)) = false := by simp; omega
      have tk' : decide (a < k) = false := by simp; omega
      have e3 : (a : Int) - (k : Int) = ((a - k : Nat) : Int) := by omega
      obtain ⟨x, hx⟩ : ∃ x, treeD (l.take k) = x := ⟨_, rfl⟩
      have HT : Hid (∀ W, Below w.heap.size w W → Calls Tryd.prog 25 #[.slice (some ⟨b, off, none⟩) k cap2] W fun e w' => e = .returned (dv x.1) ∧ Below W.heap.size W w') := fun W hW => by
        rw [← hx]; exact tree_is (by rw [Htl.out]; omega) (hv1.out.ext hW) (HL.out.ext hW)
      have hst := HGE.out hak
      rw [hx] at hst
      have HST : Hid (pathD L A = pathD (l.drop k) (a - k) ++ (p ++ [x]).reverse) := by show _ = _; rw [Hpd.out, hst, List.reverse_append, List.append_assoc]; rfl
      clear hx hst
      go_upto_region 7 with (go_at_call 51; refine HH.out.mono ?_; rintro e w' ⟨rfl, rfl⟩)
      refine wp_region_held_drew (S := fun w' => True) (by kernel_rfl) trivial (fun hHeld => ?_)
      have KB := Lib.hid HB.out.drew
      have KP := Lib.hid (HP.out.ext (Below.refl wr.heap.size wr).drew)
      clear HB HP
      generalize wr.drew = w1 at *
      refine take_dst (some 34) (i := 0) (v := ?vQ0) rfl rfl (by kernel_rfl) (by kernel_rfl) (by kernel_rfl) (fun _ _ _ h => h) (Or.inl ⟨by rfl, fun wS hSw => ?hyQ0⟩) (by assumption) ?restQ0
      case hyQ0 => (obtain _ := hSw; go_simp; first | done | with_reducible rfl)
      try simp only [Act.put, List.setIfInBounds_toArray, List.set_cons_zero, List.set_cons_succ]
      refine take_dst (some 35) (i := 1) (v := ?vQ1) rfl rfl (by kernel_rfl) (by kernel_rfl) (by kernel_rfl) (fun _ _ _ h => h) (Or.inl ⟨by rfl, fun wS hSw => ?hyQ1⟩) (by assumption) ?restQ1
      case hyQ1 => (obtain _ := hSw; go_simp; first | done | with_reducible rfl)
      try simp only [Act.put, List.setIfInBounds_toArray, List.set_cons_zero, List.set_cons_succ]
      refine take_dst (some 36) (i := 2) (v := ?vQ2) rfl rfl (by kernel_rfl) (by kernel_rfl) (by kernel_rfl) (fun _ _ _ h => h) (Or.inl ⟨by rfl, fun wS hSw => ?hyQ2⟩) (by assumption) ?restQ2
      case hyQ2 => (obtain _ := hSw; go_simp; first | done | with_reducible rfl)
      try simp only [Act.put, List.setIfInBounds_toArray, List.set_cons_zero, List.set_cons_succ]
      refine take_dst (some 37) (i := 3) (v := ?vQ3) rfl rfl (by kernel_rfl) (by kernel_rfl) (by kernel_rfl) (fun _ _ _ h => h) (Or.inl ⟨by rfl, fun wS hSw => ?hyQ3⟩) (by assumption) ?restQ3
      case hyQ3 => (obtain _ := hSw; go_simp; first | done | with_reducible rfl)
      try simp only [Act.put, List.setIfInBounds_toArray, List.set_cons_zero, List.set_cons_succ]
      refine take_dst (some 41) (i := 7) (v := ?vQ7) rfl rfl (by kernel_rfl) (by kernel_rfl) (by kernel_rfl) (fun _ _ _ h => h) (Or.inl ⟨by rfl, fun wS hSw => ?hyQ7⟩) (by assumption) ?restQ7
      case hyQ7 => (obtain _ := hSw; go_simp; first | done | with_reducible rfl)
      try simp only [Act.put, List.setIfInBounds_toArray, List.set_cons_zero, List.set_cons_succ]
      refine take_dst (some 42) (i := 8) (v := ?vQ8) rfl rfl (by kernel_rfl) (by kernel_rfl) (by kernel_rfl) (fun _ _ _ h => h) (Or.inl ⟨by rfl, fun wS hSw => ?hyQ8⟩) (by assumption) ?restQ8
      case hyQ8 => (obtain _ := hSw; go_simp; first | done | with_reducible rfl)
      try simp only [Act.put, List.setIfInBounds_toArray, List.set_cons_zero, List.set_cons_succ]
      refine take_dst (some 43) (i := 9) (v := ?vQ9) rfl rfl (by kernel_rfl) (by kernel_rfl) (by kernel_rfl) (fun _ _ _ h => h) (Or.inl ⟨by rfl, fun wS hSw => ?hyQ9⟩) (by assumption) ?restQ9
      case hyQ9 => (obtain _ := hSw; go_simp; first | done | with_reducible rfl)
      try simp only [Act.put, List.setIfInBounds_toArray, List.set_cons_zero, List.set_cons_succ]
      refine take_dst (some 44) (i := 10) (v := ?vQ10) rfl rfl (by kernel_rfl) (by kernel_rfl) (by kernel_rfl) (fun _ _ _ h => h) (Or.inl ⟨by rfl, fun wS hSw => ?hyQ10⟩) (by assumption) ?restQ10
      case hyQ10 => (obtain _ := hSw; go_simp; first | done | with_reducible rfl)
      try simp only [Act.put, List.setIfInBounds_toArray, List.set_cons_zero, List.set_cons_succ]
      refine take_dst (some 45) (i := 11) (v := ?vQ11) rfl rfl (by kernel_rfl) (by kernel_rfl) (by kernel_rfl) (fun _ _ _ h => h) (Or.inl ⟨by rfl, fun wS hSw => ?hyQ11⟩) (by assumption) ?restQ11
      case hyQ11 => (obtain _ := hSw; go_simp; first | done | with_reducible rfl)
      try simp only [Act.put, List.setIfInBounds_toArray, List.set_cons_zero, List.set_cons_succ]
      refine take_dst (some 46) (i := 12) (v := ?vQ12) rfl rfl (by kernel_rfl) (by kernel_rfl) (by kernel_rfl) (fun _ _ _ h => h) (Or.inl ⟨by rfl, fun wS hSw => ?hyQ12⟩) (by assumption) ?restQ12
      case hyQ12 => (obtain _ := hSw; go_simp; first | done | with_reducible rfl)
      try simp only [Act.put, List.setIfInBounds_toArray, List.set_cons_zero, List.set_cons_succ]
      refine wpAnyH_ready (rs := [4]) (by kernel_rfl) (by simp) ?_
      refine AllReadyH.cons rfl (fun K hK => ?_) AllReadyH.nil
      go_simp
      refine (HT.out w1 KB.out).mono ?_
      rintro e w2 ⟨rfl, hb2⟩
      have KB2 := Lib.hid (below_ext KB.out hb2)
      have KP2 := Lib.hid (KP.out.ext hb2)
      clear hb2 KB KP
      refine hK.out _ _ trivial (fun hHeld => ?_)
      clear hK K
      try simp only [Act.put, List.setIfInBounds_toArray, List.set_cons_zero, List.set_cons_succ]
      refine wpAnyH_ready (rs := [5]) (by kernel_rfl) (by simp) ?_
      refine AllReadyH.cons rfl (fun K hK => ?_) AllReadyH.nil
      refine step_bs rfl _ rfl x rfl ?_
      have KX : Hid (Src Tryd.prog 32 34 (.slice (some ⟨w2.heap.size, 0, none⟩) 1 1) 1 (digK.flat [x]) (w2.alloc (bD x))) := src_el (K := digK) (a := x) Tryd.underlying34 (cb_one w2 _ _ _ rfl)
      have KP3 := Lib.hid (KP2.out.alloc (bD x)); have KB3 := Lib.hid (below_ext KB2.out (b_al (bD x)))
      have KS := Lib.hid KB3.out.size
      clear KB2 KP2
      refine hK.out (Act.put _ (some 39) _) _ trivial (fun hHeld => ?_)
      clear hK K
      generalize hw3 : w2.alloc (bD x) = w3 at *
      clear hw3
      try simp only [Act.put, List.setIfInBounds_toArray, List.set_cons_zero, List.set_cons_succ]
      refine wpAnyH_ready (rs := [6]) (by kernel_rfl) (by simp) ?_
      refine AllReadyH.cons rfl (fun K hK => ?_) AllReadyH.nil
      refine step_append_x (e := 29) (z := .agg (bcells dgZ.1).toArray) (size := 32) (bytes := 32) Tryd.underlying34 dig_info2 rfl rfl _ _ rfl w.heap.size _ p.length (digK.flat p) rfl KP3.out _ 1 (digK.flat [x]) rfl KX.out (by have := Hpl.out; unfold maxLen; omega) (by have := Hpl.out; omega) KS.out ?_
      intro v4 w4 ho4 hg4 hn4
      have KP4 : Hid (OwnK digK 29 w4 w.heap.size v4 (p ++ [x])) := OwnK.append (K := digK) ho4 (by simp)
      have KB4 := Lib.hid (below_ownK KB3.out KP3.out hg4 (Nat.le_refl _))
      clear ho4 hg4 hn4 KX KP3 KB3 KS
      refine hK.out (Act.put _ (some 40) v4) w4 trivial (fun hHeld => ?_)
      clear hK K
      try simp only [Act.put, List.setIfInBounds_toArray, List.set_cons_zero, List.set_cons_succ]
      refine take_dst (some 4) (i := 13) (v := ?vQ13) rfl rfl (by kernel_rfl) (by kernel_rfl) (by kernel_rfl) (fun _ _ _ h => h) (Or.inl ⟨by rfl, fun wS hSw => ?hyQ13⟩) (by assumption) ?restQ13
      case hyQ13 => (obtain _ := hSw; go_simp; first | done | with_reducible rfl)
      try simp only [Act.put, List.setIfInBounds_toArray, List.set_cons_zero, List.set_cons_succ]
      refine take_dst (some 0) (i := 14) (v := ?vQ14) rfl rfl (by kernel_rfl) (by kernel_rfl) (by kernel_rfl) (fun _ _ _ h => h) (Or.inl ⟨by rfl, fun wS hSw => ?hyQ14⟩) (by assumption) ?restQ14
      case hyQ14 => (obtain _ := hSw; go_simp; first | done | with_reducible rfl)
      try simp only [Act.put, List.setIfInBounds_toArray, List.set_cons_zero]
      refine take_dst (some 1) (i := 15) (v := ?vQ15) rfl rfl (by kernel_rfl) (by kernel_rfl) (by kernel_rfl) (fun _ _ _ h => h) (Or.inl ⟨by rfl, fun wS hSw => ?hyQ15⟩) (by assumption) ?restQ15
      case hyQ15 => (obtain _ := hSw; go_simp; first | done | with_reducible rfl)
      try simp only [Act.put, List.setIfInBounds_toArray, List.set_cons_zero, List.set_cons_succ]
      refine wpAnyH_done (by kernel_rfl) ?_ _
      go_wp2_with fail
      go_roundw
      case rel => exact ⟨⟨l.drop k, p ++ [x], a - k, hv2.out, by first | rfl | (rw [← e3, IntWalk.i64_in _ (by omega)]), KP4.out, by rw [Hdl.out]; omega, by rw [Hdl.out, List.length_append, List.length_singleton]; have := Hpl2.out; omega, HST.out, KB4.out⟩⟩
      case measure => simp [lenOf]; omega
set_option maxRecDepth 100000 in
set_option maxHeartbeats 1000000 in
theorem path_bad (L : List Dg) (v : Value) (A : Int) (w : World) (hl : LsAt digK w.heap.size w L v) (hA : A < 0 ∨ (L.length : Int) ≤ A) :
    Calls Tryd.prog 36 #[v, .int .i64 A] w fun e w' => e = .returned (.tuple #[.slice none 0 0, .int .i64 1]) ∧ w = w' := by
  obtain ⟨oa, cap, rfl, hlm⟩ := hl.shape
  clear hl
  by_cases h : A < 0
  · go_enter Tryd.func36, Tryd.ntmps36
    go_wp2
    go_ret2
    exact ⟨rfl, rfl⟩
  · have h2 : (L.length : Int) ≤ A := by omega
    have t1 : decide (A < 0) = false := by simpa using h
    have t2 : decide ((L.length : Int) ≤ A) = true := by simpa using h2
    clear hA
    go_enter Tryd.func36, Tryd.ntmps36
    go_wp2
    go_ret2
    exact ⟨rfl, rfl⟩
end Go.Proofs.YtbonebmboolemaaDoor
/- slices.Grow from nil, slices.Concat of two lists of digests. -/
namespace Go.Proofs.YtbonebmboolemaaDoor
open Go.RowKit
set_option maxRecDepth 100000 in
set_option maxHeartbeats 1000000 in
theorem dgrow_nil (n : Nat) (h1 : n ≤ 1000) (w : World) :
    Calls Tryd.prog 59 #[.slice none 0 0, .int .i64 (n : Int)] w fun e w' => ∃ v, e = .returned v ∧ OwnK digK 29 w' w.heap.size v [] ∧ Below w.heap.size w w' := by
  by_cases h0 : n = 0
  · subst h0
    clear h1
    go_enter Tryd.func59, Tryd.ntmps59
    go_wp2_with fail
    go_ret
    exact ⟨_, rfl, OwnK.nil _ _ _, Below.refl _ _⟩
  have h0 : 0 < n := by omega
  obtain ⟨i, hi, hz, hs, hby⟩ := info_parts (P := Tryd.prog) (e := 29) (z := .agg (bcells dgZ.1).toArray) (size := 32) (bytes := 32) dig_info2
  have hrun := Lib.hid fun ty (w : World) => Lib.run_append_nil_zeros (P := Tryd.prog) w 34 3 ty 29 i (.agg (bcells dgZ.1).toArray) .i64 .i64 Tryd.underlying34 (by kernel_rfl) hi hz n h0 (by rw [hs]; decide) (by omega) (by rw [hby]; omega)
  have g1 := grownCap_ge w n 0 29
  have g2 := grownCap_le_maxLen w n 0 29 (by unfold maxLen; omega)
  obtain ⟨G, hG⟩ : ∃ G, grownCap w n 0 29 = G := ⟨_, rfl⟩
  rw [hG] at g1 g2
  obtain ⟨C1, hC1⟩ : ∃ C, Builtin.zeroCells (Value.agg (bcells dgZ.1).toArray).cells n ++ Builtin.zeroCells (Value.agg (bcells dgZ.1).toArray).cells (G - n) = C := ⟨_, rfl⟩
  have hCs : C1.size = G * 32 := by
    rw [← hC1, Array.size_append, size_zeroCells, size_zeroCells, show (Value.agg (bcells dgZ.1).toArray).cells.size = 32 from rfl, ← Nat.add_mul]
    congr 1; omega
  have b0 : (0 : Int) < (n : Int) := by omega
  have b1 : (n : Int) ≤ 1000 := by omega
  have HC := Lib.hid hC1; have HG := Lib.hid hG; have G2 := Lib.hid g2; have HCs := Lib.hid hCs
  unfold maxLen at g2
  have g3 : (G : Int) ≤ 9223372036854775807 := by omega
  clear hi hz hs hby hG g2 hC1 hCs
  go_enter Tryd.func59, Tryd.ntmps59
  go_wp2_with (at_builtin; refine Lib.wpList_append_run _ rfl _ _ _ _ rfl _ _ rfl rfl _ _ (hrun.out _ _) ?_; rw [HG.out, HC.out])
  go_ret
  refine ⟨_, rfl, ?_, ((Below.refl _ w).alloc (Nat.le_refl _) _).drew⟩
  exact World.ownsRow_made (e := 29) (base := w.heap.size) (size := 32) w C1 G (Nat.le_refl _) G2.out HCs.out
set_option maxRecDepth 100000 in
set_option maxHeartbeats 2000000 in
theorem dconcat2 (a : Nat) (v1 v2 : Value) (l1 l2 : List Dg) (w : World) (c1 : w.cell? ⟨a, 0, none⟩ = some v1) (c2 : w.cell? ⟨a, 1, none⟩ = some v2) (h1 : LsAt digK w.heap.size w l1 v1) (h2 : LsAt digK w.heap.size w l2 v2) (hl : l1.length + l2.length ≤ 1000) :
    Calls Tryd.prog 38 #[.slice (some ⟨a, 0, none⟩) 2 2] w fun e w' => ∃ v, e = .returned v ∧ OwnK digK 29 w' w.heap.size v (l1 ++ l2) ∧ Below w.heap.size w w' := by
  have H1 := Lib.hid h1; have H2 := Lib.hid h2; have C1 := Lib.hid c1; have C2 := Lib.hid c2
  obtain ⟨o1, k1, rfl, _⟩ := h1.shape
  obtain ⟨o2, k2, rfl, _⟩ := h2.shape
  have e1 : wrap64 ((l1.length : Int) + (l2.length : Int)) = ((l1.length + l2.length : Nat) : Int) := by unfold wrap64; omega
  have e2 : IntKind.i64.wrap ((l1.length : Int) + (l2.length : Int)) = ((l1.length + l2.length : Nat) : Int) := (IntWalk.i64_left _).trans e1
  obtain ⟨n, hn⟩ : ∃ n, l1.length + l2.length = n := ⟨_, rfl⟩
  rw [hn] at e1 e2
  have hsum : (l1.length : Int) + (l2.length : Int) = (n : Int) := by omega
  have t1 : decide ((l1.length : Int) < 0) = false := by simp
  have t2 : decide ((n : Int) < 0) = false := by simp
  have b1 : (l1.length : Int) ≤ 10000000 := by omega
  have b2 : (l2.length : Int) ≤ 10000000 := by omega
  have Hn := Lib.hid hn; have Hs := Lib.hid hsum; have Hl1 : Hid (l1.length + l2.length ≤ 1000) := hl
  clear h1 h2 hn hsum hl
  go_enter Tryd.func38, Tryd.ntmps38
  go_wp2
  refine wp_loop_rounds 3 ?_
  rw [rounds_succ]; go_wp2
  rw [rounds_succ]; go_wp2
  rw [rounds_succ]; go_wp2_with fail
  refine (dgrow_nil n (by have := Hn.out; have := Hl1.out; omega) _).mono ?_
  rintro e w1 ⟨v, rfl, ho1, hb1⟩
  have HO1 := Lib.hid ho1; have HB1 := Lib.hid hb1
  have d1 := cell_ext hb1 C1.out
  have d2 := cell_ext hb1 C2.out
  have S1 := Lib.hid (LsAt.src (P := Tryd.prog) (tx := 34) Tryd.underlying34 (H1.out.ext hb1))
  clear ho1 hb1 c1 c2
  go_wp2_with fail
  refine wp_loop_rounds 3 ?_
  rw [rounds_succ]
  go_wp2_with (at_builtin; refine wpList_append_x (e := 29) (z := .agg (bcells dgZ.1).toArray) (size := 32) (bytes := 32) Tryd.underlying34 dig_info2 rfl rfl _ _ rfl w.heap.size v 0 (digK.flat []) rfl HO1.out _ l1.length (digK.flat l1) rfl S1.out (by have := Hl1.out; unfold maxLen; omega) (by have := Hl1.out; omega) HB1.out.size ?_; intro v2 w2 ho2 hg2 hn2)
  have ho2' : OwnK digK 29 w2 w.heap.size v2 ([] ++ l1) := OwnK.append (K := digK) ho2 (by simp)
  rw [List.nil_append] at ho2'
  have hlt := fun g hg => (HO1.out.lt g hg).1
  have hb2 : Below w.heap.size w w2 := HB1.out.grown hg2 HB1.out.size hlt
  have HO2 := Lib.hid ho2'; have HB2 := Lib.hid hb2
  have f1 := cell_ext hb2 C1.out
  have f2 := cell_ext hb2 C2.out
  have S2 := Lib.hid (LsAt.src (P := Tryd.prog) (tx := 34) Tryd.underlying34 (H2.out.ext hb2))
  clear ho2 ho2' hb2 hg2 hn2 d1 d2 hlt S1
  rw [rounds_succ]
  go_wp2_with (at_builtin; refine wpList_append_x (e := 29) (z := .agg (bcells dgZ.1).toArray) (size := 32) (bytes := 32) Tryd.underlying34 dig_info2 rfl rfl _ _ rfl w.heap.size v2 l1.length (digK.flat l1) rfl HO2.out _ l2.length (digK.flat l2) rfl S2.out (by have := Hl1.out; unfold maxLen; omega) (by have := Hl1.out; omega) HB2.out.size ?_; intro v3 w3 ho3 hg3 hn3)
  have hlt := fun g hg => (HO2.out.lt g hg).1
  have hb3 : Below w.heap.size w w3 := HB2.out.grown hg3 HB2.out.size hlt
  have HO3 : Hid (OwnK digK 29 w3 w.heap.size v3 (l1 ++ l2)) := OwnK.append (K := digK) ho3 rfl
  have HB3 := Lib.hid hb3
  clear ho3 hb3 hg3 hn3 hlt f1 f2 S2
  rw [rounds_succ]
  go_wp2
  go_ret
  exact ⟨v3, rfl, HO3.out, HB3.out⟩
end Go.Proofs.YtbonebmboolemaaDoor
