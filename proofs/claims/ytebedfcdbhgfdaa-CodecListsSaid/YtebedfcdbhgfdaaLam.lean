/- CodecLists: the walk. -/
import Derived.Test.YtebedfcdbhgfdaaLal
import Derived.Deep.QuietTactic
import Derived.BigQuiet
namespace Go.Proofs.Ytebedfcdbhgfdaa
open Go.RowKit

set_option maxRecDepth 100000 in
set_option maxHeartbeats 4000000 in
theorem lists_walk (l : List V) (v : Value) (w : World) (hl : SlV w.heap.size w l v) : Calls Try.prog 8 #[v] w (BoolPost true w) := by
  have HL := Lib.hid hl
  have hlm : l.length ≤ 9223372036854775807 := by have := hl.ok.2; unfold maxLen at this; omega
  obtain ⟨oa, cap, rfl⟩ := hl.form
  clear hl
  have short : ((l.all fewB && decide (l.length ≤ 20)) = false) → Calls Try.prog 8 #[.slice oa l.length cap] w (BoolPost true w) := by
    intro hs
    cases hfx : l.all fewB with
    | false =>
      clear hs
      have Hfx := Lib.hid hfx; clear hfx
      go_enter Try.func8, Try.ntmps8
      go_wp2_with fail
      refine (sane_any _).mono ?_
      rintro e w1 ⟨rfl, hb1⟩
      go_wp2_with fail
      refine (fewl_any l _ _ _ (HL.out.ext hb1)).mono ?_
      rw [Hfx.out]
      rintro e w2 ⟨rfl, hb2⟩
      go_wp2_with fail
      go_ret
      exact ⟨rfl, below_ext hb1 hb2⟩
    | true =>
      have h20 : 20 < l.length := by rw [hfx] at hs; simp at hs; omega
      have Hfx := Lib.hid hfx; clear hfx hs
      go_enter Try.func8, Try.ntmps8
      go_wp2_with fail
      refine (sane_any _).mono ?_
      rintro e w1 ⟨rfl, hb1⟩
      go_wp2_with fail
      refine (fewl_any l _ _ _ (HL.out.ext hb1)).mono ?_
      rw [Hfx.out]
      rintro e w2 ⟨rfl, hb2⟩
      go_wp2_with fail
      go_ret
      exact ⟨rfl, below_ext hb1 hb2⟩
  cases hfx : (l.all fewB && decide (l.length ≤ 20)) with
  | false => exact short hfx
  | true =>
  clear short
  have hf := Bool.and_eq_true_iff.1 hfx
  have Hfx := Lib.hid hf.1
  have h20 : l.length ≤ 20 := of_decide_eq_true hf.2
  clear hf hfx
  go_enter Try.func8, Try.ntmps8
  go_wp2_with fail
  refine (sane_any _).mono ?_
  rintro e w1 ⟨rfl, hb1⟩
  go_wp2_with fail
  refine (fewl_any l _ _ _ (HL.out.ext hb1)).mono ?_
  rw [Hfx.out]
  rintro e w2 ⟨rfl, hb2⟩
  have hB2 := below_ext hb1 hb2
  clear hb1 hb2
  go_wp2_with fail
  go_loopw [2, 3, 4, 5, 31] (fun r want zeros sizes i wr => r = .bool false ∧ LstRel w l want zeros sizes i wr) (fun _ _ _ _ i _ => l.length - (intOf i).toNat)
  case atStart => exact ⟨rfl, 0, Nat.zero_le _, rfl, ⟨by simp, OwnB.nil _ _ _, OwnV.nil _ _ _ _, .inl rfl, rfl, hB2⟩⟩
  case round =>
    clear hB2
    obtain ⟨rfl, k, hkl, rfl, hk⟩ := hrel
    obtain ⟨hck, hw, hz, hne, rfl, hb⟩ := hk
    have hbd := encs_bd Hfx.out h20 k
    have HW := Lib.hid hw; have HZ := Lib.hid hz; have HN := Lib.hid hne; have HCK := Lib.hid hck
    clear hw hz hne hck
    by_cases hlt : k < l.length
    case pos =>
      obtain ⟨x, hx'⟩ : ∃ x, l[k]? = some x := ⟨l[k], by simp [hlt]⟩
      have Hx := Lib.hid hx'
      have hmem := Lib.hid (List.mem_of_getElem? hx')
      have hfx : fewB x = true := (List.all_eq_true.1 Hfx.out) x (List.mem_of_getElem? hx')
      have hsx := few_sz hfx
      have hlx : (enc x).length ≤ 60000 := by have := enc_sz x; omega
      clear hx' hfx
      obtain ⟨c, o, xo, xc, rfl, hcb, c0, c1, c2, c3, hrd⟩ := HL.out.elem hb.block hb.size Hx.out
      have Hrd := Lib.hid hrd; clear hrd
      by_cases hcx : ck x = 0
      case pos =>
        have Hcx := Lib.hid hcx; clear hcx
        go_wp2_with fail
        refine (encode_any x hsx _ _ (Hrd.out.alloc _)).mono ?_
        rintro e w3 ⟨v3, rfl, hv3, hb3⟩
        rw [Hcx.out] at hv3 ⊢
        rw [if_pos rfl] at hv3
        obtain ⟨oa3, cap3, rfl⟩ := hv3.form
        have hb3' := below_after hb3
        obtain ⟨d0, d1, d2, d3⟩ := box_ext hb3
        have Hrd3 := Lib.hid (Hrd.out.ext hb3')
        have Hv3 := Lib.hid hv3
        have hB3 := below_ext hb hb3'
        have HW3 := Lib.hid (HW.out.below hb3')
        have HZ3 := Lib.hid (HZ.out.below (fun _ h => h.elim) hb3')
        clear hb3 hb3' hv3 HW HZ Hrd c0 c1 c2 c3 hb
        go_wp2_with fail
        refine (size_any x hsx _ _ Hrd3.out).mono ?_
        rintro e w4 ⟨rfl, hb4⟩
        rw [Hcx.out, if_pos rfl]
        have Hv4 := Lib.hid (Hv3.out.ext hb4)
        have hB4 := below_ext hB3 hb4
        have HW4 := Lib.hid (HW3.out.below hb4)
        have HZ4 := Lib.hid (HZ3.out.below (fun _ h => h.elim) hb4)
        clear hb4 HW3 HZ3 Hrd3 Hv3 d0 d1 d2 d3 hB3
        go_wp2_with (first
          | (at_builtin; refine wpList_append_B (e := 5) Try.underlying27 (by kernel_rfl) rfl _ _ rfl w.heap.size u3 (encs (l.take k)) rfl ?own _ (enc x) rfl ?c1 ?c2 ?c3 ?_))
        case own => exact HW4.out
        case c1 => exact SrcB.ofRd Try.underlying27 Hv4.out
        case c2 => omega
        case c3 => exact hB4.size
        intro v5 w5 ho5 hg5 hn5
        have hzlt : ∀ g, u4.ownBlock = some g → g < w4.heap.size := fun g hg => (HZ4.out.own_lt g hg).2
        have HN5 := Lib.hid (apart_next HN.out hzlt hn5)
        have HZ5 := Lib.hid (HZ4.out.kept hg5 HN.out (fun _ h => h.elim) (fun _ h => h.elim))
        have hB5 : Below w.heap.size w w5 := hB4.grown hg5 hB4.size (fun g hg => (HW4.out.lt g hg).1)
        have HO5 := Lib.hid ho5
        clear hg5 hn5 ho5 HZ4 HW4 HN Hv4 hzlt hB4
        go_wp2_with fail
        refine (rInt_any 0 _).mono ?_
        rintro e w6 ⟨rfl, hb6⟩
        have hB6 := below_ext hB5 hb6
        have HW6 := Lib.hid (HO5.out.below hb6)
        have HZ6 := Lib.hid ((HZ5.out.below (fun _ h => h.elim) hb6).below (fun _ h => h.elim) ((Below.refl _ w6).alloc (Nat.le_refl _) (.cells #[.int .i64 1, .int .i64 0, .string ⟨#[]⟩, .slice none 0 0] 24)))
        clear hB5 HO5 HZ5 hb6
        go_wp2_with (first
          | (at_builtin; refine wpList_append_V (e := 24) (z := .agg #[.int .i64 0, .int .i64 0, .string ⟨#[]⟩, .slice none 0 0]) (bytes := 56) Try.underlying22 (by kernel_rfl) rfl (by decide) rfl _ _ rfl (fun _ => False) w.heap.size u4 (List.replicate k (vInt 0)) rfl ?own2 _ (vInt 0) (.slice none 0 0) rfl ?d1 rfl ?d2 ?d3 ?d4 ?d5 ?_))
        case own2 => exact HZ6.out
        case d1 => exact ⟨by simp [vInt, V.kind, I64], by simp [vInt, V.n, I64], Nat.zero_le _, .inl ⟨rfl, none, 0, rfl⟩⟩
        case d2 => exact ⟨by simp [vInt, V.kind], by simp [vInt, V.n], by simp [vInt, V.s], by simp⟩
        case d3 => simp; omega
        case d4 => have := hB6.size; simp; omega
        case d5 => exact fun _ h => h.elim
        intro v7 w7 ho7 hg7 hn7
        have hB6a : Below w.heap.size w (w6.alloc (.cells #[.int .i64 1, .int .i64 0, .string ⟨#[]⟩, .slice none 0 0] 24)) := hB6.alloc hB6.size _
        have HW6a := Lib.hid (HW6.out.alloc (.cells #[.int .i64 1, .int .i64 0, .string ⟨#[]⟩, .slice none 0 0] 24))
        have HW7 := Lib.hid (HW6a.out.kept hg7 (by
          rcases HN5.out with h | h
          · rw [h]; cases v5.ownBlock <;> simp
          · exact .inr (fun e => h e.symm)))
        have HN7 := Lib.hid (apart_next' HN5.out (fun g hg => (HW6a.out.lt g hg).2) hn7)
        have hB7 : Below w.heap.size w w7 := hB6a.grown hg7 hB6a.size (fun g hg => (HZ6.out.own_lt g hg).1)
        have HO7 := Lib.hid ho7
        clear hg7 hn7 ho7 HZ6 HW6 HW6a HN5 hB6 hB6a
        go_wp2_with fail
        refine ⟨⟨rfl, k + 1, by omega, by go_num, ?_⟩, by simp [intOf]; omega⟩
        have et := take_snoc' Hx.out
        have ee := encs_take Hx.out
        refine ⟨?_, ?_, ?_, HN7.out, ?_, hB7⟩
        · intro y hy
          rw [et] at hy
          rcases List.mem_append.1 hy with h | h
          · exact HCK.out y h
          · rw [List.mem_singleton.1 h]; exact Hcx.out
        · rw [ee]; exact HW7.out
        · rw [List.replicate_succ']; exact HO7.out
        · rw [ee]; simp
      case neg =>
        have hne : (ck x != 0) = true := by rw [bne_iff_ne]; exact hcx
        have heq : (ck x == 0) = false := by rw [beq_eq_false_iff_ne]; exact hcx
        have hbad : (ck (vLst l) != 0) = true := by rw [bne_iff_ne]; exact ck_vLst_bad hmem.out hcx
        have Hcx := Lib.hid hcx; clear hcx
        go_wp2_with fail
        refine (encode_any x hsx _ _ (Hrd.out.alloc _)).mono ?_
        rintro e w3 ⟨v3, rfl, hv3, hb3⟩
        rw [if_neg Hcx.out] at hv3
        obtain ⟨oa3, cap3, rfl⟩ := hv3.form
        have hb3' := below_after hb3
        obtain ⟨d0, d1, d2, d3⟩ := box_ext hb3
        have Hrd3 := Lib.hid (Hrd.out.ext hb3')
        have hB3 := below_ext hb hb3'
        clear hb3 hb3' hv3 HW HZ Hrd c0 c1 c2 c3 hb
        go_wp2_with fail
        refine (size_any x hsx _ _ Hrd3.out).mono ?_
        rintro e w4 ⟨rfl, hb4⟩
        rw [if_neg Hcx.out]
        have hB4 := below_ext hB3 hb4
        clear hb4 Hrd3 d0 d1 d2 d3 hB3
        go_wp2_with fail
        refine (rList_any _ _ _ _).mono ?_
        rintro e w5 ⟨rfl, hb5⟩
        have hB5 := below_ext hB4 hb5
        clear hB4 hb5
        go_wp2_with fail
        refine (encode_big (vLst l) (vLst_sz Hfx.out h20) _ _ (rd_vLst (HL.out.ext hB5))).mono ?_
        rintro e w6 ⟨v6, rfl, hv6, hb6⟩
        have hB6 := below_ext hB5 hb6
        clear hB5 hb6
        generalize (if ck (vLst l) = 0 then enc (vLst l) else []) = ez at hv6
        obtain ⟨oa6, cap6, rfl⟩ := hv6.form
        clear hv6
        go_wp2_with fail
        go_ret
        exact ⟨rfl, hB6⟩
    case neg =>
      have hkk : Hid (l.take k = l) := List.take_of_length_le (by omega)
      have hckl := Lib.hid (fun y (hy : y ∈ l) => HCK.out y (by rw [hkk.out]; exact hy))
      have hnl : l.length = k := by omega
      have Hnl := Lib.hid hnl; clear hnl
      rcases ck_vLst hckl.out with h0 | h2
      · have H0 := Lib.hid h0; clear h0
        go_wp2_with fail
        refine (rList_any _ _ _ _).mono ?_
        rintro e w3 ⟨rfl, hb3⟩
        have hB3 := below_ext hb hb3
        have HW3 := Lib.hid (HW.out.below hb3)
        have HZ3 := Lib.hid (HZ.out.below (fun _ h => h.elim) hb3)
        clear hb hb3 HW HZ
        go_wp2_with fail
        refine (encode_big (vLst l) (vLst_sz Hfx.out h20) _ _ (rd_vLst (HL.out.ext hB3))).mono ?_
        rintro e w4 ⟨v4, rfl, hv4, hb4⟩
        rw [H0.out] at hv4 ⊢
        rw [if_pos rfl] at hv4
        have hB4 := below_ext hB3 hb4
        have HW4 := Lib.hid (HW3.out.below hb4)
        have HZ4 := Lib.hid (HZ3.out.below (fun _ h => h.elim) hb4)
        obtain ⟨oa4, cap4, rfl⟩ := hv4.form
        have Hv4 := Lib.hid hv4
        clear hv4 hb4 hB3 HW3 HZ3
        obtain ⟨oz, cz, hz⟩ := HZ4.out.shape
        rw [List.length_replicate] at hz
        subst hz
        obtain ⟨ow, cw, hw⟩ := HW4.out.rd.form
        rw [hkk.out] at hw
        have HW5 := Lib.hid HW4.out.rd
        rw [hw, hkk.out] at HW5
        subst hw
        rw [hkk.out]
        go_wp2_with fail
        refine (rList_any _ _ _ _).mono ?_
        rintro e w5 ⟨rfl, hb5⟩
        have hB5 := below_ext hB4 hb5
        have HZ5 := Lib.hid (rd_vLst (HZ4.out.below (fun _ h => h.elim) hb5).slv)
        have Hv5 := Lib.hid (Hv4.out.ext hb5)
        have HW6 := Lib.hid (HW5.out.ext hb5)
        clear hb5 hB4 HZ4 HW4 Hv4 HW5
        go_wp2_with fail
        refine (size_any (vLst (List.replicate k (vInt 0))) (zeros_sz k (by omega)) _ _ HZ5.out).mono ?_
        rintro e w6 ⟨rfl, hb6⟩
        rw [zeros_ck, if_pos rfl]
        have hB6 := below_ext hB5 hb6
        have Hv6 := Lib.hid (Hv5.out.ext hb6)
        have HW7 := Lib.hid (HW6.out.ext hb6)
        clear hb6 hB5 HZ5 Hv5 HW6
        have hlC := vLst_len l
        have hlZ := zeros_len k
        have hdr := vLst_drop l
        have hbdl := encs_bd Hfx.out h20 l.length
        rw [List.take_length] at hbdl
        obtain ⟨hM1, hM2⟩ := num_bd l.length
        rw [Hnl.out] at hlC hdr hM1 hM2
        generalize (num k).length = M at *
        generalize (enc (vLst (List.replicate k (vInt 0)))).length = Z at *
        generalize hce : enc (vLst l) = ce at *
        generalize hel : encs l = el at *
        clear hce hel
        have HlC := Lib.hid hlC; have HlZ := Lib.hid hlZ; have Hdr := Lib.hid hdr
        have q1 : ce.length ≤ 1 + M + el.length := by omega
        have q2 : 1 + M + el.length ≤ ce.length := by omega
        have q3 : Z ≤ 1 + M + 2 * k := by omega
        have q4 : 1 + M + 2 * k ≤ Z := by omega
        have q5 : l.length ≤ k := by have := Hnl.out; omega
        clear hlC hlZ hdr
        go_wp2_with fail
        obtain ⟨A, hA⟩ : ∃ A, 1 + M = A := ⟨_, rfl⟩
        rw [show ((ce.length : Nat) : Int) - ((el.length : Nat) : Int) = ((A : Nat) : Int) from by have := HlC.out; omega]
        have hA1 : (2 : Int) ≤ (A : Int) := by omega
        have hA2 : (A : Int) ≤ 11 := by omega
        have hcl : ce ≠ [] := by intro h; rw [h] at q2; simp at q2
        have hbts := Hv6.out.bts
        obtain ⟨_, b, off, cap', he, hc1, hc2, hc3, hc4⟩ : ce ≠ [] ∧ ∃ b off cap', (Value.slice oa4 ce.length cap4) = .slice (some ⟨b, off, none⟩) ce.length cap' ∧ ce.length ≤ cap' ∧ cap' ≤ maxLen ∧ b < w6.heap.size ∧ True := by
          rcases hbts with ⟨h, _⟩ | ⟨h, b, off, cap', he, h1, h2, h3, _⟩
          · exact absurd h hcl
          · exact ⟨h, b, off, cap', he, h1, h2, h3, trivial⟩
        simp only [Value.slice.injEq, true_and] at he
        obtain ⟨rfl, rfl⟩ := he
        have hdp : BtsAt w6.heap.size w6 el (.slice (some ⟨b, off + A, none⟩) el.length (cap4 - A)) := bts_drop hbts hcl (by have := Hdr.out; rw [hA] at this; exact this) rfl (by omega)
        have Hdp := Lib.hid hdp
        have hel0 : A = cap4 → el.length = 0 ∧ ce.length - A = 0 := by intro h; omega
        have hD0 := Lib.hid (show ce.length - A = el.length by omega)
        have hs1 : IntKind.i64.wrap (2 * ((l.length : Nat) : Int)) = 2 * ((l.length : Nat) : Int) := IntWalk.i64_in _ (by omega)
        have hs2 : IntKind.i64.wrap ((Z : Int) - 2 * ((l.length : Nat) : Int)) = (A : Int) := by rw [show (Z : Int) - 2 * ((l.length : Nat) : Int) = (A : Int) from by have := Hnl.out; omega]; exact IntWalk.i64_in _ (by omega)
        have hs3 : IntKind.i64.wrap ((A : Int) + ((el.length : Nat) : Int)) = ((ce.length : Nat) : Int) := by rw [show (A : Int) + ((el.length : Nat) : Int) = ((ce.length : Nat) : Int) from by have := HlC.out; omega]; exact IntWalk.i64_in _ (by omega)
        have hac : (A : Int) ≤ ((ce.length : Nat) : Int) := by omega
        have hac2 : (A : Int) ≤ (cap4 : Int) := by omega
        have hac3 : ((ce.length : Nat) : Int) ≤ (cap4 : Int) := by omega
        have HA := Lib.hid hA
        clear hdp hbts hA hM1 hM2 q1 q2 q3 q4 q5 HlC HlZ hc2 hbdl
        by_cases hcp : A = cap4
        · obtain ⟨hee0, hca0⟩ := hel0 hcp
          have hac4 : ¬ ((A : Int) < (cap4 : Int)) := by omega
          subst hcp
          have hnil : BtsAt w6.heap.size w6 el (.slice (some ⟨b, off, none⟩) 0 0) := by
            exact .inl ⟨List.eq_nil_of_length_eq_zero hee0, _, 0, rfl, Nat.zero_le _⟩
          clear hel0 hee0
          have hS := And.intro (conv_bts (hnil.keep (w' := w6.drew) (Nat.le_refl _) (fun _ _ => rfl))) (conv_B (HW7.out.ext ((Below.refl _ w6).drew)))
          clear hnil
          go_region_held3 (fun w' => (convert 27 9 (.slice (some ⟨b, off, none⟩) 0 0)).run Try.prog w' = .ok (.string ⟨el.toArray⟩) w' ∧ (convert 27 9 (.slice ow el.length cw)).run Try.prog w' = .ok (.string ⟨el.toArray⟩) w')
            (go_keep) (fail)
          go_wp2
          go_ret
          exact ⟨rfl, hB6.drew⟩
        · clear hel0
          have hcp' : (A : Int) < (cap4 : Int) := by omega
          have hD := hD0.out
          have hq1 : ∀ n, (convert 27 9 (.slice (some ⟨b, off + A, none⟩) el.length (cap4 - A))).run Try.prog (w6.drewN n) = .ok (.string ⟨el.toArray⟩) (w6.drewN n) := fun n => conv_bts (Hdp.out.keep (w' := w6.drewN n) (Nat.le_refl _) (fun _ _ => rfl))
          have hq2 : ∀ n, (convert 27 9 (.slice ow el.length cw)).run Try.prog (w6.drewN n) = .ok (.string ⟨el.toArray⟩) (w6.drewN n) := fun n => conv_B (HW7.out.keep (w' := w6.drewN n) (fun _ _ => rfl))
          go_quiet (fail)
          go_wp2
          go_ret
          exact ⟨rfl, hB6.trans ⟨rfl, rfl, rfl, Nat.le_refl _, fun _ _ => rfl⟩⟩
      · have H2 := Lib.hid h2; clear h2
        go_wp2_with fail
        refine (rList_any _ _ _ _).mono ?_
        rintro e w3 ⟨rfl, hb3⟩
        have hB3 := below_ext hb hb3
        clear hb hb3 HW HZ
        go_wp2_with fail
        refine (encode_big (vLst l) (vLst_sz Hfx.out h20) _ _ (rd_vLst (HL.out.ext hB3))).mono ?_
        rintro e w4 ⟨v4, rfl, hv4, hb4⟩
        rw [H2.out] at hv4 ⊢
        rw [if_neg (by decide)] at hv4
        have hB4 := below_ext hB3 hb4
        obtain ⟨oa4, cap4, rfl⟩ := hv4.form
        clear hv4 hb4 hB3
        go_wp2_with fail
        go_ret
        exact ⟨rfl, hB4⟩
end Go.Proofs.Ytebedfcdbhgfdaa
