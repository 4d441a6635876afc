/-
  The reference of layer 5: Parse, without a sign; joined.
-/
import Derived.Test.YtchhlgcakjjncaaDoorR5d
set_option linter.unusedSimpArgs false
set_option linter.unusedVariables false
set_option maxRecDepth 100000
set_option maxHeartbeats 1600000
namespace Go.Proofs.YtchhlgcakjjncaaDoor
open Go.RowKit

theorem par5_0 (s : List UInt8) (w : World) (hs : s.length ≤ 400) (HNG : Hid (ngS s = false))  : Calls Tryd.prog 16 #[.string ⟨s.toArray⟩] w fun e w' => e = .returned (parM s) ∧ Since w w' := by
  have hsl := slash_le (r0S s)
  have hrl : (r0S s).length ≤ 400 := by unfold r0S; split <;> (try rw [List.length_drop]) <;> omega
  have lp1 := pS5_len ((r0S s).take (slash (r0S s)))
  have lp2 := pS5_len ((r0S s).drop (slash (r0S s) + 1))
  rw [List.length_take] at lp1
  rw [List.length_drop] at lp2
  have HT0 : Hid (rtx 0 = [48]) := rtx_00
  have HR0 : Hid (r0S s = s) := by show _ = _; unfold r0S; rw [HNG.out]; rfl
  have HRR := HR0
  rw [HRR.out] at hsl hrl lp1 lp2
  obtain ⟨at9, hat9⟩ : ∃ at9, at9 = slash s := ⟨_, rfl⟩
  have HAT := Lib.hid hat9
  clear hat9
  rw [← HAT.out] at hsl lp1 lp2
  obtain ⟨pp, hpp⟩ : ∃ pp, pp = pS5 (s.take at9) := ⟨_, rfl⟩
  have HP9 := Lib.hid hpp
  clear hpp
  obtain ⟨dd, hdd⟩ : ∃ dd, dd = pS5 (s.drop (at9 + 1)) := ⟨_, rfl⟩
  have HD9 := Lib.hid hdd
  clear hdd
  rw [← HP9.out] at lp1
  rw [← HD9.out] at lp2
  have HAP : Hid (aP s = pp) := by show _ = _; unfold aP; rw [HRR.out, ← HAT.out, ← HP9.out]
  have HAD : Hid (aD s = if at9 < s.length then dd else [1]) := by show _ = _; unfold aD; rw [HRR.out, ← HAT.out, ← HD9.out]
  go_enter Tryd.func16, Tryd.ntmps16
  go_upto_region 1 with (fail)
  obtain ⟨W0, hW0, hB0, hb⟩ := start1 w 32 [.bool false, .string ⟨#[]⟩, .string ⟨#[]⟩, .int .i64 0]
  rw [← hW0]
  clear hW0
  refine jp ?_
  refine jm (st s) ?_
  refine jv (.int .i64 (s.length : Int)) (exec_lens Tryd.underlying9 _ (by rfl) s (by rfl) _ rfl) ?_
  refine jv (.bool false) (exec_gtr _ _ _ _ (by rfl) .i64 (s.length : Int) 400 (by rfl) (by rfl) false (decide_eq_false (by omega))) ?_
  refine jz fun X1 hX1 => ?_
  have hB0 := hB0.bel hX1
  have hb := bel_next hb hX1
  clear hX1
  go_upto_region 3 with (fail)
  refine jp ?_
  refine jm (st s) ?_
  refine jm (st s) ?_
  refine jz fun X2 hX2 => ?_
  have hB0 := hB0.bel hX2
  have hb := bel_next hb hX2
  clear hX2
  go_upto_region 4 with (fail)
  refine jq 1 ?_
  refine jn (rz) ?_
  refine jz fun X3 hX3 => ?_
  have hB0 := hB0.bel hX3
  have hb := bel_next hb hX3
  clear hX3
  go_upto_region 5 with (refine osn 26 4 14 #[.bool false, .string ⟨#[]⟩, .string ⟨#[]⟩] info_rat ?_)
  obtain ⟨Y3, hY9, hD4, hS9⟩ := start1 X3 26 [.bool false, .string ⟨#[]⟩, .string ⟨#[]⟩]
  rw [← hY9]
  clear hY9
  have hgs4 := hb.size
  have hlt4x0 := hB0.lt
  have hB0 := hB0.bel hS9
  have hb := bel_next hb hS9
  clear hS9
  generalize X3.heap.size = g4 at *
  go_upto_region 5 with (fail)
  refine share [15, 16, 17, 18, 19, 20, 21] (fun f9 X => (f9 21 = .bool false ∧ True) ∧ Since Y3 X) ?_ ?_
  · rcases Nat.eq_zero_or_pos s.length with hs0 | hs0
    · have HE0 : Hid (s = []) := List.eq_nil_of_length_eq_zero hs0
      refine jp ?_
      refine jm (st s) ?_
      refine jv (.bool false) (exec_nesB _ _ _ _ (by rfl) s ([] : List UInt8) (by rfl) (by rfl) false (nes_f HE0.out)) ?_
      refine jm (.bool false) ?_
      refine js ?_
      refine js ?_
      refine js ?_
      refine jm (.bool false) ?_
      exact lx_nil fun X hX _ => share_nil ⟨⟨rfl, trivial⟩, hX⟩
    · have HE0 : Hid (s ≠ []) := fun h9 => by rw [h9] at hs0; exact absurd hs0 (by decide)
      have hc0 : ¬ (s.getD 0 0).toNat = 45 := fun h9 => by
        have h8 := HNG.out
        unfold ngS at h8
        exact of_decide_eq_false h8 ⟨hs0, h9⟩
      refine jp ?_
      refine jm (st s) ?_
      refine jv (.bool true) (exec_nesB _ _ _ _ (by rfl) s ([] : List UInt8) (by rfl) (by rfl) true (nes_t HE0.out)) ?_
      refine jm (.bool true) ?_
      refine jm (st s) ?_
      refine jv (.int .u8 ((s.getD 0 0).toNat : Int)) (exec_chr _ Tryd.underlying9 _ _ (by rfl) s 0 (by rfl) (by rfl) (by omega) (by omega)) ?_
      refine jv (.bool false) (exec_eqi _ _ _ _ (by rfl) .u8 ((s.getD 0 0).toNat : Int) 45 (by rfl) (by rfl) false (decide_eq_false (by omega))) ?_
      refine jm (.bool false) ?_
      exact lx_nil fun X hX _ => share_nil ⟨⟨rfl, trivial⟩, hX⟩
  · intro f4 X4 hk9
    obtain ⟨⟨hk4_0, _⟩, hX4⟩ := hk9
    simp only [patch_cons, patch_nil, pX, hk4_0]
    clear hk4_0
    have hB0 := hB0.bel hX4
    have hD4 := hD4.bel hX4
    have hb := bel_next hb hX4
    clear hX4
    go_upto_region 8 with (fail)
    refine jp ?_
    refine jm (st s) ?_
    refine jc (.int .i64 (at9 : Int)) (fun X hX hF => mo (slashS s X (by omega)) (by rw [← HAT.out])) ?_
    refine jm (.int .i64 (at9 : Int)) ?_
    refine jz fun X5 hX5 => ?_
    have hB0 := hB0.bel hX5
    have hD4 := hD4.bel hX5
    have hb := bel_next hb hX5
    clear hX5
    go_upto_region 9 with (fail)
    refine jq 4 ?_
    refine jm (st s) ?_
    refine jm (.int .i64 (at9 : Int)) ?_
    refine jv (st (s.take at9)) (exec_cut _ Tryd.underlying9 _ _ (by rfl) s at9 (by rfl) (by rfl) (by omega) (by omega)) ?_
    refine jc (.agg #[st pp, .int .i64 (pE5 (s.take at9))]) (fun X hX hF => mo (rparseC (s.take at9) X (by rw [List.length_take]; omega)) (by rw [rparV5, ← HP9.out])) ?_
    refine jz fun X6 hX6 => ?_
    have hB0 := hB0.bel hX6
    have hD4 := hD4.bel hX6
    have hb := bel_next hb hX6
    clear hX6
    go_upto_region 10 with (refine osn 89 6 30 #[.string ⟨pp.toArray⟩, .int .i64 (pE5 (s.take at9))] info_made4 ?_)
    obtain ⟨Y6, hY9, hD6, hS9⟩ := start1 X6 89 [.string ⟨pp.toArray⟩, .int .i64 (pE5 (s.take at9))]
    rw [← hY9]
    clear hY9
    have hgs6 := hb.size
    have hlt6x0 := hB0.lt
    have hlt6x1 := hD4.lt
    have hB0 := hB0.bel hS9
    have hD4 := hD4.bel hS9
    have hb := bel_next hb hS9
    clear hS9
    generalize X6.heap.size = g6 at *
    have hne64 : g4 < g6 := by omega
    refine jq 3 ?_
    refine jn (.pointer (some ⟨g6, 0, none⟩)) ?_
    refine jf (st pp) hD6 0 load_str ?_
    refine jn (.pointer (some ⟨g4, 1, none⟩)) ?_
    refine jz fun X7 hX7 => ?_
    have hB0 := hB0.bel hX7
    have hD4 := hD4.bel hX7
    have hD6 := hD6.bel hX7
    have hb := bel_next hb hX7
    clear hX7
    refine op_store1 rfl g4 1 26 _ hD4 (.string ⟨pp.toArray⟩) (by simp) (fun X u h1 h2 => exec_sts _ _ (by rfl) _ _ (by rfl) (by rfl) u X h1 h2) ?_
    intro w10s hR5 hO5 hB5
    have hb := hB5 _ _ hb (by omega)
    have hB0 := hO5 _ _ _ (by omega) hB0
    have hD6 := hO5 _ _ _ (by omega) hD6
    have hD4 := hR5
    clear hR5 hO5 hB5
    go_upto_region 11 with (fail)
    refine jq 1 ?_
    refine jn (.pointer (some ⟨g4, 2, none⟩)) ?_
    refine jz fun X8 hX8 => ?_
    have hB0 := hB0.bel hX8
    have hD4 := hD4.bel hX8
    have hD6 := hD6.bel hX8
    have hb := bel_next hb hX8
    clear hX8
    refine op_store1 rfl g4 2 26 _ hD4 (.string ⟨([1] : List UInt8).toArray⟩) (by simp) (fun X u h1 h2 => exec_sts _ _ (by rfl) _ _ (by rfl) (by rfl) u X h1 h2) ?_
    intro w11s hR5 hO5 hB5
    have hb := hB5 _ _ hb (by omega)
    have hB0 := hO5 _ _ _ (by omega) hB0
    have hD6 := hO5 _ _ _ (by omega) hD6
    have hD4 := hR5
    clear hR5 hO5 hB5
    go_upto_region 12 with (fail)
    rcases Nat.lt_or_ge at9 s.length with hat | hat
    · refine jp ?_
      refine jm (.int .i64 (at9 : Int)) ?_
      refine jm (st s) ?_
      refine jv (.int .i64 (s.length : Int)) (exec_lens Tryd.underlying9 _ (by rfl) s (by rfl) _ rfl) ?_
      refine jv (.bool true) (exec_lss _ _ _ _ (by rfl) .i64 (at9 : Int) (s.length : Int) (by rfl) (by rfl) true (decide_eq_true (by omega))) ?_
      refine jz fun X9 hX9 => ?_
      have hB0 := hB0.bel hX9
      have hD4 := hD4.bel hX9
      have hD6 := hD6.bel hX9
      have hb := bel_next hb hX9
      clear hX9
      go_upto_region 13 with (fail)
      refine jq 5 ?_
      refine jm (st s) ?_
      refine jm (.int .i64 (at9 : Int)) ?_
      refine jv (.int .i64 ((at9 + 1 : Nat) : Int)) (exec_add _ _ _ _ (by rfl) (at9 : Int) 1 ((at9 + 1 : Nat) : Int) (by rfl) (by rfl) (by omega) (by omega) (by omega)) ?_
      refine jv (st (s.drop (at9 + 1))) (exec_frm _ Tryd.underlying9 _ _ (by rfl) s (at9 + 1) (by rfl) (by rfl) (by omega) (by omega)) ?_
      refine jc (.agg #[st dd, .int .i64 (pE5 (s.drop (at9 + 1)))]) (fun X hX hF => mo (rparseC (s.drop (at9 + 1)) X (by rw [List.length_drop]; omega)) (by rw [rparV5, ← HD9.out])) ?_
      refine jz fun X10 hX10 => ?_
      have hB0 := hB0.bel hX10
      have hD4 := hD4.bel hX10
      have hD6 := hD6.bel hX10
      have hb := bel_next hb hX10
      clear hX10
      go_upto_region 14 with (refine osn 89 7 43 #[.string ⟨dd.toArray⟩, .int .i64 (pE5 (s.drop (at9 + 1)))] info_made4 ?_)
      obtain ⟨Y10, hY9, hD7, hS9⟩ := start1 X10 89 [.string ⟨dd.toArray⟩, .int .i64 (pE5 (s.drop (at9 + 1)))]
      rw [← hY9]
      clear hY9
      have hgs7 := hb.size
      have hlt7x0 := hB0.lt
      have hlt7x1 := hD4.lt
      have hlt7x2 := hD6.lt
      have hB0 := hB0.bel hS9
      have hD4 := hD4.bel hS9
      have hD6 := hD6.bel hS9
      have hb := bel_next hb hS9
      clear hS9
      generalize X10.heap.size = g7 at *
      have hne74 : g4 < g7 := by omega
      refine jq 3 ?_
      refine jn (.pointer (some ⟨g7, 0, none⟩)) ?_
      refine jf (st dd) hD7 0 load_str ?_
      refine jn (.pointer (some ⟨g4, 2, none⟩)) ?_
      refine jz fun X11 hX11 => ?_
      have hB0 := hB0.bel hX11
      have hD4 := hD4.bel hX11
      have hD6 := hD6.bel hX11
      have hD7 := hD7.bel hX11
      have hb := bel_next hb hX11
      clear hX11
      refine op_store1 rfl g4 2 26 _ hD4 (.string ⟨dd.toArray⟩) (by simp) (fun X u h1 h2 => exec_sts _ _ (by rfl) _ _ (by rfl) (by rfl) u X h1 h2) ?_
      intro w14s hR5 hO5 hB5
      have hb := hB5 _ _ hb (by omega)
      have hB0 := hO5 _ _ _ (by omega) hB0
      have hD6 := hO5 _ _ _ (by omega) hD6
      have hD7 := hO5 _ _ _ (by omega) hD7
      have hD4 := hR5
      clear hR5 hO5 hB5
      go_upto_region 15 with (fail)
      have HDV : Hid (aD s = dd) := by show _ = _; rw [HAD.out]; exact if_pos (by omega)
      by_cases hpe : pp = []
      · have HPE : Hid (pp = []) := hpe
        clear hpe
        refine jp ?_
        refine jn (.pointer (some ⟨g4, 1, none⟩)) ?_
        refine jf (st pp) hD4 1 load_str ?_
        refine jv (.bool true) (exec_eqsB _ _ _ _ (by rfl) pp ([] : List UInt8) (by rfl) (by rfl) true (eqs_t HPE.out)) ?_
        refine jz fun X12 hX12 => ?_
        have hB0 := hB0.bel hX12
        have hD4 := hD4.bel hX12
        have hD6 := hD6.bel hX12
        have hD7 := hD7.bel hX12
        have hb := bel_next hb hX12
        clear hX12
        go_upto_region 16 with (fail)
        refine jq 1 ?_
        refine jn (rz) ?_
        refine jz fun X13 hX13 => ?_
        have hB0 := hB0.bel hX13
        have hD4 := hD4.bel hX13
        have hD6 := hD6.bel hX13
        have hD7 := hD7.bel hX13
        have hb := bel_next hb hX13
        clear hX13
        refine osb 26 4 50 g4 26 hD4 [.bool false, .string ⟨#[]⟩, .string ⟨#[]⟩] info_rat ?_
        intro w16s hR9 hO9 hB9 hs9
        have hb := hB9 _ _ hb (by omega)
        have hB0 := hO9 _ _ _ (by omega) hB0
        have hD6 := hO9 _ _ _ (by omega) hD6
        have hD7 := hO9 _ _ _ (by omega) hD7
        have hD4 := hR9
        clear hR9 hO9 hB9
        go_upto_region 17 with (fail)
        by_cases htx : s = [48]
        · have HTX : Hid (s = [48]) := htx
          have HOK := Lib.hid (parM_zero (s := s) (by rw [HAP.out]; exact HPE.out) htx)
          clear htx
          refine jp ?_
          refine ja hD4 Tryd.underlying26 (by rfl) info_rat ?_
          refine jc (.bool true) (fun X hX hF => mo (rvQ5 false [] [] X (by decide) (by decide)) (by rw [vd_zero])) ?_
          refine jm (.bool true) ?_
          refine jz fun X14 hX14 => ?_
          have hB0 := hB0.bel hX14
          have hD4 := hD4.bel hX14
          have hD6 := hD6.bel hX14
          have hD7 := hD7.bel hX14
          have hb := bel_next hb hX14
          clear hX14
          go_upto_region 18 with (fail)
          refine jp ?_
          refine jm (.bool true) ?_
          refine jm (.bool false) ?_
          refine jm (.bool false) ?_
          refine ja hD4 Tryd.underlying26 (by rfl) info_rat ?_
          refine jc (st ([48] : List UInt8)) (fun X hX hF => mo (textS false [] [] rq_zero X tz_nil) (by rw [HT0.out])) ?_
          refine jm (st s) ?_
          refine jv (.bool false) (exec_nesB _ _ _ _ (by rfl) ([48] : List UInt8) s (by rfl) (by rfl) false (nes_f HTX.out.symm)) ?_
          refine jm (.bool false) ?_
          refine jz fun X15 hX15 => ?_
          have hB0 := hB0.bel hX15
          have hD4 := hD4.bel hX15
          have hD6 := hD6.bel hX15
          have hD7 := hD7.bel hX15
          have hb := bel_next hb hX15
          clear hX15
          go_upto_region 20 with (fail)
          refine jq 2 ?_
          refine ja hD4 Tryd.underlying26 (by rfl) info_rat ?_
          refine jn (.agg #[.bool false, .string ⟨#[]⟩, .string ⟨#[]⟩, .int .i64 0]) ?_
          refine jz fun X16 hX16 => ?_
          have hB0 := hB0.bel hX16
          have hD4 := hD4.bel hX16
          have hD6 := hD6.bel hX16
          have hD7 := hD7.bel hX16
          have hb := bel_next hb hX16
          clear hX16
          refine osb 32 2 63 w.heap.size 32 hB0 [.bool false, .string ⟨#[]⟩, .string ⟨#[]⟩, .int .i64 0] info_made5 ?_
          intro w9 hR9 hO9 hB9 hs9
          have hb9 := hB9 _ _ hb (by omega)
          clear hO9 hB9
          go_wp2
          refine post_cell rfl rfl (by rfl) Tryd.underlying32 rfl hR9 info_made5 ⟨by rw [HOK.out], hb9⟩
        · have HTX : Hid (s ≠ [48]) := htx
          have HBAD := Lib.hid (parM_zbad (s := s) (by rw [HAP.out]; exact HPE.out) htx)
          clear htx
          refine jp ?_
          refine ja hD4 Tryd.underlying26 (by rfl) info_rat ?_
          refine jc (.bool true) (fun X hX hF => mo (rvQ5 false [] [] X (by decide) (by decide)) (by rw [vd_zero])) ?_
          refine jm (.bool true) ?_
          refine jz fun X14 hX14 => ?_
          have hB0 := hB0.bel hX14
          have hD4 := hD4.bel hX14
          have hD6 := hD6.bel hX14
          have hD7 := hD7.bel hX14
          have hb := bel_next hb hX14
          clear hX14
          go_upto_region 18 with (fail)
          refine jp ?_
          refine jm (.bool true) ?_
          refine jm (.bool false) ?_
          refine jm (.bool false) ?_
          refine ja hD4 Tryd.underlying26 (by rfl) info_rat ?_
          refine jc (st ([48] : List UInt8)) (fun X hX hF => mo (textS false [] [] rq_zero X tz_nil) (by rw [HT0.out])) ?_
          refine jm (st s) ?_
          refine jv (.bool true) (exec_nesB _ _ _ _ (by rfl) ([48] : List UInt8) s (by rfl) (by rfl) true (nes_t (fun h9 => HTX.out h9.symm))) ?_
          refine jm (.bool true) ?_
          refine jz fun X15 hX15 => ?_
          have hB0 := hB0.bel hX15
          have hD4 := hD4.bel hX15
          have hD6 := hD6.bel hX15
          have hD7 := hD7.bel hX15
          have hb := bel_next hb hX15
          clear hX15
          go_upto_region 19 with (fail)
          refine jq 1 ?_
          refine jn (.agg #[.bool false, .string ⟨#[]⟩, .string ⟨#[]⟩, .int .i64 27]) ?_
          refine jz fun X16 hX16 => ?_
          have hB0 := hB0.bel hX16
          have hD4 := hD4.bel hX16
          have hD6 := hD6.bel hX16
          have hD7 := hD7.bel hX16
          have hb := bel_next hb hX16
          clear hX16
          refine osb 32 2 61 w.heap.size 32 hB0 [.bool false, .string ⟨#[]⟩, .string ⟨#[]⟩, .int .i64 27] info_made5 ?_
          intro w9 hR9 hO9 hB9 hs9
          have hb9 := hB9 _ _ hb (by omega)
          clear hO9 hB9
          go_wp2
          refine post_cell rfl rfl (by rfl) Tryd.underlying32 rfl hR9 info_made5 ⟨by rw [HBAD.out], hb9⟩
      · have HPE : Hid (pp ≠ []) := hpe
        clear hpe
        refine jp ?_
        refine jn (.pointer (some ⟨g4, 1, none⟩)) ?_
        refine jf (st pp) hD4 1 load_str ?_
        refine jv (.bool false) (exec_eqsB _ _ _ _ (by rfl) pp ([] : List UInt8) (by rfl) (by rfl) false (eqs_f HPE.out)) ?_
        refine jz fun X12 hX12 => ?_
        have hB0 := hB0.bel hX12
        have hD4 := hD4.bel hX12
        have hD6 := hD6.bel hX12
        have hD7 := hD7.bel hX12
        have hb := bel_next hb hX12
        clear hX12
        rcases hv : vd false pp dd with _ | _
        · have HV := Lib.hid hv
          have HBAD := Lib.hid (parM_bad (s := s) (by rw [HAP.out]; exact HPE.out) (.inl (by rw [(show ngS s = false from HNG.out), HAP.out, HDV.out]; exact hv)))
          clear hv
          go_upto_region 17 with (fail)
          refine jp ?_
          refine ja hD4 Tryd.underlying26 (by rfl) info_rat ?_
          refine jc (.bool false) (fun X hX hF => mo (rvQ5 false pp dd X (by omega) (by first | omega | decide)) (by rw [HV.out])) ?_
          refine jm (.bool false) ?_
          refine jz fun X13 hX13 => ?_
          have hB0 := hB0.bel hX13
          have hD4 := hD4.bel hX13
          have hD6 := hD6.bel hX13
          have hD7 := hD7.bel hX13
          have hb := bel_next hb hX13
          clear hX13
          go_upto_region 18 with (fail)
          refine jp ?_
          refine jm (.bool false) ?_
          refine jm (.bool true) ?_
          refine jm (.bool true) ?_
          refine js ?_
          refine js ?_
          refine js ?_
          refine js ?_
          refine jm (.bool true) ?_
          refine jz fun X14 hX14 => ?_
          have hB0 := hB0.bel hX14
          have hD4 := hD4.bel hX14
          have hD6 := hD6.bel hX14
          have hD7 := hD7.bel hX14
          have hb := bel_next hb hX14
          clear hX14
          go_upto_region 19 with (fail)
          refine jq 1 ?_
          refine jn (.agg #[.bool false, .string ⟨#[]⟩, .string ⟨#[]⟩, .int .i64 27]) ?_
          refine jz fun X15 hX15 => ?_
          have hB0 := hB0.bel hX15
          have hD4 := hD4.bel hX15
          have hD6 := hD6.bel hX15
          have hD7 := hD7.bel hX15
          have hb := bel_next hb hX15
          clear hX15
          refine osb 32 2 61 w.heap.size 32 hB0 [.bool false, .string ⟨#[]⟩, .string ⟨#[]⟩, .int .i64 27] info_made5 ?_
          intro w9 hR9 hO9 hB9 hs9
          have hb9 := hB9 _ _ hb (by omega)
          clear hO9 hB9
          go_wp2
          refine post_cell rfl rfl (by rfl) Tryd.underlying32 rfl hR9 info_made5 ⟨by rw [HBAD.out], hb9⟩
        · have HV := Lib.hid hv
          clear hv
          by_cases htx : rtx (rq false pp dd) = s
          · have HTX := Lib.hid htx
            have HOK := Lib.hid (parM_ok (s := s) (by rw [(show ngS s = false from HNG.out), HAP.out, HDV.out]; exact HV.out) (by rw [(show ngS s = false from HNG.out), HAP.out, HDV.out]; exact htx))
            rw [(show ngS s = false from HNG.out), HAP.out, HDV.out] at HOK
            clear htx
            go_upto_region 17 with (fail)
            refine jp ?_
            refine ja hD4 Tryd.underlying26 (by rfl) info_rat ?_
            refine jc (.bool true) (fun X hX hF => mo (rvQ5 false pp dd X (by omega) (by first | omega | decide)) (by rw [HV.out])) ?_
            refine jm (.bool true) ?_
            refine jz fun X13 hX13 => ?_
            have hB0 := hB0.bel hX13
            have hD4 := hD4.bel hX13
            have hD6 := hD6.bel hX13
            have hD7 := hD7.bel hX13
            have hb := bel_next hb hX13
            clear hX13
            go_upto_region 18 with (fail)
            refine jp ?_
            refine jm (.bool true) ?_
            refine jm (.bool false) ?_
            refine jm (.bool false) ?_
            refine ja hD4 Tryd.underlying26 (by rfl) info_rat ?_
            refine jc (st (rtx (rq false pp dd))) (fun X hX hF => textS false pp dd rfl X ⟨by omega, by omega⟩) ?_
            refine jm (st s) ?_
            refine jv (.bool false) (exec_nesB _ _ _ _ (by rfl) (rtx (rq false pp dd)) s (by rfl) (by rfl) false (nes_f HTX.out)) ?_
            refine jm (.bool false) ?_
            refine jz fun X14 hX14 => ?_
            have hB0 := hB0.bel hX14
            have hD4 := hD4.bel hX14
            have hD6 := hD6.bel hX14
            have hD7 := hD7.bel hX14
            have hb := bel_next hb hX14
            clear hX14
            go_upto_region 20 with (fail)
            refine jq 2 ?_
            refine ja hD4 Tryd.underlying26 (by rfl) info_rat ?_
            refine jn (.agg #[.bool false, st pp, st dd, .int .i64 0]) ?_
            refine jz fun X15 hX15 => ?_
            have hB0 := hB0.bel hX15
            have hD4 := hD4.bel hX15
            have hD6 := hD6.bel hX15
            have hD7 := hD7.bel hX15
            have hb := bel_next hb hX15
            clear hX15
            refine osb 32 2 63 w.heap.size 32 hB0 [.bool false, .string ⟨pp.toArray⟩, .string ⟨dd.toArray⟩, .int .i64 0] info_made5 ?_
            intro w9 hR9 hO9 hB9 hs9
            have hb9 := hB9 _ _ hb (by omega)
            clear hO9 hB9
            go_wp2
            refine post_cell rfl rfl (by rfl) Tryd.underlying32 rfl hR9 info_made5 ⟨by rw [HOK.out], hb9⟩
          · have HTX : Hid (rtx (rq false pp dd) ≠ s) := htx
            have HBAD := Lib.hid (parM_bad (s := s) (by rw [HAP.out]; exact HPE.out) (.inr (by rw [(show ngS s = false from HNG.out), HAP.out, HDV.out]; exact htx)))
            clear htx
            go_upto_region 17 with (fail)
            refine jp ?_
            refine ja hD4 Tryd.underlying26 (by rfl) info_rat ?_
            refine jc (.bool true) (fun X hX hF => mo (rvQ5 false pp dd X (by omega) (by first | omega | decide)) (by rw [HV.out])) ?_
            refine jm (.bool true) ?_
            refine jz fun X13 hX13 => ?_
            have hB0 := hB0.bel hX13
            have hD4 := hD4.bel hX13
            have hD6 := hD6.bel hX13
            have hD7 := hD7.bel hX13
            have hb := bel_next hb hX13
            clear hX13
            go_upto_region 18 with (fail)
            refine jp ?_
            refine jm (.bool true) ?_
            refine jm (.bool false) ?_
            refine jm (.bool false) ?_
            refine ja hD4 Tryd.underlying26 (by rfl) info_rat ?_
            refine jc (st (rtx (rq false pp dd))) (fun X hX hF => textS false pp dd rfl X ⟨by omega, by omega⟩) ?_
            refine jm (st s) ?_
            refine jv (.bool true) (exec_nesB _ _ _ _ (by rfl) (rtx (rq false pp dd)) s (by rfl) (by rfl) true (nes_t HTX.out)) ?_
            refine jm (.bool true) ?_
            refine jz fun X14 hX14 => ?_
            have hB0 := hB0.bel hX14
            have hD4 := hD4.bel hX14
            have hD6 := hD6.bel hX14
            have hD7 := hD7.bel hX14
            have hb := bel_next hb hX14
            clear hX14
            go_upto_region 19 with (fail)
            refine jq 1 ?_
            refine jn (.agg #[.bool false, .string ⟨#[]⟩, .string ⟨#[]⟩, .int .i64 27]) ?_
            refine jz fun X15 hX15 => ?_
            have hB0 := hB0.bel hX15
            have hD4 := hD4.bel hX15
            have hD6 := hD6.bel hX15
            have hD7 := hD7.bel hX15
            have hb := bel_next hb hX15
            clear hX15
            refine osb 32 2 61 w.heap.size 32 hB0 [.bool false, .string ⟨#[]⟩, .string ⟨#[]⟩, .int .i64 27] info_made5 ?_
            intro w9 hR9 hO9 hB9 hs9
            have hb9 := hB9 _ _ hb (by omega)
            clear hO9 hB9
            go_wp2
            refine post_cell rfl rfl (by rfl) Tryd.underlying32 rfl hR9 info_made5 ⟨by rw [HBAD.out], hb9⟩
    · refine jp ?_
      refine jm (.int .i64 (at9 : Int)) ?_
      refine jm (st s) ?_
      refine jv (.int .i64 (s.length : Int)) (exec_lens Tryd.underlying9 _ (by rfl) s (by rfl) _ rfl) ?_
      refine jv (.bool false) (exec_lss _ _ _ _ (by rfl) .i64 (at9 : Int) (s.length : Int) (by rfl) (by rfl) false (decide_eq_false (by omega))) ?_
      refine jz fun X9 hX9 => ?_
      have hB0 := hB0.bel hX9
      have hD4 := hD4.bel hX9
      have hD6 := hD6.bel hX9
      have hb := bel_next hb hX9
      clear hX9
      have HDV : Hid (aD s = ([1] : List UInt8)) := by show _ = _; rw [HAD.out]; exact if_neg (by omega)
      by_cases hpe : pp = []
      · have HPE : Hid (pp = []) := hpe
        clear hpe
        go_upto_region 15 with (fail)
        refine jp ?_
        refine jn (.pointer (some ⟨g4, 1, none⟩)) ?_
        refine jf (st pp) hD4 1 load_str ?_
        refine jv (.bool true) (exec_eqsB _ _ _ _ (by rfl) pp ([] : List UInt8) (by rfl) (by rfl) true (eqs_t HPE.out)) ?_
        refine jz fun X10 hX10 => ?_
        have hB0 := hB0.bel hX10
        have hD4 := hD4.bel hX10
        have hD6 := hD6.bel hX10
        have hb := bel_next hb hX10
        clear hX10
        go_upto_region 16 with (fail)
        refine jq 1 ?_
        refine jn (rz) ?_
        refine jz fun X11 hX11 => ?_
        have hB0 := hB0.bel hX11
        have hD4 := hD4.bel hX11
        have hD6 := hD6.bel hX11
        have hb := bel_next hb hX11
        clear hX11
        refine osb 26 4 50 g4 26 hD4 [.bool false, .string ⟨#[]⟩, .string ⟨#[]⟩] info_rat ?_
        intro w16s hR9 hO9 hB9 hs9
        have hb := hB9 _ _ hb (by omega)
        have hB0 := hO9 _ _ _ (by omega) hB0
        have hD6 := hO9 _ _ _ (by omega) hD6
        have hD4 := hR9
        clear hR9 hO9 hB9
        go_upto_region 17 with (fail)
        by_cases htx : s = [48]
        · have HTX : Hid (s = [48]) := htx
          have HOK := Lib.hid (parM_zero (s := s) (by rw [HAP.out]; exact HPE.out) htx)
          clear htx
          refine jp ?_
          refine ja hD4 Tryd.underlying26 (by rfl) info_rat ?_
          refine jc (.bool true) (fun X hX hF => mo (rvQ5 false [] [] X (by decide) (by decide)) (by rw [vd_zero])) ?_
          refine jm (.bool true) ?_
          refine jz fun X12 hX12 => ?_
          have hB0 := hB0.bel hX12
          have hD4 := hD4.bel hX12
          have hD6 := hD6.bel hX12
          have hb := bel_next hb hX12
          clear hX12
          go_upto_region 18 with (fail)
          refine jp ?_
          refine jm (.bool true) ?_
          refine jm (.bool false) ?_
          refine jm (.bool false) ?_
          refine ja hD4 Tryd.underlying26 (by rfl) info_rat ?_
          refine jc (st ([48] : List UInt8)) (fun X hX hF => mo (textS false [] [] rq_zero X tz_nil) (by rw [HT0.out])) ?_
          refine jm (st s) ?_
          refine jv (.bool false) (exec_nesB _ _ _ _ (by rfl) ([48] : List UInt8) s (by rfl) (by rfl) false (nes_f HTX.out.symm)) ?_
          refine jm (.bool false) ?_
          refine jz fun X13 hX13 => ?_
          have hB0 := hB0.bel hX13
          have hD4 := hD4.bel hX13
          have hD6 := hD6.bel hX13
          have hb := bel_next hb hX13
          clear hX13
          go_upto_region 20 with (fail)
          refine jq 2 ?_
          refine ja hD4 Tryd.underlying26 (by rfl) info_rat ?_
          refine jn (.agg #[.bool false, .string ⟨#[]⟩, .string ⟨#[]⟩, .int .i64 0]) ?_
          refine jz fun X14 hX14 => ?_
          have hB0 := hB0.bel hX14
          have hD4 := hD4.bel hX14
          have hD6 := hD6.bel hX14
          have hb := bel_next hb hX14
          clear hX14
          refine osb 32 2 63 w.heap.size 32 hB0 [.bool false, .string ⟨#[]⟩, .string ⟨#[]⟩, .int .i64 0] info_made5 ?_
          intro w9 hR9 hO9 hB9 hs9
          have hb9 := hB9 _ _ hb (by omega)
          clear hO9 hB9
          go_wp2
          refine post_cell rfl rfl (by rfl) Tryd.underlying32 rfl hR9 info_made5 ⟨by rw [HOK.out], hb9⟩
        · have HTX : Hid (s ≠ [48]) := htx
          have HBAD := Lib.hid (parM_zbad (s := s) (by rw [HAP.out]; exact HPE.out) htx)
          clear htx
          refine jp ?_
          refine ja hD4 Tryd.underlying26 (by rfl) info_rat ?_
          refine jc (.bool true) (fun X hX hF => mo (rvQ5 false [] [] X (by decide) (by decide)) (by rw [vd_zero])) ?_
          refine jm (.bool true) ?_
          refine jz fun X12 hX12 => ?_
          have hB0 := hB0.bel hX12
          have hD4 := hD4.bel hX12
          have hD6 := hD6.bel hX12
          have hb := bel_next hb hX12
          clear hX12
          go_upto_region 18 with (fail)
          refine jp ?_
          refine jm (.bool true) ?_
          refine jm (.bool false) ?_
          refine jm (.bool false) ?_
          refine ja hD4 Tryd.underlying26 (by rfl) info_rat ?_
          refine jc (st ([48] : List UInt8)) (fun X hX hF => mo (textS false [] [] rq_zero X tz_nil) (by rw [HT0.out])) ?_
          refine jm (st s) ?_
          refine jv (.bool true) (exec_nesB _ _ _ _ (by rfl) ([48] : List UInt8) s (by rfl) (by rfl) true (nes_t (fun h9 => HTX.out h9.symm))) ?_
          refine jm (.bool true) ?_
          refine jz fun X13 hX13 => ?_
          have hB0 := hB0.bel hX13
          have hD4 := hD4.bel hX13
          have hD6 := hD6.bel hX13
          have hb := bel_next hb hX13
          clear hX13
          go_upto_region 19 with (fail)
          refine jq 1 ?_
          refine jn (.agg #[.bool false, .string ⟨#[]⟩, .string ⟨#[]⟩, .int .i64 27]) ?_
          refine jz fun X14 hX14 => ?_
          have hB0 := hB0.bel hX14
          have hD4 := hD4.bel hX14
          have hD6 := hD6.bel hX14
          have hb := bel_next hb hX14
          clear hX14
          refine osb 32 2 61 w.heap.size 32 hB0 [.bool false, .string ⟨#[]⟩, .string ⟨#[]⟩, .int .i64 27] info_made5 ?_
          intro w9 hR9 hO9 hB9 hs9
          have hb9 := hB9 _ _ hb (by omega)
          clear hO9 hB9
          go_wp2
          refine post_cell rfl rfl (by rfl) Tryd.underlying32 rfl hR9 info_made5 ⟨by rw [HBAD.out], hb9⟩
      · have HPE : Hid (pp ≠ []) := hpe
        clear hpe
        go_upto_region 15 with (fail)
        refine jp ?_
        refine jn (.pointer (some ⟨g4, 1, none⟩)) ?_
        refine jf (st pp) hD4 1 load_str ?_
        refine jv (.bool false) (exec_eqsB _ _ _ _ (by rfl) pp ([] : List UInt8) (by rfl) (by rfl) false (eqs_f HPE.out)) ?_
        refine jz fun X10 hX10 => ?_
        have hB0 := hB0.bel hX10
        have hD4 := hD4.bel hX10
        have hD6 := hD6.bel hX10
        have hb := bel_next hb hX10
        clear hX10
        rcases hv : vd false pp ([1] : List UInt8) with _ | _
        · have HV := Lib.hid hv
          have HBAD := Lib.hid (parM_bad (s := s) (by rw [HAP.out]; exact HPE.out) (.inl (by rw [(show ngS s = false from HNG.out), HAP.out, HDV.out]; exact hv)))
          clear hv
          go_upto_region 17 with (fail)
          refine jp ?_
          refine ja hD4 Tryd.underlying26 (by rfl) info_rat ?_
          refine jc (.bool false) (fun X hX hF => mo (rvQ5 false pp ([1] : List UInt8) X (by omega) (by first | omega | decide)) (by rw [HV.out])) ?_
          refine jm (.bool false) ?_
          refine jz fun X11 hX11 => ?_
          have hB0 := hB0.bel hX11
          have hD4 := hD4.bel hX11
          have hD6 := hD6.bel hX11
          have hb := bel_next hb hX11
          clear hX11
          go_upto_region 18 with (fail)
          refine jp ?_
          refine jm (.bool false) ?_
          refine jm (.bool true) ?_
          refine jm (.bool true) ?_
          refine js ?_
          refine js ?_
          refine js ?_
          refine js ?_
          refine jm (.bool true) ?_
          refine jz fun X12 hX12 => ?_
          have hB0 := hB0.bel hX12
          have hD4 := hD4.bel hX12
          have hD6 := hD6.bel hX12
          have hb := bel_next hb hX12
          clear hX12
          go_upto_region 19 with (fail)
          refine jq 1 ?_
          refine jn (.agg #[.bool false, .string ⟨#[]⟩, .string ⟨#[]⟩, .int .i64 27]) ?_
          refine jz fun X13 hX13 => ?_
          have hB0 := hB0.bel hX13
          have hD4 := hD4.bel hX13
          have hD6 := hD6.bel hX13
          have hb := bel_next hb hX13
          clear hX13
          refine osb 32 2 61 w.heap.size 32 hB0 [.bool false, .string ⟨#[]⟩, .string ⟨#[]⟩, .int .i64 27] info_made5 ?_
          intro w9 hR9 hO9 hB9 hs9
          have hb9 := hB9 _ _ hb (by omega)
          clear hO9 hB9
          go_wp2
          refine post_cell rfl rfl (by rfl) Tryd.underlying32 rfl hR9 info_made5 ⟨by rw [HBAD.out], hb9⟩
        · have HV := Lib.hid hv
          clear hv
          by_cases htx : rtx (rq false pp ([1] : List UInt8)) = s
          · have HTX := Lib.hid htx
            have HOK := Lib.hid (parM_ok (s := s) (by rw [(show ngS s = false from HNG.out), HAP.out, HDV.out]; exact HV.out) (by rw [(show ngS s = false from HNG.out), HAP.out, HDV.out]; exact htx))
            rw [(show ngS s = false from HNG.out), HAP.out, HDV.out] at HOK
            clear htx
            go_upto_region 17 with (fail)
            refine jp ?_
            refine ja hD4 Tryd.underlying26 (by rfl) info_rat ?_
            refine jc (.bool true) (fun X hX hF => mo (rvQ5 false pp ([1] : List UInt8) X (by omega) (by first | omega | decide)) (by rw [HV.out])) ?_
            refine jm (.bool true) ?_
            refine jz fun X11 hX11 => ?_
            have hB0 := hB0.bel hX11
            have hD4 := hD4.bel hX11
            have hD6 := hD6.bel hX11
            have hb := bel_next hb hX11
            clear hX11
            go_upto_region 18 with (fail)
            refine jp ?_
            refine jm (.bool true) ?_
            refine jm (.bool false) ?_
            refine jm (.bool false) ?_
            refine ja hD4 Tryd.underlying26 (by rfl) info_rat ?_
            refine jc (st (rtx (rq false pp ([1] : List UInt8)))) (fun X hX hF => textS false pp ([1] : List UInt8) rfl X ⟨by omega, by decide⟩) ?_
            refine jm (st s) ?_
            refine jv (.bool false) (exec_nesB _ _ _ _ (by rfl) (rtx (rq false pp ([1] : List UInt8))) s (by rfl) (by rfl) false (nes_f HTX.out)) ?_
            refine jm (.bool false) ?_
            refine jz fun X12 hX12 => ?_
            have hB0 := hB0.bel hX12
            have hD4 := hD4.bel hX12
            have hD6 := hD6.bel hX12
            have hb := bel_next hb hX12
            clear hX12
            go_upto_region 20 with (fail)
            refine jq 2 ?_
            refine ja hD4 Tryd.underlying26 (by rfl) info_rat ?_
            refine jn (.agg #[.bool false, st pp, st ([1] : List UInt8), .int .i64 0]) ?_
            refine jz fun X13 hX13 => ?_
            have hB0 := hB0.bel hX13
            have hD4 := hD4.bel hX13
            have hD6 := hD6.bel hX13
            have hb := bel_next hb hX13
            clear hX13
            refine osb 32 2 63 w.heap.size 32 hB0 [.bool false, .string ⟨pp.toArray⟩, .string ⟨([1] : List UInt8).toArray⟩, .int .i64 0] info_made5 ?_
            intro w9 hR9 hO9 hB9 hs9
            have hb9 := hB9 _ _ hb (by omega)
            clear hO9 hB9
            go_wp2
            refine post_cell rfl rfl (by rfl) Tryd.underlying32 rfl hR9 info_made5 ⟨by rw [HOK.out], hb9⟩
          · have HTX : Hid (rtx (rq false pp ([1] : List UInt8)) ≠ s) := htx
            have HBAD := Lib.hid (parM_bad (s := s) (by rw [HAP.out]; exact HPE.out) (.inr (by rw [(show ngS s = false from HNG.out), HAP.out, HDV.out]; exact htx)))
            clear htx
            go_upto_region 17 with (fail)
            refine jp ?_
            refine ja hD4 Tryd.underlying26 (by rfl) info_rat ?_
            refine jc (.bool true) (fun X hX hF => mo (rvQ5 false pp ([1] : List UInt8) X (by omega) (by first | omega | decide)) (by rw [HV.out])) ?_
            refine jm (.bool true) ?_
            refine jz fun X11 hX11 => ?_
            have hB0 := hB0.bel hX11
            have hD4 := hD4.bel hX11
            have hD6 := hD6.bel hX11
            have hb := bel_next hb hX11
            clear hX11
            go_upto_region 18 with (fail)
            refine jp ?_
            refine jm (.bool true) ?_
            refine jm (.bool false) ?_
            refine jm (.bool false) ?_
            refine ja hD4 Tryd.underlying26 (by rfl) info_rat ?_
            refine jc (st (rtx (rq false pp ([1] : List UInt8)))) (fun X hX hF => textS false pp ([1] : List UInt8) rfl X ⟨by omega, by decide⟩) ?_
            refine jm (st s) ?_
            refine jv (.bool true) (exec_nesB _ _ _ _ (by rfl) (rtx (rq false pp ([1] : List UInt8))) s (by rfl) (by rfl) true (nes_t HTX.out)) ?_
            refine jm (.bool true) ?_
            refine jz fun X12 hX12 => ?_
            have hB0 := hB0.bel hX12
            have hD4 := hD4.bel hX12
            have hD6 := hD6.bel hX12
            have hb := bel_next hb hX12
            clear hX12
            go_upto_region 19 with (fail)
            refine jq 1 ?_
            refine jn (.agg #[.bool false, .string ⟨#[]⟩, .string ⟨#[]⟩, .int .i64 27]) ?_
            refine jz fun X13 hX13 => ?_
            have hB0 := hB0.bel hX13
            have hD4 := hD4.bel hX13
            have hD6 := hD6.bel hX13
            have hb := bel_next hb hX13
            clear hX13
            refine osb 32 2 61 w.heap.size 32 hB0 [.bool false, .string ⟨#[]⟩, .string ⟨#[]⟩, .int .i64 27] info_made5 ?_
            intro w9 hR9 hO9 hB9 hs9
            have hb9 := hB9 _ _ hb (by omega)
            clear hO9 hB9
            go_wp2
            refine post_cell rfl rfl (by rfl) Tryd.underlying32 rfl hR9 info_made5 ⟨by rw [HBAD.out], hb9⟩

theorem parseS (s : List UInt8) (w : World) (hs : s.length ≤ 1000000) : Calls Tryd.prog 16 #[.string ⟨s.toArray⟩] w fun e w' => e = .returned (parN s) ∧ Since w w' := by
  unfold parN
  by_cases h : 400 < s.length
  · rw [if_pos h]
    exact par5_long s w h hs
  · rw [if_neg h]
    rcases hn : ngS s with _ | _
    · exact par5_0 s w (by omega) hn
    · have h9 : 0 < s.length ∧ (s.getD 0 0).toNat = 45 := by unfold ngS at hn; exact of_decide_eq_true hn
      exact par5_1 s w (by omega) hn (fun h8 => by rw [h8] at h9; exact absurd h9.1 (by decide)) h9.1 h9.2

end Go.Proofs.YtchhlgcakjjncaaDoor
