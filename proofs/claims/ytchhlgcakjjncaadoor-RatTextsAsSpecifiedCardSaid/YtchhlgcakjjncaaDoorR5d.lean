/-
  The reference of layer 5: Parse.
-/
import Derived.Test.YtchhlgcakjjncaaDoorR5c
set_option linter.unusedSimpArgs false
set_option linter.unusedVariables false
set_option maxRecDepth 100000
set_option maxHeartbeats 1600000
namespace Go.Proofs.YtchhlgcakjjncaaDoor
open Go.RowKit

/-- What the reference's Parse of a natural number hands back. -/
def pS5 (s : List UInt8) : List UInt8 := if pok s = true then be (dval s) else []
def pE5 (s : List UInt8) : Int := if pok s = true then 0 else 27
theorem rparV5 (s : List UInt8) : rparV s = .agg #[.string ⟨(pS5 s).toArray⟩, .int .i64 (pE5 s)] := by
  unfold pS5 pE5
  rcases h : pok s with _ | _
  · unfold rparV
    rw [h]
    rfl
  · rw [rparV_t h]
    rfl
theorem pS5_len (s : List UInt8) : (pS5 s).length ≤ s.length := by
  unfold pS5
  split
  · rename_i h
    exact be_dval9 h
  · exact Nat.zero_le _
theorem pS5_val {s : List UInt8} {n : Nat} (h : pok s = true ∧ dval s = n) : pS5 s = be n := by unfold pS5; rw [if_pos h.1, h.2]
noncomputable def parM (s : List UInt8) : Value := match parO s with
  | some y => .agg #[.bool (rN y), .string ⟨(rP y).toArray⟩, .string ⟨(rD y).toArray⟩, .int .i64 0]
  | none => .agg #[.bool false, .string ⟨#[]⟩, .string ⟨#[]⟩, .int .i64 27]
def aP (s : List UInt8) : List UInt8 := pS5 ((r0S s).take (slash (r0S s)))
def aD (s : List UInt8) : List UInt8 := if slash (r0S s) < (r0S s).length then pS5 ((r0S s).drop (slash (r0S s) + 1)) else [1]
theorem told_parts {y : Rat} {s : List UInt8} (h : rtx y = s) : ngS s = rN y ∧ aP s = be y.num.natAbs ∧ aD s = be y.den := by
  obtain ⟨h1, h2⟩ := front_of h
  unfold aP aD
  rw [h2]
  refine ⟨h1, pS5_val (by rw [rtb_num]; exact ⟨pok_txt _, dval_txt _⟩), ?_⟩
  by_cases hd : y.den = 1
  · rw [if_neg (by rw [(rtb_whole y).2 hd]; omega), hd, be_one]
  · rw [if_pos (by have := slash_le (rtb y); have h9 : slash (rtb y) ≠ (rtb y).length := fun h9 => hd ((rtb_whole y).1 h9); omega)]
    exact pS5_val (by rw [rtb_den y hd]; exact ⟨pok_txt _, dval_txt _⟩)
theorem parM_ok {s : List UInt8} (hv : vd (ngS s) (aP s) (aD s) = true) (ht : rtx (rq (ngS s) (aP s) (aD s)) = s) : parM s = .agg #[.bool (ngS s), .string ⟨(aP s).toArray⟩, .string ⟨(aD s).toArray⟩, .int .i64 0] := by
  obtain ⟨h1, h2, h3, _⟩ := vd_eq hv
  unfold parM
  rw [parO_some ht]
  simp only
  rw [h1, h2, h3]
theorem parM_bad {s : List UInt8} (h0 : aP s ≠ []) (h : vd (ngS s) (aP s) (aD s) = false ∨ rtx (rq (ngS s) (aP s) (aD s)) ≠ s) : parM s = .agg #[.bool false, .string ⟨#[]⟩, .string ⟨#[]⟩, .int .i64 27] := by
  unfold parM
  rw [parO_none (fun y hy => ?_)]
  obtain ⟨h1, h2, h3⟩ := told_parts hy
  have hn : y.num ≠ 0 := fun h9 => h0 (by rw [h2, h9]; rfl)
  have h4 : rD y = be y.den := by unfold rD; rw [if_neg hn]
  rw [h1, h2, h3, ← h4, show be y.num.natAbs = rP y from rfl, vd_rb, rq_rb] at h
  rcases h with h | h
  · cases h
  · exact h hy
theorem parM_zero {s : List UInt8} (h0 : aP s = []) (hs : s = [48]) : parM s = .agg #[.bool false, .string ⟨#[]⟩, .string ⟨#[]⟩, .int .i64 0] := by
  unfold parM
  rw [parO_some (y := 0) (by rw [hs]; exact rtx_00)]
  rfl
theorem parM_zbad {s : List UInt8} (h0 : aP s = []) (hs : s ≠ [48]) : parM s = .agg #[.bool false, .string ⟨#[]⟩, .string ⟨#[]⟩, .int .i64 27] := by
  unfold parM
  rw [parO_none (fun y hy => ?_)]
  obtain ⟨_, h2, _⟩ := told_parts hy
  rw [h0] at h2
  have h3 := (num_zero y).1 (be_nil.1 h2.symm)
  rw [h3, rtx_00] at hy
  exact hs hy.symm
noncomputable def parN (s : List UInt8) : Value := if 400 < s.length then .agg #[.bool false, .string ⟨#[]⟩, .string ⟨#[]⟩, .int .i64 2] else parM s
theorem par5_long (s : List UInt8) (w : World) (hs : 400 < s.length) (hs1 : s.length ≤ 1000000) : Calls Tryd.prog 16 #[.string ⟨s.toArray⟩] w fun e w' => e = .returned (.agg #[.bool false, .string ⟨#[]⟩, .string ⟨#[]⟩, .int .i64 2]) ∧ Since w w' := by
  go_enter Tryd.func16, Tryd.ntmps16
  go_upto_region 1 with (fail)
  obtain ⟨W0, hW0, hB0, hb⟩ := start1 w 32 [.bool false, .string ⟨#[]⟩, .string ⟨#[]⟩, .int .i64 0]
  rw [← hW0]
  clear hW0
  refine jp ?_
  refine jm (st s) ?_
  refine jv (.int .i64 (s.length : Int)) (exec_lens Tryd.underlying9 _ (by rfl) s (by rfl) _ rfl) ?_
  refine jv (.bool true) (exec_gtr _ _ _ _ (by rfl) .i64 (s.length : Int) 400 (by rfl) (by rfl) true (decide_eq_true (by omega))) ?_
  refine jz fun X1 hX1 => ?_
  have hB0 := hB0.bel hX1
  have hb := bel_next hb hX1
  clear hX1
  go_upto_region 2 with (fail)
  refine jq 1 ?_
  refine jn (.agg #[.bool false, .string ⟨#[]⟩, .string ⟨#[]⟩, .int .i64 2]) ?_
  refine jz fun X2 hX2 => ?_
  have hB0 := hB0.bel hX2
  have hb := bel_next hb hX2
  clear hX2
  refine osb 32 2 12 w.heap.size 32 hB0 [.bool false, .string ⟨#[]⟩, .string ⟨#[]⟩, .int .i64 2] info_made5 ?_
  intro w9 hR9 hO9 hB9 hs9
  have hb9 := hB9 _ _ hb (by omega)
  clear hO9 hB9
  go_wp2
  refine post_cell rfl rfl (by rfl) Tryd.underlying32 rfl hR9 info_made5 ⟨rfl, hb9⟩

theorem par5_1 (s : List UInt8) (w : World) (hs : s.length ≤ 400) (HNG : Hid (ngS s = true)) (HNE : Hid (s ≠ [])) (hps : 0 < s.length) (hc0 : (s.getD 0 0).toNat = 45) : Calls Tryd.prog 16 #[.string ⟨s.toArray⟩] w fun e w' => e = .returned (parM s) ∧ Since w w' := by
  have hsl := slash_le (r0S s)
  have hrl : (r0S s).length ≤ 400 := by unfold r0S; split <;> (try rw [List.length_drop]) <;> omega
  have lp1 := pS5_len ((r0S s).take (slash (r0S s)))
  have lp2 := pS5_len ((r0S s).drop (slash (r0S s) + 1))
  rw [List.length_take] at lp1
  rw [List.length_drop] at lp2
  have HT0 : Hid (rtx 0 = [48]) := rtx_00
  have HR0 : Hid (r0S s = (s.drop 1)) := by show _ = _; unfold r0S; rw [HNG.out]; rfl
  obtain ⟨r, hr9⟩ : ∃ r, r = r0S s := ⟨_, rfl⟩
  have HRR : Hid (r0S s = r) := hr9.symm
  clear hr9
  have HR : Hid (r = s.drop 1) := HRR.out.symm.trans HR0.out
  rw [HRR.out] at hsl hrl lp1 lp2
  obtain ⟨at9, hat9⟩ : ∃ at9, at9 = slash r := ⟨_, rfl⟩
  have HAT := Lib.hid hat9
  clear hat9
  rw [← HAT.out] at hsl lp1 lp2
  obtain ⟨pp, hpp⟩ : ∃ pp, pp = pS5 (r.take at9) := ⟨_, rfl⟩
  have HP9 := Lib.hid hpp
  clear hpp
  obtain ⟨dd, hdd⟩ : ∃ dd, dd = pS5 (r.drop (at9 + 1)) := ⟨_, rfl⟩
  have HD9 := Lib.hid hdd
  clear hdd
  rw [← HP9.out] at lp1
  rw [← HD9.out] at lp2
  have HAP : Hid (aP s = pp) := by show _ = _; unfold aP; rw [HRR.out, ← HAT.out, ← HP9.out]
  have HAD : Hid (aD s = if at9 < r.length then dd else [1]) := by show _ = _; unfold aD; rw [HRR.out, ← HAT.out, ← HD9.out]
  go_enter Tryd.func16, Tryd.ntmps16
  go_upto_region 1 with (fail)
  obtain ⟨W0, hW0, hB0, hb⟩ := start1 w 32 [.bool false, .string ⟨#[]⟩, .string ⟨#[]⟩, .int .i64 0]
  rw [← hW0]
  clear hW0
  refine jp ?_
  refine jm (st s) ?_
  refine jv (.int .i64 (s.length : Int)) (exec_lens Tryd.underlying9 _ (by rfl) s (by rfl) _ rfl) ?_
  refine jv (.bool false) (exec_gtr _ _ _ _ (by rfl) .i64 (s.length : Int) 400 (by rfl) (by rfl) false (decide_eq_false (by omega))) ?_
  refine jz fun X1 hX1 => ?_
  have hB0 := hB0.bel hX1
  have hb := bel_next hb hX1
  clear hX1
  go_upto_region 3 with (fail)
  refine jp ?_
  refine jm (st s) ?_
  refine jm (st s) ?_
  refine jz fun X2 hX2 => ?_
  have hB0 := hB0.bel hX2
  have hb := bel_next hb hX2
  clear hX2
  go_upto_region 4 with (fail)
  refine jq 1 ?_
  refine jn (rz) ?_
  refine jz fun X3 hX3 => ?_
  have hB0 := hB0.bel hX3
  have hb := bel_next hb hX3
  clear hX3
  go_upto_region 5 with (refine osn 26 4 14 #[.bool false, .string ⟨#[]⟩, .string ⟨#[]⟩] info_rat ?_)
  obtain ⟨Y3, hY9, hD4, hS9⟩ := start1 X3 26 [.bool false, .string ⟨#[]⟩, .string ⟨#[]⟩]
  rw [← hY9]
  clear hY9
  have hgs4 := hb.size
  have hlt4x0 := hB0.lt
  have hB0 := hB0.bel hS9
  have hb := bel_next hb hS9
  clear hS9
  generalize X3.heap.size = g4 at *
  refine jp ?_
  refine jm (st s) ?_
  refine jv (.bool true) (exec_nesB _ _ _ _ (by rfl) s ([] : List UInt8) (by rfl) (by rfl) true (nes_t HNE.out)) ?_
  refine jm (.bool true) ?_
  refine jm (st s) ?_
  refine jv (.int .u8 ((s.getD 0 0).toNat : Int)) (exec_chr _ Tryd.underlying9 _ _ (by rfl) s 0 (by rfl) (by rfl) (by omega) (by omega)) ?_
  refine jv (.bool true) (exec_eqi _ _ _ _ (by rfl) .u8 ((s.getD 0 0).toNat : Int) 45 (by rfl) (by rfl) true (decide_eq_true (by omega))) ?_
  refine jm (.bool true) ?_
  refine jz fun X4 hX4 => ?_
  have hB0 := hB0.bel hX4
  have hD4 := hD4.bel hX4
  have hb := bel_next hb hX4
  clear hX4
  go_upto_region 6 with (fail)
  refine jq 1 ?_
  refine jn (.pointer (some ⟨g4, 0, none⟩)) ?_
  refine jz fun X5 hX5 => ?_
  have hB0 := hB0.bel hX5
  have hD4 := hD4.bel hX5
  have hb := bel_next hb hX5
  clear hX5
  refine op_store1 rfl g4 0 26 _ hD4 (.bool true) (by simp) (fun X u h1 h2 => exec_stb _ _ (by rfl) _ _ (by rfl) (by rfl) u X h1 h2) ?_
  intro w6s hR5 hO5 hB5
  have hb := hB5 _ _ hb (by omega)
  have hB0 := hO5 _ _ _ (by omega) hB0
  have hD4 := hR5
  clear hR5 hO5 hB5
  go_upto_region 7 with (fail)
  refine jp ?_
  refine jm (st s) ?_
  refine jv (st r) (fun X => by rw [HR.out]; exact exec_frm _ Tryd.underlying9 _ _ (by rfl) s 1 (by rfl) (by rfl) (by omega) (by omega) X) ?_
  refine jm (st r) ?_
  refine jz fun X6 hX6 => ?_
  have hB0 := hB0.bel hX6
  have hD4 := hD4.bel hX6
  have hb := bel_next hb hX6
  clear hX6
  go_upto_region 8 with (fail)
  refine jp ?_
  refine jm (st r) ?_
  refine jc (.int .i64 (at9 : Int)) (fun X hX hF => mo (slashS r X (by omega)) (by rw [← HAT.out])) ?_
  refine jm (.int .i64 (at9 : Int)) ?_
  refine jz fun X7 hX7 => ?_
  have hB0 := hB0.bel hX7
  have hD4 := hD4.bel hX7
  have hb := bel_next hb hX7
  clear hX7
  go_upto_region 9 with (fail)
  refine jq 4 ?_
  refine jm (st r) ?_
  refine jm (.int .i64 (at9 : Int)) ?_
  refine jv (st (r.take at9)) (exec_cut _ Tryd.underlying9 _ _ (by rfl) r at9 (by rfl) (by rfl) (by omega) (by omega)) ?_
  refine jc (.agg #[st pp, .int .i64 (pE5 (r.take at9))]) (fun X hX hF => mo (rparseC (r.take at9) X (by rw [List.length_take]; omega)) (by rw [rparV5, ← HP9.out])) ?_
  refine jz fun X8 hX8 => ?_
  have hB0 := hB0.bel hX8
  have hD4 := hD4.bel hX8
  have hb := bel_next hb hX8
  clear hX8
  go_upto_region 10 with (refine osn 89 6 30 #[.string ⟨pp.toArray⟩, .int .i64 (pE5 (r.take at9))] info_made4 ?_)
  obtain ⟨Y8, hY9, hD6, hS9⟩ := start1 X8 89 [.string ⟨pp.toArray⟩, .int .i64 (pE5 (r.take at9))]
  rw [← hY9]
  clear hY9
  have hgs6 := hb.size
  have hlt6x0 := hB0.lt
  have hlt6x1 := hD4.lt
  have hB0 := hB0.bel hS9
  have hD4 := hD4.bel hS9
  have hb := bel_next hb hS9
  clear hS9
  generalize X8.heap.size = g6 at *
  have hne64 : g4 < g6 := by omega
  refine jq 3 ?_
  refine jn (.pointer (some ⟨g6, 0, none⟩)) ?_
  refine jf (st pp) hD6 0 load_str ?_
  refine jn (.pointer (some ⟨g4, 1, none⟩)) ?_
  refine jz fun X9 hX9 => ?_
  have hB0 := hB0.bel hX9
  have hD4 := hD4.bel hX9
  have hD6 := hD6.bel hX9
  have hb := bel_next hb hX9
  clear hX9
  refine op_store1 rfl g4 1 26 _ hD4 (.string ⟨pp.toArray⟩) (by simp) (fun X u h1 h2 => exec_sts _ _ (by rfl) _ _ (by rfl) (by rfl) u X h1 h2) ?_
  intro w10s hR5 hO5 hB5
  have hb := hB5 _ _ hb (by omega)
  have hB0 := hO5 _ _ _ (by omega) hB0
  have hD6 := hO5 _ _ _ (by omega) hD6
  have hD4 := hR5
  clear hR5 hO5 hB5
  go_upto_region 11 with (fail)
  refine jq 1 ?_
  refine jn (.pointer (some ⟨g4, 2, none⟩)) ?_
  refine jz fun X10 hX10 => ?_
  have hB0 := hB0.bel hX10
  have hD4 := hD4.bel hX10
  have hD6 := hD6.bel hX10
  have hb := bel_next hb hX10
  clear hX10
  refine op_store1 rfl g4 2 26 _ hD4 (.string ⟨([1] : List UInt8).toArray⟩) (by simp) (fun X u h1 h2 => exec_sts _ _ (by rfl) _ _ (by rfl) (by rfl) u X h1 h2) ?_
  intro w11s hR5 hO5 hB5
  have hb := hB5 _ _ hb (by omega)
  have hB0 := hO5 _ _ _ (by omega) hB0
  have hD6 := hO5 _ _ _ (by omega) hD6
  have hD4 := hR5
  clear hR5 hO5 hB5
  go_upto_region 12 with (fail)
  rcases Nat.lt_or_ge at9 r.length with hat | hat
  · refine jp ?_
    refine jm (.int .i64 (at9 : Int)) ?_
    refine jm (st r) ?_
    refine jv (.int .i64 (r.length : Int)) (exec_lens Tryd.underlying9 _ (by rfl) r (by rfl) _ rfl) ?_
    refine jv (.bool true) (exec_lss _ _ _ _ (by rfl) .i64 (at9 : Int) (r.length : Int) (by rfl) (by rfl) true (decide_eq_true (by omega))) ?_
    refine jz fun X11 hX11 => ?_
    have hB0 := hB0.bel hX11
    have hD4 := hD4.bel hX11
    have hD6 := hD6.bel hX11
    have hb := bel_next hb hX11
    clear hX11
    go_upto_region 13 with (fail)
    refine jq 5 ?_
    refine jm (st r) ?_
    refine jm (.int .i64 (at9 : Int)) ?_
    refine jv (.int .i64 ((at9 + 1 : Nat) : Int)) (exec_add _ _ _ _ (by rfl) (at9 : Int) 1 ((at9 + 1 : Nat) : Int) (by rfl) (by rfl) (by omega) (by omega) (by omega)) ?_
    refine jv (st (r.drop (at9 + 1))) (exec_frm _ Tryd.underlying9 _ _ (by rfl) r (at9 + 1) (by rfl) (by rfl) (by omega) (by omega)) ?_
    refine jc (.agg #[st dd, .int .i64 (pE5 (r.drop (at9 + 1)))]) (fun X hX hF => mo (rparseC (r.drop (at9 + 1)) X (by rw [List.length_drop]; omega)) (by rw [rparV5, ← HD9.out])) ?_
    refine jz fun X12 hX12 => ?_
    have hB0 := hB0.bel hX12
    have hD4 := hD4.bel hX12
    have hD6 := hD6.bel hX12
    have hb := bel_next hb hX12
    clear hX12
    go_upto_region 14 with (refine osn 89 7 43 #[.string ⟨dd.toArray⟩, .int .i64 (pE5 (r.drop (at9 + 1)))] info_made4 ?_)
    obtain ⟨Y12, hY9, hD7, hS9⟩ := start1 X12 89 [.string ⟨dd.toArray⟩, .int .i64 (pE5 (r.drop (at9 + 1)))]
    rw [← hY9]
    clear hY9
    have hgs7 := hb.size
    have hlt7x0 := hB0.lt
    have hlt7x1 := hD4.lt
    have hlt7x2 := hD6.lt
    have hB0 := hB0.bel hS9
    have hD4 := hD4.bel hS9
    have hD6 := hD6.bel hS9
    have hb := bel_next hb hS9
    clear hS9
    generalize X12.heap.size = g7 at *
    have hne74 : g4 < g7 := by omega
    refine jq 3 ?_
    refine jn (.pointer (some ⟨g7, 0, none⟩)) ?_
    refine jf (st dd) hD7 0 load_str ?_
    refine jn (.pointer (some ⟨g4, 2, none⟩)) ?_
    refine jz fun X13 hX13 => ?_
    have hB0 := hB0.bel hX13
    have hD4 := hD4.bel hX13
    have hD6 := hD6.bel hX13
    have hD7 := hD7.bel hX13
    have hb := bel_next hb hX13
    clear hX13
    refine op_store1 rfl g4 2 26 _ hD4 (.string ⟨dd.toArray⟩) (by simp) (fun X u h1 h2 => exec_sts _ _ (by rfl) _ _ (by rfl) (by rfl) u X h1 h2) ?_
    intro w14s hR5 hO5 hB5
    have hb := hB5 _ _ hb (by omega)
    have hB0 := hO5 _ _ _ (by omega) hB0
    have hD6 := hO5 _ _ _ (by omega) hD6
    have hD7 := hO5 _ _ _ (by omega) hD7
    have hD4 := hR5
    clear hR5 hO5 hB5
    go_upto_region 15 with (fail)
    have HDV : Hid (aD s = dd) := by show _ = _; rw [HAD.out]; exact if_pos (by omega)
    by_cases hpe : pp = []
    · have HPE : Hid (pp = []) := hpe
      clear hpe
      refine jp ?_
      refine jn (.pointer (some ⟨g4, 1, none⟩)) ?_
      refine jf (st pp) hD4 1 load_str ?_
      refine jv (.bool true) (exec_eqsB _ _ _ _ (by rfl) pp ([] : List UInt8) (by rfl) (by rfl) true (eqs_t HPE.out)) ?_
      refine jz fun X14 hX14 => ?_
      have hB0 := hB0.bel hX14
      have hD4 := hD4.bel hX14
      have hD6 := hD6.bel hX14
      have hD7 := hD7.bel hX14
      have hb := bel_next hb hX14
      clear hX14
      go_upto_region 16 with (fail)
      refine jq 1 ?_
      refine jn (rz) ?_
      refine jz fun X15 hX15 => ?_
      have hB0 := hB0.bel hX15
      have hD4 := hD4.bel hX15
      have hD6 := hD6.bel hX15
      have hD7 := hD7.bel hX15
      have hb := bel_next hb hX15
      clear hX15
      refine osb 26 4 50 g4 26 hD4 [.bool false, .string ⟨#[]⟩, .string ⟨#[]⟩] info_rat ?_
      intro w16s hR9 hO9 hB9 hs9
      have hb := hB9 _ _ hb (by omega)
      have hB0 := hO9 _ _ _ (by omega) hB0
      have hD6 := hO9 _ _ _ (by omega) hD6
      have hD7 := hO9 _ _ _ (by omega) hD7
      have hD4 := hR9
      clear hR9 hO9 hB9
      go_upto_region 17 with (fail)
      by_cases htx : s = [48]
      · have HTX : Hid (s = [48]) := htx
        have HOK := Lib.hid (parM_zero (s := s) (by rw [HAP.out]; exact HPE.out) htx)
        clear htx
        refine jp ?_
        refine ja hD4 Tryd.underlying26 (by rfl) info_rat ?_
        refine jc (.bool true) (fun X hX hF => mo (rvQ5 false [] [] X (by decide) (by decide)) (by rw [vd_zero])) ?_
        refine jm (.bool true) ?_
        refine jz fun X16 hX16 => ?_
        have hB0 := hB0.bel hX16
        have hD4 := hD4.bel hX16
        have hD6 := hD6.bel hX16
        have hD7 := hD7.bel hX16
        have hb := bel_next hb hX16
        clear hX16
        go_upto_region 18 with (fail)
        refine jp ?_
        refine jm (.bool true) ?_
        refine jm (.bool false) ?_
        refine jm (.bool false) ?_
        refine ja hD4 Tryd.underlying26 (by rfl) info_rat ?_
        refine jc (st ([48] : List UInt8)) (fun X hX hF => mo (textS false [] [] rq_zero X tz_nil) (by rw [HT0.out])) ?_
        refine jm (st s) ?_
        refine jv (.bool false) (exec_nesB _ _ _ _ (by rfl) ([48] : List UInt8) s (by rfl) (by rfl) false (nes_f HTX.out.symm)) ?_
        refine jm (.bool false) ?_
        refine jz fun X17 hX17 => ?_
        have hB0 := hB0.bel hX17
        have hD4 := hD4.bel hX17
        have hD6 := hD6.bel hX17
        have hD7 := hD7.bel hX17
        have hb := bel_next hb hX17
        clear hX17
        go_upto_region 20 with (fail)
        refine jq 2 ?_
        refine ja hD4 Tryd.underlying26 (by rfl) info_rat ?_
        refine jn (.agg #[.bool false, .string ⟨#[]⟩, .string ⟨#[]⟩, .int .i64 0]) ?_
        refine jz fun X18 hX18 => ?_
        have hB0 := hB0.bel hX18
        have hD4 := hD4.bel hX18
        have hD6 := hD6.bel hX18
        have hD7 := hD7.bel hX18
        have hb := bel_next hb hX18
        clear hX18
        refine osb 32 2 63 w.heap.size 32 hB0 [.bool false, .string ⟨#[]⟩, .string ⟨#[]⟩, .int .i64 0] info_made5 ?_
        intro w9 hR9 hO9 hB9 hs9
        have hb9 := hB9 _ _ hb (by omega)
        clear hO9 hB9
        go_wp2
        refine post_cell rfl rfl (by rfl) Tryd.underlying32 rfl hR9 info_made5 ⟨by rw [HOK.out], hb9⟩
      · have HTX : Hid (s ≠ [48]) := htx
        have HBAD := Lib.hid (parM_zbad (s := s) (by rw [HAP.out]; exact HPE.out) htx)
        clear htx
        refine jp ?_
        refine ja hD4 Tryd.underlying26 (by rfl) info_rat ?_
        refine jc (.bool true) (fun X hX hF => mo (rvQ5 false [] [] X (by decide) (by decide)) (by rw [vd_zero])) ?_
        refine jm (.bool true) ?_
        refine jz fun X16 hX16 => ?_
        have hB0 := hB0.bel hX16
        have hD4 := hD4.bel hX16
        have hD6 := hD6.bel hX16
        have hD7 := hD7.bel hX16
        have hb := bel_next hb hX16
        clear hX16
        go_upto_region 18 with (fail)
        refine jp ?_
        refine jm (.bool true) ?_
        refine jm (.bool false) ?_
        refine jm (.bool false) ?_
        refine ja hD4 Tryd.underlying26 (by rfl) info_rat ?_
        refine jc (st ([48] : List UInt8)) (fun X hX hF => mo (textS false [] [] rq_zero X tz_nil) (by rw [HT0.out])) ?_
        refine jm (st s) ?_
        refine jv (.bool true) (exec_nesB _ _ _ _ (by rfl) ([48] : List UInt8) s (by rfl) (by rfl) true (nes_t (fun h9 => HTX.out h9.symm))) ?_
        refine jm (.bool true) ?_
        refine jz fun X17 hX17 => ?_
        have hB0 := hB0.bel hX17
        have hD4 := hD4.bel hX17
        have hD6 := hD6.bel hX17
        have hD7 := hD7.bel hX17
        have hb := bel_next hb hX17
        clear hX17
        go_upto_region 19 with (fail)
        refine jq 1 ?_
        refine jn (.agg #[.bool false, .string ⟨#[]⟩, .string ⟨#[]⟩, .int .i64 27]) ?_
        refine jz fun X18 hX18 => ?_
        have hB0 := hB0.bel hX18
        have hD4 := hD4.bel hX18
        have hD6 := hD6.bel hX18
        have hD7 := hD7.bel hX18
        have hb := bel_next hb hX18
        clear hX18
        refine osb 32 2 61 w.heap.size 32 hB0 [.bool false, .string ⟨#[]⟩, .string ⟨#[]⟩, .int .i64 27] info_made5 ?_
        intro w9 hR9 hO9 hB9 hs9
        have hb9 := hB9 _ _ hb (by omega)
        clear hO9 hB9
        go_wp2
        refine post_cell rfl rfl (by rfl) Tryd.underlying32 rfl hR9 info_made5 ⟨by rw [HBAD.out], hb9⟩
    · have HPE : Hid (pp ≠ []) := hpe
      clear hpe
      refine jp ?_
      refine jn (.pointer (some ⟨g4, 1, none⟩)) ?_
      refine jf (st pp) hD4 1 load_str ?_
      refine jv (.bool false) (exec_eqsB _ _ _ _ (by rfl) pp ([] : List UInt8) (by rfl) (by rfl) false (eqs_f HPE.out)) ?_
      refine jz fun X14 hX14 => ?_
      have hB0 := hB0.bel hX14
      have hD4 := hD4.bel hX14
      have hD6 := hD6.bel hX14
      have hD7 := hD7.bel hX14
      have hb := bel_next hb hX14
      clear hX14
      rcases hv : vd true pp dd with _ | _
      · have HV := Lib.hid hv
        have HBAD := Lib.hid (parM_bad (s := s) (by rw [HAP.out]; exact HPE.out) (.inl (by rw [(show ngS s = true from HNG.out), HAP.out, HDV.out]; exact hv)))
        clear hv
        go_upto_region 17 with (fail)
        refine jp ?_
        refine ja hD4 Tryd.underlying26 (by rfl) info_rat ?_
        refine jc (.bool false) (fun X hX hF => mo (rvQ5 true pp dd X (by omega) (by first | omega | decide)) (by rw [HV.out])) ?_
        refine jm (.bool false) ?_
        refine jz fun X15 hX15 => ?_
        have hB0 := hB0.bel hX15
        have hD4 := hD4.bel hX15
        have hD6 := hD6.bel hX15
        have hD7 := hD7.bel hX15
        have hb := bel_next hb hX15
        clear hX15
        go_upto_region 18 with (fail)
        refine jp ?_
        refine jm (.bool false) ?_
        refine jm (.bool true) ?_
        refine jm (.bool true) ?_
        refine js ?_
        refine js ?_
        refine js ?_
        refine js ?_
        refine jm (.bool true) ?_
        refine jz fun X16 hX16 => ?_
        have hB0 := hB0.bel hX16
        have hD4 := hD4.bel hX16
        have hD6 := hD6.bel hX16
        have hD7 := hD7.bel hX16
        have hb := bel_next hb hX16
        clear hX16
        go_upto_region 19 with (fail)
        refine jq 1 ?_
        refine jn (.agg #[.bool false, .string ⟨#[]⟩, .string ⟨#[]⟩, .int .i64 27]) ?_
        refine jz fun X17 hX17 => ?_
        have hB0 := hB0.bel hX17
        have hD4 := hD4.bel hX17
        have hD6 := hD6.bel hX17
        have hD7 := hD7.bel hX17
        have hb := bel_next hb hX17
        clear hX17
        refine osb 32 2 61 w.heap.size 32 hB0 [.bool false, .string ⟨#[]⟩, .string ⟨#[]⟩, .int .i64 27] info_made5 ?_
        intro w9 hR9 hO9 hB9 hs9
        have hb9 := hB9 _ _ hb (by omega)
        clear hO9 hB9
        go_wp2
        refine post_cell rfl rfl (by rfl) Tryd.underlying32 rfl hR9 info_made5 ⟨by rw [HBAD.out], hb9⟩
      · have HV := Lib.hid hv
        clear hv
        by_cases htx : rtx (rq true pp dd) = s
        · have HTX := Lib.hid htx
          have HOK := Lib.hid (parM_ok (s := s) (by rw [(show ngS s = true from HNG.out), HAP.out, HDV.out]; exact HV.out) (by rw [(show ngS s = true from HNG.out), HAP.out, HDV.out]; exact htx))
          rw [(show ngS s = true from HNG.out), HAP.out, HDV.out] at HOK
          clear htx
          go_upto_region 17 with (fail)
          refine jp ?_
          refine ja hD4 Tryd.underlying26 (by rfl) info_rat ?_
          refine jc (.bool true) (fun X hX hF => mo (rvQ5 true pp dd X (by omega) (by first | omega | decide)) (by rw [HV.out])) ?_
          refine jm (.bool true) ?_
          refine jz fun X15 hX15 => ?_
          have hB0 := hB0.bel hX15
          have hD4 := hD4.bel hX15
          have hD6 := hD6.bel hX15
          have hD7 := hD7.bel hX15
          have hb := bel_next hb hX15
          clear hX15
          go_upto_region 18 with (fail)
          refine jp ?_
          refine jm (.bool true) ?_
          refine jm (.bool false) ?_
          refine jm (.bool false) ?_
          refine ja hD4 Tryd.underlying26 (by rfl) info_rat ?_
          refine jc (st (rtx (rq true pp dd))) (fun X hX hF => textS true pp dd rfl X ⟨by omega, by omega⟩) ?_
          refine jm (st s) ?_
          refine jv (.bool false) (exec_nesB _ _ _ _ (by rfl) (rtx (rq true pp dd)) s (by rfl) (by rfl) false (nes_f HTX.out)) ?_
          refine jm (.bool false) ?_
          refine jz fun X16 hX16 => ?_
          have hB0 := hB0.bel hX16
          have hD4 := hD4.bel hX16
          have hD6 := hD6.bel hX16
          have hD7 := hD7.bel hX16
          have hb := bel_next hb hX16
          clear hX16
          go_upto_region 20 with (fail)
          refine jq 2 ?_
          refine ja hD4 Tryd.underlying26 (by rfl) info_rat ?_
          refine jn (.agg #[.bool true, st pp, st dd, .int .i64 0]) ?_
          refine jz fun X17 hX17 => ?_
          have hB0 := hB0.bel hX17
          have hD4 := hD4.bel hX17
          have hD6 := hD6.bel hX17
          have hD7 := hD7.bel hX17
          have hb := bel_next hb hX17
          clear hX17
          refine osb 32 2 63 w.heap.size 32 hB0 [.bool true, .string ⟨pp.toArray⟩, .string ⟨dd.toArray⟩, .int .i64 0] info_made5 ?_
          intro w9 hR9 hO9 hB9 hs9
          have hb9 := hB9 _ _ hb (by omega)
          clear hO9 hB9
          go_wp2
          refine post_cell rfl rfl (by rfl) Tryd.underlying32 rfl hR9 info_made5 ⟨by rw [HOK.out], hb9⟩
        · have HTX : Hid (rtx (rq true pp dd) ≠ s) := htx
          have HBAD := Lib.hid (parM_bad (s := s) (by rw [HAP.out]; exact HPE.out) (.inr (by rw [(show ngS s = true from HNG.out), HAP.out, HDV.out]; exact htx)))
          clear htx
          go_upto_region 17 with (fail)
          refine jp ?_
          refine ja hD4 Tryd.underlying26 (by rfl) info_rat ?_
          refine jc (.bool true) (fun X hX hF => mo (rvQ5 true pp dd X (by omega) (by first | omega | decide)) (by rw [HV.out])) ?_
          refine jm (.bool true) ?_
          refine jz fun X15 hX15 => ?_
          have hB0 := hB0.bel hX15
          have hD4 := hD4.bel hX15
          have hD6 := hD6.bel hX15
          have hD7 := hD7.bel hX15
          have hb := bel_next hb hX15
          clear hX15
          go_upto_region 18 with (fail)
          refine jp ?_
          refine jm (.bool true) ?_
          refine jm (.bool false) ?_
          refine jm (.bool false) ?_
          refine ja hD4 Tryd.underlying26 (by rfl) info_rat ?_
          refine jc (st (rtx (rq true pp dd))) (fun X hX hF => textS true pp dd rfl X ⟨by omega, by omega⟩) ?_
          refine jm (st s) ?_
          refine jv (.bool true) (exec_nesB _ _ _ _ (by rfl) (rtx (rq true pp dd)) s (by rfl) (by rfl) true (nes_t HTX.out)) ?_
          refine jm (.bool true) ?_
          refine jz fun X16 hX16 => ?_
          have hB0 := hB0.bel hX16
          have hD4 := hD4.bel hX16
          have hD6 := hD6.bel hX16
          have hD7 := hD7.bel hX16
          have hb := bel_next hb hX16
          clear hX16
          go_upto_region 19 with (fail)
          refine jq 1 ?_
          refine jn (.agg #[.bool false, .string ⟨#[]⟩, .string ⟨#[]⟩, .int .i64 27]) ?_
          refine jz fun X17 hX17 => ?_
          have hB0 := hB0.bel hX17
          have hD4 := hD4.bel hX17
          have hD6 := hD6.bel hX17
          have hD7 := hD7.bel hX17
          have hb := bel_next hb hX17
          clear hX17
          refine osb 32 2 61 w.heap.size 32 hB0 [.bool false, .string ⟨#[]⟩, .string ⟨#[]⟩, .int .i64 27] info_made5 ?_
          intro w9 hR9 hO9 hB9 hs9
          have hb9 := hB9 _ _ hb (by omega)
          clear hO9 hB9
          go_wp2
          refine post_cell rfl rfl (by rfl) Tryd.underlying32 rfl hR9 info_made5 ⟨by rw [HBAD.out], hb9⟩
  · refine jp ?_
    refine jm (.int .i64 (at9 : Int)) ?_
    refine jm (st r) ?_
    refine jv (.int .i64 (r.length : Int)) (exec_lens Tryd.underlying9 _ (by rfl) r (by rfl) _ rfl) ?_
    refine jv (.bool false) (exec_lss _ _ _ _ (by rfl) .i64 (at9 : Int) (r.length : Int) (by rfl) (by rfl) false (decide_eq_false (by omega))) ?_
    refine jz fun X11 hX11 => ?_
    have hB0 := hB0.bel hX11
    have hD4 := hD4.bel hX11
    have hD6 := hD6.bel hX11
    have hb := bel_next hb hX11
    clear hX11
    have HDV : Hid (aD s = ([1] : List UInt8)) := by show _ = _; rw [HAD.out]; exact if_neg (by omega)
    by_cases hpe : pp = []
    · have HPE : Hid (pp = []) := hpe
      clear hpe
      go_upto_region 15 with (fail)
      refine jp ?_
      refine jn (.pointer (some ⟨g4, 1, none⟩)) ?_
      refine jf (st pp) hD4 1 load_str ?_
      refine jv (.bool true) (exec_eqsB _ _ _ _ (by rfl) pp ([] : List UInt8) (by rfl) (by rfl) true (eqs_t HPE.out)) ?_
      refine jz fun X12 hX12 => ?_
      have hB0 := hB0.bel hX12
      have hD4 := hD4.bel hX12
      have hD6 := hD6.bel hX12
      have hb := bel_next hb hX12
      clear hX12
      go_upto_region 16 with (fail)
      refine jq 1 ?_
      refine jn (rz) ?_
      refine jz fun X13 hX13 => ?_
      have hB0 := hB0.bel hX13
      have hD4 := hD4.bel hX13
      have hD6 := hD6.bel hX13
      have hb := bel_next hb hX13
      clear hX13
      refine osb 26 4 50 g4 26 hD4 [.bool false, .string ⟨#[]⟩, .string ⟨#[]⟩] info_rat ?_
      intro w16s hR9 hO9 hB9 hs9
      have hb := hB9 _ _ hb (by omega)
      have hB0 := hO9 _ _ _ (by omega) hB0
      have hD6 := hO9 _ _ _ (by omega) hD6
      have hD4 := hR9
      clear hR9 hO9 hB9
      go_upto_region 17 with (fail)
      by_cases htx : s = [48]
      · have HTX : Hid (s = [48]) := htx
        have HOK := Lib.hid (parM_zero (s := s) (by rw [HAP.out]; exact HPE.out) htx)
        clear htx
        refine jp ?_
        refine ja hD4 Tryd.underlying26 (by rfl) info_rat ?_
        refine jc (.bool true) (fun X hX hF => mo (rvQ5 false [] [] X (by decide) (by decide)) (by rw [vd_zero])) ?_
        refine jm (.bool true) ?_
        refine jz fun X14 hX14 => ?_
        have hB0 := hB0.bel hX14
        have hD4 := hD4.bel hX14
        have hD6 := hD6.bel hX14
        have hb := bel_next hb hX14
        clear hX14
        go_upto_region 18 with (fail)
        refine jp ?_
        refine jm (.bool true) ?_
        refine jm (.bool false) ?_
        refine jm (.bool false) ?_
        refine ja hD4 Tryd.underlying26 (by rfl) info_rat ?_
        refine jc (st ([48] : List UInt8)) (fun X hX hF => mo (textS false [] [] rq_zero X tz_nil) (by rw [HT0.out])) ?_
        refine jm (st s) ?_
        refine jv (.bool false) (exec_nesB _ _ _ _ (by rfl) ([48] : List UInt8) s (by rfl) (by rfl) false (nes_f HTX.out.symm)) ?_
        refine jm (.bool false) ?_
        refine jz fun X15 hX15 => ?_
        have hB0 := hB0.bel hX15
        have hD4 := hD4.bel hX15
        have hD6 := hD6.bel hX15
        have hb := bel_next hb hX15
        clear hX15
        go_upto_region 20 with (fail)
        refine jq 2 ?_
        refine ja hD4 Tryd.underlying26 (by rfl) info_rat ?_
        refine jn (.agg #[.bool false, .string ⟨#[]⟩, .string ⟨#[]⟩, .int .i64 0]) ?_
        refine jz fun X16 hX16 => ?_
        have hB0 := hB0.bel hX16
        have hD4 := hD4.bel hX16
        have hD6 := hD6.bel hX16
        have hb := bel_next hb hX16
        clear hX16
        refine osb 32 2 63 w.heap.size 32 hB0 [.bool false, .string ⟨#[]⟩, .string ⟨#[]⟩, .int .i64 0] info_made5 ?_
        intro w9 hR9 hO9 hB9 hs9
        have hb9 := hB9 _ _ hb (by omega)
        clear hO9 hB9
        go_wp2
        refine post_cell rfl rfl (by rfl) Tryd.underlying32 rfl hR9 info_made5 ⟨by rw [HOK.out], hb9⟩
      · have HTX : Hid (s ≠ [48]) := htx
        have HBAD := Lib.hid (parM_zbad (s := s) (by rw [HAP.out]; exact HPE.out) htx)
        clear htx
        refine jp ?_
        refine ja hD4 Tryd.underlying26 (by rfl) info_rat ?_
        refine jc (.bool true) (fun X hX hF => mo (rvQ5 false [] [] X (by decide) (by decide)) (by rw [vd_zero])) ?_
        refine jm (.bool true) ?_
        refine jz fun X14 hX14 => ?_
        have hB0 := hB0.bel hX14
        have hD4 := hD4.bel hX14
        have hD6 := hD6.bel hX14
        have hb := bel_next hb hX14
        clear hX14
        go_upto_region 18 with (fail)
        refine jp ?_
        refine jm (.bool true) ?_
        refine jm (.bool false) ?_
        refine jm (.bool false) ?_
        refine ja hD4 Tryd.underlying26 (by rfl) info_rat ?_
        refine jc (st ([48] : List UInt8)) (fun X hX hF => mo (textS false [] [] rq_zero X tz_nil) (by rw [HT0.out])) ?_
        refine jm (st s) ?_
        refine jv (.bool true) (exec_nesB _ _ _ _ (by rfl) ([48] : List UInt8) s (by rfl) (by rfl) true (nes_t (fun h9 => HTX.out h9.symm))) ?_
        refine jm (.bool true) ?_
        refine jz fun X15 hX15 => ?_
        have hB0 := hB0.bel hX15
        have hD4 := hD4.bel hX15
        have hD6 := hD6.bel hX15
        have hb := bel_next hb hX15
        clear hX15
        go_upto_region 19 with (fail)
        refine jq 1 ?_
        refine jn (.agg #[.bool false, .string ⟨#[]⟩, .string ⟨#[]⟩, .int .i64 27]) ?_
        refine jz fun X16 hX16 => ?_
        have hB0 := hB0.bel hX16
        have hD4 := hD4.bel hX16
        have hD6 := hD6.bel hX16
        have hb := bel_next hb hX16
        clear hX16
        refine osb 32 2 61 w.heap.size 32 hB0 [.bool false, .string ⟨#[]⟩, .string ⟨#[]⟩, .int .i64 27] info_made5 ?_
        intro w9 hR9 hO9 hB9 hs9
        have hb9 := hB9 _ _ hb (by omega)
        clear hO9 hB9
        go_wp2
        refine post_cell rfl rfl (by rfl) Tryd.underlying32 rfl hR9 info_made5 ⟨by rw [HBAD.out], hb9⟩
    · have HPE : Hid (pp ≠ []) := hpe
      clear hpe
      go_upto_region 15 with (fail)
      refine jp ?_
      refine jn (.pointer (some ⟨g4, 1, none⟩)) ?_
      refine jf (st pp) hD4 1 load_str ?_
      refine jv (.bool false) (exec_eqsB _ _ _ _ (by rfl) pp ([] : List UInt8) (by rfl) (by rfl) false (eqs_f HPE.out)) ?_
      refine jz fun X12 hX12 => ?_
      have hB0 := hB0.bel hX12
      have hD4 := hD4.bel hX12
      have hD6 := hD6.bel hX12
      have hb := bel_next hb hX12
      clear hX12
      rcases hv : vd true pp ([1] : List UInt8) with _ | _
      · have HV := Lib.hid hv
        have HBAD := Lib.hid (parM_bad (s := s) (by rw [HAP.out]; exact HPE.out) (.inl (by rw [(show ngS s = true from HNG.out), HAP.out, HDV.out]; exact hv)))
        clear hv
        go_upto_region 17 with (fail)
        refine jp ?_
        refine ja hD4 Tryd.underlying26 (by rfl) info_rat ?_
        refine jc (.bool false) (fun X hX hF => mo (rvQ5 true pp ([1] : List UInt8) X (by omega) (by first | omega | decide)) (by rw [HV.out])) ?_
        refine jm (.bool false) ?_
        refine jz fun X13 hX13 => ?_
        have hB0 := hB0.bel hX13
        have hD4 := hD4.bel hX13
        have hD6 := hD6.bel hX13
        have hb := bel_next hb hX13
        clear hX13
        go_upto_region 18 with (fail)
        refine jp ?_
        refine jm (.bool false) ?_
        refine jm (.bool true) ?_
        refine jm (.bool true) ?_
        refine js ?_
        refine js ?_
        refine js ?_
        refine js ?_
        refine jm (.bool true) ?_
        refine jz fun X14 hX14 => ?_
        have hB0 := hB0.bel hX14
        have hD4 := hD4.bel hX14
        have hD6 := hD6.bel hX14
        have hb := bel_next hb hX14
        clear hX14
        go_upto_region 19 with (fail)
        refine jq 1 ?_
        refine jn (.agg #[.bool false, .string ⟨#[]⟩, .string ⟨#[]⟩, .int .i64 27]) ?_
        refine jz fun X15 hX15 => ?_
        have hB0 := hB0.bel hX15
        have hD4 := hD4.bel hX15
        have hD6 := hD6.bel hX15
        have hb := bel_next hb hX15
        clear hX15
        refine osb 32 2 61 w.heap.size 32 hB0 [.bool false, .string ⟨#[]⟩, .string ⟨#[]⟩, .int .i64 27] info_made5 ?_
        intro w9 hR9 hO9 hB9 hs9
        have hb9 := hB9 _ _ hb (by omega)
        clear hO9 hB9
        go_wp2
        refine post_cell rfl rfl (by rfl) Tryd.underlying32 rfl hR9 info_made5 ⟨by rw [HBAD.out], hb9⟩
      · have HV := Lib.hid hv
        clear hv
        by_cases htx : rtx (rq true pp ([1] : List UInt8)) = s
        · have HTX := Lib.hid htx
          have HOK := Lib.hid (parM_ok (s := s) (by rw [(show ngS s = true from HNG.out), HAP.out, HDV.out]; exact HV.out) (by rw [(show ngS s = true from HNG.out), HAP.out, HDV.out]; exact htx))
          rw [(show ngS s = true from HNG.out), HAP.out, HDV.out] at HOK
          clear htx
          go_upto_region 17 with (fail)
          refine jp ?_
          refine ja hD4 Tryd.underlying26 (by rfl) info_rat ?_
          refine jc (.bool true) (fun X hX hF => mo (rvQ5 true pp ([1] : List UInt8) X (by omega) (by first | omega | decide)) (by rw [HV.out])) ?_
          refine jm (.bool true) ?_
          refine jz fun X13 hX13 => ?_
          have hB0 := hB0.bel hX13
          have hD4 := hD4.bel hX13
          have hD6 := hD6.bel hX13
          have hb := bel_next hb hX13
          clear hX13
          go_upto_region 18 with (fail)
          refine jp ?_
          refine jm (.bool true) ?_
          refine jm (.bool false) ?_
          refine jm (.bool false) ?_
          refine ja hD4 Tryd.underlying26 (by rfl) info_rat ?_
          refine jc (st (rtx (rq true pp ([1] : List UInt8)))) (fun X hX hF => textS true pp ([1] : List UInt8) rfl X ⟨by omega, by decide⟩) ?_
          refine jm (st s) ?_
          refine jv (.bool false) (exec_nesB _ _ _ _ (by rfl) (rtx (rq true pp ([1] : List UInt8))) s (by rfl) (by rfl) false (nes_f HTX.out)) ?_
          refine jm (.bool false) ?_
          refine jz fun X14 hX14 => ?_
          have hB0 := hB0.bel hX14
          have hD4 := hD4.bel hX14
          have hD6 := hD6.bel hX14
          have hb := bel_next hb hX14
          clear hX14
          go_upto_region 20 with (fail)
          refine jq 2 ?_
          refine ja hD4 Tryd.underlying26 (by rfl) info_rat ?_
          refine jn (.agg #[.bool true, st pp, st ([1] : List UInt8), .int .i64 0]) ?_
          refine jz fun X15 hX15 => ?_
          have hB0 := hB0.bel hX15
          have hD4 := hD4.bel hX15
          have hD6 := hD6.bel hX15
          have hb := bel_next hb hX15
          clear hX15
          refine osb 32 2 63 w.heap.size 32 hB0 [.bool true, .string ⟨pp.toArray⟩, .string ⟨([1] : List UInt8).toArray⟩, .int .i64 0] info_made5 ?_
          intro w9 hR9 hO9 hB9 hs9
          have hb9 := hB9 _ _ hb (by omega)
          clear hO9 hB9
          go_wp2
          refine post_cell rfl rfl (by rfl) Tryd.underlying32 rfl hR9 info_made5 ⟨by rw [HOK.out], hb9⟩
        · have HTX : Hid (rtx (rq true pp ([1] : List UInt8)) ≠ s) := htx
          have HBAD := Lib.hid (parM_bad (s := s) (by rw [HAP.out]; exact HPE.out) (.inr (by rw [(show ngS s = true from HNG.out), HAP.out, HDV.out]; exact htx)))
          clear htx
          go_upto_region 17 with (fail)
          refine jp ?_
          refine ja hD4 Tryd.underlying26 (by rfl) info_rat ?_
          refine jc (.bool true) (fun X hX hF => mo (rvQ5 true pp ([1] : List UInt8) X (by omega) (by first | omega | decide)) (by rw [HV.out])) ?_
          refine jm (.bool true) ?_
          refine jz fun X13 hX13 => ?_
          have hB0 := hB0.bel hX13
          have hD4 := hD4.bel hX13
          have hD6 := hD6.bel hX13
          have hb := bel_next hb hX13
          clear hX13
          go_upto_region 18 with (fail)
          refine jp ?_
          refine jm (.bool true) ?_
          refine jm (.bool false) ?_
          refine jm (.bool false) ?_
          refine ja hD4 Tryd.underlying26 (by rfl) info_rat ?_
          refine jc (st (rtx (rq true pp ([1] : List UInt8)))) (fun X hX hF => textS true pp ([1] : List UInt8) rfl X ⟨by omega, by decide⟩) ?_
          refine jm (st s) ?_
          refine jv (.bool true) (exec_nesB _ _ _ _ (by rfl) (rtx (rq true pp ([1] : List UInt8))) s (by rfl) (by rfl) true (nes_t HTX.out)) ?_
          refine jm (.bool true) ?_
          refine jz fun X14 hX14 => ?_
          have hB0 := hB0.bel hX14
          have hD4 := hD4.bel hX14
          have hD6 := hD6.bel hX14
          have hb := bel_next hb hX14
          clear hX14
          go_upto_region 19 with (fail)
          refine jq 1 ?_
          refine jn (.agg #[.bool false, .string ⟨#[]⟩, .string ⟨#[]⟩, .int .i64 27]) ?_
          refine jz fun X15 hX15 => ?_
          have hB0 := hB0.bel hX15
          have hD4 := hD4.bel hX15
          have hD6 := hD6.bel hX15
          have hb := bel_next hb hX15
          clear hX15
          refine osb 32 2 61 w.heap.size 32 hB0 [.bool false, .string ⟨#[]⟩, .string ⟨#[]⟩, .int .i64 27] info_made5 ?_
          intro w9 hR9 hO9 hB9 hs9
          have hb9 := hB9 _ _ hb (by omega)
          clear hO9 hB9
          go_wp2
          refine post_cell rfl rfl (by rfl) Tryd.underlying32 rfl hR9 info_made5 ⟨by rw [HBAD.out], hb9⟩

end Go.Proofs.YtchhlgcakjjncaaDoor
