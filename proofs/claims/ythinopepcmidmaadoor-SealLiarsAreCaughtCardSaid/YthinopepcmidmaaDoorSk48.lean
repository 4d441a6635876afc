/-
  seal: Contradict.
-/
import Derived.Test.YthinopepcmidmaaDoorSi48
set_option linter.unusedSimpArgs false
set_option linter.unusedVariables false
set_option maxRecDepth 100000
set_option maxHeartbeats 1600000
namespace Go.Proofs.YthinopepcmidmaaDoor
open Go.RowKit
theorem frm_sq {r : List (List UInt8)} {s : Sl} (h : frm r s = true) : 0 ≤ s.sq ∧ s.sq ≤ 3999 := by
  unfold frm at h
  rw [decide_eq_true_eq] at h
  exact ⟨h.2.2.1, h.2.2.2.1⟩
theorem ctO_0 {r : List (List UInt8)} {a b : Sl} (h : rgt mk48 r a = false ∨ rgt mk48 r b = false ∨ a.st ≠ b.st ∨ a = b) : ctO mk48 nm48 r a b = 0 := if_pos h
theorem ctO_n {r : List (List UInt8)} {a b : Sl} (h1 : rgt mk48 r a = true) (h2 : rgt mk48 r b = true) (h3 : a.st = b.st) (h4 : ¬ a = b) : ctO mk48 nm48 r a b = if a.sq = b.sq then 1 else if a.sq + 1 = b.sq ∧ b.pv ≠ nm48 a then 2 else if b.dy < a.dy then 3 else 0 := by
  unfold ctO
  rw [if_neg]
  rintro (h9 | h9 | h9 | h9)
  · rw [h1] at h9; cases h9
  · rw [h2] at h9; cases h9
  · exact h9 h3
  · exact h4 h9
theorem sct1 (A : Option Addr) (n c : Nat) (r : List (List UInt8)) (w : World) (hr : Rd w 1 (.slice A n c) n (r.map tx)) (hln : r.length = n) (hn1 : n ≤ 9223372036854775807) (s s2 : Sl) (hs : SlOk s) (hs2 : SlOk s2) (hK : KK w) (h : s2.sq < s.sq) : Calls Tryd.prog 26 #[.agg #[.slice A n c], .agg (slc s).toArray, .agg (slc s2).toArray] w fun e w' => e = .returned (.int .i64 (ctr mk48 nm48 r s s2)) ∧ Since w w' := by
  have HCT : Hid (ctr mk48 nm48 r s s2 = ctO mk48 nm48 r s2 s) := if_pos h
  have HRX : Hid (∀ X, Since w X → Rd X 1 (.slice A n c) n (r.map tx)) := fun X h => hr.below h
  have HKK : Hid (∀ X, Since w X → KK X) := fun X h => hK.below h hK.1
  have HLN := Lib.hid hln
  clear hr hln hK
  go_enter Tryd.func26, Tryd.ntmps26
  go_upto_region 1 with (fail)
  obtain ⟨W0, hW0, hB0, hB1, hB2, hb⟩ := start3 w 24 28 28 [.slice A n c] (slc s) (slc s2)
  rw [← hW0]
  clear hW0
  refine jp ?_
  refine jn (.pointer (some ⟨(w.heap.size + 1), 1, none⟩)) ?_
  refine jf (.int .i64 s.sq) hB1 1 load_int ?_
  refine jn (.pointer (some ⟨(w.heap.size + 2), 1, none⟩)) ?_
  refine jf (.int .i64 s2.sq) hB2 1 load_int ?_
  refine jv (.bool true) (exec_gtr _ _ _ _ (by rfl) .i64 s.sq s2.sq (by rfl) (by rfl) true (decide_eq_true (by omega))) ?_
  refine jz fun X1 hX1 => ?_
  have hB0 := hB0.bel hX1
  have hB1 := hB1.bel hX1
  have hB2 := hB2.bel hX1
  have hb := bel_next hb hX1
  clear hX1
  go_upto_region 2 with (fail)
  refine jq 2 ?_
  refine jg (.agg (slc s2).toArray) (fun X hX hF => exec_lda 28 _ (by rfl) (w.heap.size + 2) (by rfl) Tryd.underlying28 rfl X (hB2.bel hX) (info_slc hs2)) ?_
  refine jg (.agg (slc s).toArray) (fun X hX hF => exec_lda 28 _ (by rfl) (w.heap.size + 1) (by rfl) Tryd.underlying28 rfl X (hB1.bel hX) (info_slc hs)) ?_
  refine jz fun X2 hX2 => ?_
  have hB0 := hB0.bel hX2
  have hB1 := hB1.bel hX2
  have hB2 := hB2.bel hX2
  have hb := bel_next hb hX2
  clear hX2
  refine op_store_blk rfl 28 (.tmp 4) (.tmp 12) rfl (w.heap.size + 1) 28 _ hB1 rfl (slc s2) rfl ((SlOk.len hs2).trans (SlOk.len hs).symm) slc_one (info_slc hs2) ?_
  intro w4 hR4 hO4 hB4 hs4
  have hB0 := hO4 _ _ _ (by omega) hB0
  have hB2 := hO4 _ _ _ (by omega) hB2
  have hb := hB4 _ _ hb (by omega)
  have hB1 := hR4
  clear hO4 hB4 hR4
  refine op_store_blk rfl 28 (.tmp 5) (.tmp 13) rfl (w.heap.size + 2) 28 _ hB2 rfl (slc s) rfl ((SlOk.len hs).trans (SlOk.len hs2).symm) slc_one (info_slc hs) ?_
  intro w5 hR5 hO5 hB5 hs5
  have hB0 := hO5 _ _ _ (by omega) hB0
  have hB1 := hO5 _ _ _ (by omega) hB1
  have hb := hB5 _ _ hb (by omega)
  have hB2 := hR5
  clear hO5 hB5 hR5
  cases h1 : rgt mk48 r s2
  · have H1 := Lib.hid h1
    clear h1
    go_upto_region 3 with (fail)
    refine jp ?_
    refine ja hB0 Tryd.underlying24 (by rfl) info_rg ?_
    refine jg (.agg (slc s2).toArray) (fun X hX hF => exec_lda 28 _ (by rfl) (w.heap.size + 1) (by rfl) Tryd.underlying28 rfl X (hB1.bel hX) (info_slc hs2)) ?_
    refine jc (.bool false) (fun X hX hF => mo (srgC A n c r X (HRX.out X (bel_next hb hX)) HLN.out hn1 s2 hs2 (HKK.out X (bel_next hb hX))) (by rw [H1.out])) ?_
    refine jm (.bool true) ?_
    refine jm (.bool true) ?_
    refine js ?_
    refine js ?_
    refine js ?_
    refine js ?_
    refine jm (.bool true) ?_
    refine jm (.bool true) ?_
    refine js ?_
    refine js ?_
    refine js ?_
    refine js ?_
    refine js ?_
    refine jm (.bool true) ?_
    refine jm (.bool true) ?_
    refine js ?_
    refine js ?_
    refine js ?_
    refine jm (.bool true) ?_
    refine jm (.bool true) ?_
    refine jz fun X3 hX3 => ?_
    have hB0 := hB0.bel hX3
    have hB1 := hB1.bel hX3
    have hB2 := hB2.bel hX3
    have hb := bel_next hb hX3
    clear hX3
    have HE : Hid (ctr mk48 nm48 r s s2 = 0) := HCT.out.trans (ctO_0 (.inl H1.out))
    go_upto_region 4 with (fail)
    refine jp ?_
    refine jm (.int .i64 0) ?_
    refine jz fun X4 hX4 => ?_
    have hB0 := hB0.bel hX4
    have hB1 := hB1.bel hX4
    have hB2 := hB2.bel hX4
    have hb := bel_next hb hX4
    clear hX4
    go_wp2
    go_ret
    exact ⟨by rw [HE.out]; rfl, hb⟩
  · have H1 := Lib.hid h1
    clear h1
    cases h2 : rgt mk48 r s
    · have H2 := Lib.hid h2
      clear h2
      go_upto_region 3 with (fail)
      refine jp ?_
      refine ja hB0 Tryd.underlying24 (by rfl) info_rg ?_
      refine jg (.agg (slc s2).toArray) (fun X hX hF => exec_lda 28 _ (by rfl) (w.heap.size + 1) (by rfl) Tryd.underlying28 rfl X (hB1.bel hX) (info_slc hs2)) ?_
      refine jc (.bool true) (fun X hX hF => mo (srgC A n c r X (HRX.out X (bel_next hb hX)) HLN.out hn1 s2 hs2 (HKK.out X (bel_next hb hX))) (by rw [H1.out])) ?_
      refine jm (.bool false) ?_
      refine jm (.bool false) ?_
      refine ja hB0 Tryd.underlying24 (by rfl) info_rg ?_
      refine jg (.agg (slc s).toArray) (fun X hX hF => exec_lda 28 _ (by rfl) (w.heap.size + 2) (by rfl) Tryd.underlying28 rfl X (hB2.bel hX) (info_slc hs)) ?_
      refine jc (.bool false) (fun X hX hF => mo (srgC A n c r X (HRX.out X (bel_next hb hX)) HLN.out hn1 s hs (HKK.out X (bel_next hb hX))) (by rw [H2.out])) ?_
      refine jm (.bool true) ?_
      refine jm (.bool true) ?_
      refine jm (.bool true) ?_
      refine js ?_
      refine js ?_
      refine js ?_
      refine js ?_
      refine js ?_
      refine jm (.bool true) ?_
      refine jm (.bool true) ?_
      refine js ?_
      refine js ?_
      refine js ?_
      refine jm (.bool true) ?_
      refine jm (.bool true) ?_
      refine jz fun X3 hX3 => ?_
      have hB0 := hB0.bel hX3
      have hB1 := hB1.bel hX3
      have hB2 := hB2.bel hX3
      have hb := bel_next hb hX3
      clear hX3
      have HE : Hid (ctr mk48 nm48 r s s2 = 0) := HCT.out.trans (ctO_0 (.inr (.inl H2.out)))
      go_upto_region 4 with (fail)
      refine jp ?_
      refine jm (.int .i64 0) ?_
      refine jz fun X4 hX4 => ?_
      have hB0 := hB0.bel hX4
      have hB1 := hB1.bel hX4
      have hB2 := hB2.bel hX4
      have hb := bel_next hb hX4
      clear hX4
      go_wp2
      go_ret
      exact ⟨by rw [HE.out]; rfl, hb⟩
    · have H2 := Lib.hid h2
      clear h2
      have hq1 := frm_sq ((rgt_iff mk48).1 H1.out).2.1
      have hq2 := (frm_of ((rgt_iff mk48).1 H1.out).2.1).2.2
      by_cases h3 : s2.st = s.st
      · have H3 := Lib.hid h3
        clear h3
        by_cases h4 : s2 = s
        · have H4 := Lib.hid h4
          clear h4
          go_upto_region 3 with (fail)
          refine jp ?_
          refine ja hB0 Tryd.underlying24 (by rfl) info_rg ?_
          refine jg (.agg (slc s2).toArray) (fun X hX hF => exec_lda 28 _ (by rfl) (w.heap.size + 1) (by rfl) Tryd.underlying28 rfl X (hB1.bel hX) (info_slc hs2)) ?_
          refine jc (.bool true) (fun X hX hF => mo (srgC A n c r X (HRX.out X (bel_next hb hX)) HLN.out hn1 s2 hs2 (HKK.out X (bel_next hb hX))) (by rw [H1.out])) ?_
          refine jm (.bool false) ?_
          refine jm (.bool false) ?_
          refine ja hB0 Tryd.underlying24 (by rfl) info_rg ?_
          refine jg (.agg (slc s).toArray) (fun X hX hF => exec_lda 28 _ (by rfl) (w.heap.size + 2) (by rfl) Tryd.underlying28 rfl X (hB2.bel hX) (info_slc hs)) ?_
          refine jc (.bool true) (fun X hX hF => mo (srgC A n c r X (HRX.out X (bel_next hb hX)) HLN.out hn1 s hs (HKK.out X (bel_next hb hX))) (by rw [H2.out])) ?_
          refine jm (.bool false) ?_
          refine jm (.bool false) ?_
          refine jm (.bool false) ?_
          refine jn (.pointer (some ⟨(w.heap.size + 1), 0, none⟩)) ?_
          refine jf (.int .i64 s2.st) hB1 0 load_int ?_
          refine jn (.pointer (some ⟨(w.heap.size + 2), 0, none⟩)) ?_
          refine jf (.int .i64 s.st) hB2 0 load_int ?_
          refine jv (.bool false) (exec_nei _ _ _ _ (by rfl) .i64 s2.st s.st (by rfl) (by rfl) false (by rw [decide_eq_true H3.out]; rfl)) ?_
          refine jm (.bool false) ?_
          refine jm (.bool false) ?_
          refine jg (.agg (slc s2).toArray) (fun X hX hF => exec_lda 28 _ (by rfl) (w.heap.size + 1) (by rfl) Tryd.underlying28 rfl X (hB1.bel hX) (info_slc hs2)) ?_
          refine jg (.agg (slc s).toArray) (fun X hX hF => exec_lda 28 _ (by rfl) (w.heap.size + 2) (by rfl) Tryd.underlying28 rfl X (hB2.bel hX) (info_slc hs)) ?_
          refine jv (.bool true) (exec_eqsl _ _ _ (by rfl) s2 s hs2 hs (by rfl) (by rfl) _ (decide_eq_true H4.out)) ?_
          refine jm (.bool true) ?_
          refine jm (.bool true) ?_
          refine jz fun X3 hX3 => ?_
          have hB0 := hB0.bel hX3
          have hB1 := hB1.bel hX3
          have hB2 := hB2.bel hX3
          have hb := bel_next hb hX3
          clear hX3
          have HE : Hid (ctr mk48 nm48 r s s2 = 0) := HCT.out.trans (ctO_0 (.inr (.inr (.inr H4.out))))
          go_upto_region 4 with (fail)
          refine jp ?_
          refine jm (.int .i64 0) ?_
          refine jz fun X4 hX4 => ?_
          have hB0 := hB0.bel hX4
          have hB1 := hB1.bel hX4
          have hB2 := hB2.bel hX4
          have hb := bel_next hb hX4
          clear hX4
          go_wp2
          go_ret
          exact ⟨by rw [HE.out]; rfl, hb⟩
        · have H4 : Hid (¬ s2 = s) := h4
          clear h4
          go_upto_region 3 with (fail)
          refine jp ?_
          refine ja hB0 Tryd.underlying24 (by rfl) info_rg ?_
          refine jg (.agg (slc s2).toArray) (fun X hX hF => exec_lda 28 _ (by rfl) (w.heap.size + 1) (by rfl) Tryd.underlying28 rfl X (hB1.bel hX) (info_slc hs2)) ?_
          refine jc (.bool true) (fun X hX hF => mo (srgC A n c r X (HRX.out X (bel_next hb hX)) HLN.out hn1 s2 hs2 (HKK.out X (bel_next hb hX))) (by rw [H1.out])) ?_
          refine jm (.bool false) ?_
          refine jm (.bool false) ?_
          refine ja hB0 Tryd.underlying24 (by rfl) info_rg ?_
          refine jg (.agg (slc s).toArray) (fun X hX hF => exec_lda 28 _ (by rfl) (w.heap.size + 2) (by rfl) Tryd.underlying28 rfl X (hB2.bel hX) (info_slc hs)) ?_
          refine jc (.bool true) (fun X hX hF => mo (srgC A n c r X (HRX.out X (bel_next hb hX)) HLN.out hn1 s hs (HKK.out X (bel_next hb hX))) (by rw [H2.out])) ?_
          refine jm (.bool false) ?_
          refine jm (.bool false) ?_
          refine jm (.bool false) ?_
          refine jn (.pointer (some ⟨(w.heap.size + 1), 0, none⟩)) ?_
          refine jf (.int .i64 s2.st) hB1 0 load_int ?_
          refine jn (.pointer (some ⟨(w.heap.size + 2), 0, none⟩)) ?_
          refine jf (.int .i64 s.st) hB2 0 load_int ?_
          refine jv (.bool false) (exec_nei _ _ _ _ (by rfl) .i64 s2.st s.st (by rfl) (by rfl) false (by rw [decide_eq_true H3.out]; rfl)) ?_
          refine jm (.bool false) ?_
          refine jm (.bool false) ?_
          refine jg (.agg (slc s2).toArray) (fun X hX hF => exec_lda 28 _ (by rfl) (w.heap.size + 1) (by rfl) Tryd.underlying28 rfl X (hB1.bel hX) (info_slc hs2)) ?_
          refine jg (.agg (slc s).toArray) (fun X hX hF => exec_lda 28 _ (by rfl) (w.heap.size + 2) (by rfl) Tryd.underlying28 rfl X (hB2.bel hX) (info_slc hs)) ?_
          refine jv (.bool false) (exec_eqsl _ _ _ (by rfl) s2 s hs2 hs (by rfl) (by rfl) _ (decide_eq_false H4.out)) ?_
          refine jm (.bool false) ?_
          refine jm (.bool false) ?_
          refine jz fun X3 hX3 => ?_
          have hB0 := hB0.bel hX3
          have hB1 := hB1.bel hX3
          have hB2 := hB2.bel hX3
          have hb := bel_next hb hX3
          clear hX3
          by_cases h5 : s2.sq = s.sq
          · have H5 := Lib.hid h5
            clear h5
            go_upto_region 5 with (fail)
            refine jp ?_
            refine jn (.pointer (some ⟨(w.heap.size + 1), 1, none⟩)) ?_
            refine jf (.int .i64 s2.sq) hB1 1 load_int ?_
            refine jn (.pointer (some ⟨(w.heap.size + 2), 1, none⟩)) ?_
            refine jf (.int .i64 s.sq) hB2 1 load_int ?_
            refine jv (.bool true) (exec_eqi _ _ _ _ (by rfl) .i64 s2.sq s.sq (by rfl) (by rfl) true (decide_eq_true H5.out)) ?_
            refine jm (.bool true) ?_
            refine jz fun X4 hX4 => ?_
            have hB0 := hB0.bel hX4
            have hB1 := hB1.bel hX4
            have hB2 := hB2.bel hX4
            have hb := bel_next hb hX4
            clear hX4
            have HE : Hid (ctr mk48 nm48 r s s2 = 1) := HCT.out.trans ((ctO_n H1.out H2.out H3.out H4.out).trans (if_pos H5.out))
            go_upto_region 6 with (fail)
            refine jp ?_
            refine jm (.int .i64 1) ?_
            refine jz fun X5 hX5 => ?_
            have hB0 := hB0.bel hX5
            have hB1 := hB1.bel hX5
            have hB2 := hB2.bel hX5
            have hb := bel_next hb hX5
            clear hX5
            go_wp2
            go_ret
            exact ⟨by rw [HE.out]; rfl, hb⟩
          · have H5 : Hid (¬ s2.sq = s.sq) := h5
            clear h5
            go_upto_region 5 with (fail)
            refine jp ?_
            refine jn (.pointer (some ⟨(w.heap.size + 1), 1, none⟩)) ?_
            refine jf (.int .i64 s2.sq) hB1 1 load_int ?_
            refine jn (.pointer (some ⟨(w.heap.size + 2), 1, none⟩)) ?_
            refine jf (.int .i64 s.sq) hB2 1 load_int ?_
            refine jv (.bool false) (exec_eqi _ _ _ _ (by rfl) .i64 s2.sq s.sq (by rfl) (by rfl) false (decide_eq_false H5.out)) ?_
            refine jm (.bool false) ?_
            refine jz fun X4 hX4 => ?_
            have hB0 := hB0.bel hX4
            have hB1 := hB1.bel hX4
            have hB2 := hB2.bel hX4
            have hb := bel_next hb hX4
            clear hX4
            by_cases h6 : s2.sq + 1 = s.sq
            · have H6 := Lib.hid h6
              clear h6
              by_cases h7 : s.pv = nm48 s2
              · have H7 := Lib.hid h7
                clear h7
                go_upto_region 7 with (fail)
                refine jd ?_
                refine jn (.pointer (some ⟨(w.heap.size + 1), 1, none⟩)) ?_
                refine jf (.int .i64 s2.sq) hB1 1 load_int ?_
                refine jv (.int .i64 (s2.sq + 1)) (exec_add _ _ _ _ (by rfl) s2.sq 1 (s2.sq + 1) (by rfl) (by rfl) (by omega) (by omega) (by omega)) ?_
                refine jn (.pointer (some ⟨(w.heap.size + 2), 1, none⟩)) ?_
                refine jf (.int .i64 s.sq) hB2 1 load_int ?_
                refine jv (.bool true) (exec_eqi _ _ _ _ (by rfl) .i64 (s2.sq + 1) s.sq (by rfl) (by rfl) true (decide_eq_true H6.out)) ?_
                refine jm (.bool true) ?_
                refine jn (.pointer (some ⟨(w.heap.size + 2), 5, none⟩)) ?_
                refine jg (.agg (s.pv.map B8).toArray) (fun X hX hF => exec_inr 26 _ (by rfl) (w.heap.size + 2) 5 (s.pv.map B8) (by rfl) Tryd.underlying26 rfl X (hB2.bel hX) (slc_pv hs) (info_d16 hs.pv)) ?_
                refine jg (.agg (slc s2).toArray) (fun X hX hF => exec_lda 28 _ (by rfl) (w.heap.size + 1) (by rfl) Tryd.underlying28 rfl X (hB1.bel hX) (info_slc hs2)) ?_
                refine jc (.agg ((nm48 s2).map B8).toArray) (fun X hX hF => snmC s2 X hs2 (by omega) (HKK.out X (bel_next hb hX))) ?_
                refine jv (.bool false) (exec_nedg _ _ _ (by rfl) s.pv (nm48 s2) hs.pv (nm_len _) (by rfl) (by rfl) _ (nes_f H7.out)) ?_
                refine jm (.bool false) ?_
                refine jm (.bool false) ?_
                refine jz fun X5 hX5 => ?_
                have hB0 := hB0.bel hX5
                have hB1 := hB1.bel hX5
                have hB2 := hB2.bel hX5
                have hb := bel_next hb hX5
                clear hX5
                by_cases h8 : s.dy < s2.dy
                · go_upto_region 9 with (fail)
                  refine jp ?_
                  refine jn (.pointer (some ⟨(w.heap.size + 2), 2, none⟩)) ?_
                  refine jf (.int .i64 s.dy) hB2 2 load_int ?_
                  refine jn (.pointer (some ⟨(w.heap.size + 1), 2, none⟩)) ?_
                  refine jf (.int .i64 s2.dy) hB1 2 load_int ?_
                  refine jv (.bool true) (exec_lss _ _ _ _ (by rfl) .i64 s.dy s2.dy (by rfl) (by rfl) true (decide_eq_true h8)) ?_
                  refine jm (.bool true) ?_
                  refine jz fun X6 hX6 => ?_
                  have hB0 := hB0.bel hX6
                  have hB1 := hB1.bel hX6
                  have hB2 := hB2.bel hX6
                  have hb := bel_next hb hX6
                  clear hX6
                  have HE : Hid (ctr mk48 nm48 r s s2 = 3) := HCT.out.trans ((ctO_n H1.out H2.out H3.out H4.out).trans (by rw [if_neg H5.out, if_neg (fun h9 => h9.2 H7.out), if_pos h8]))
                  go_upto_region 10 with (fail)
                  refine jp ?_
                  refine jm (.int .i64 3) ?_
                  refine jz fun X7 hX7 => ?_
                  have hB0 := hB0.bel hX7
                  have hB1 := hB1.bel hX7
                  have hB2 := hB2.bel hX7
                  have hb := bel_next hb hX7
                  clear hX7
                  go_wp2
                  go_ret
                  exact ⟨by rw [HE.out]; rfl, hb⟩
                · go_upto_region 9 with (fail)
                  refine jp ?_
                  refine jn (.pointer (some ⟨(w.heap.size + 2), 2, none⟩)) ?_
                  refine jf (.int .i64 s.dy) hB2 2 load_int ?_
                  refine jn (.pointer (some ⟨(w.heap.size + 1), 2, none⟩)) ?_
                  refine jf (.int .i64 s2.dy) hB1 2 load_int ?_
                  refine jv (.bool false) (exec_lss _ _ _ _ (by rfl) .i64 s.dy s2.dy (by rfl) (by rfl) false (decide_eq_false h8)) ?_
                  refine jm (.bool false) ?_
                  refine jz fun X6 hX6 => ?_
                  have hB0 := hB0.bel hX6
                  have hB1 := hB1.bel hX6
                  have hB2 := hB2.bel hX6
                  have hb := bel_next hb hX6
                  clear hX6
                  have HE : Hid (ctr mk48 nm48 r s s2 = 0) := HCT.out.trans ((ctO_n H1.out H2.out H3.out H4.out).trans (by rw [if_neg H5.out, if_neg (fun h9 => h9.2 H7.out), if_neg h8]))
                  go_upto_region 11 with (fail)
                  refine jp ?_
                  refine jm (.int .i64 0) ?_
                  refine jz fun X7 hX7 => ?_
                  have hB0 := hB0.bel hX7
                  have hB1 := hB1.bel hX7
                  have hB2 := hB2.bel hX7
                  have hb := bel_next hb hX7
                  clear hX7
                  go_wp2
                  go_ret
                  exact ⟨by rw [HE.out]; rfl, hb⟩
              · have H7 : Hid (s.pv ≠ nm48 s2) := h7
                clear h7
                go_upto_region 7 with (fail)
                refine jd ?_
                refine jn (.pointer (some ⟨(w.heap.size + 1), 1, none⟩)) ?_
                refine jf (.int .i64 s2.sq) hB1 1 load_int ?_
                refine jv (.int .i64 (s2.sq + 1)) (exec_add _ _ _ _ (by rfl) s2.sq 1 (s2.sq + 1) (by rfl) (by rfl) (by omega) (by omega) (by omega)) ?_
                refine jn (.pointer (some ⟨(w.heap.size + 2), 1, none⟩)) ?_
                refine jf (.int .i64 s.sq) hB2 1 load_int ?_
                refine jv (.bool true) (exec_eqi _ _ _ _ (by rfl) .i64 (s2.sq + 1) s.sq (by rfl) (by rfl) true (decide_eq_true H6.out)) ?_
                refine jm (.bool true) ?_
                refine jn (.pointer (some ⟨(w.heap.size + 2), 5, none⟩)) ?_
                refine jg (.agg (s.pv.map B8).toArray) (fun X hX hF => exec_inr 26 _ (by rfl) (w.heap.size + 2) 5 (s.pv.map B8) (by rfl) Tryd.underlying26 rfl X (hB2.bel hX) (slc_pv hs) (info_d16 hs.pv)) ?_
                refine jg (.agg (slc s2).toArray) (fun X hX hF => exec_lda 28 _ (by rfl) (w.heap.size + 1) (by rfl) Tryd.underlying28 rfl X (hB1.bel hX) (info_slc hs2)) ?_
                refine jc (.agg ((nm48 s2).map B8).toArray) (fun X hX hF => snmC s2 X hs2 (by omega) (HKK.out X (bel_next hb hX))) ?_
                refine jv (.bool true) (exec_nedg _ _ _ (by rfl) s.pv (nm48 s2) hs.pv (nm_len _) (by rfl) (by rfl) _ (nes_t H7.out)) ?_
                refine jm (.bool true) ?_
                refine jm (.bool true) ?_
                refine jz fun X5 hX5 => ?_
                have hB0 := hB0.bel hX5
                have hB1 := hB1.bel hX5
                have hB2 := hB2.bel hX5
                have hb := bel_next hb hX5
                clear hX5
                have HE : Hid (ctr mk48 nm48 r s s2 = 2) := HCT.out.trans ((ctO_n H1.out H2.out H3.out H4.out).trans (by rw [if_neg H5.out, if_pos ⟨H6.out, H7.out⟩]))
                go_upto_region 8 with (fail)
                refine jp ?_
                refine jm (.int .i64 2) ?_
                refine jz fun X6 hX6 => ?_
                have hB0 := hB0.bel hX6
                have hB1 := hB1.bel hX6
                have hB2 := hB2.bel hX6
                have hb := bel_next hb hX6
                clear hX6
                go_wp2
                go_ret
                exact ⟨by rw [HE.out]; rfl, hb⟩
            · have H6 : Hid (¬ s2.sq + 1 = s.sq) := h6
              clear h6
              go_upto_region 7 with (fail)
              refine jd ?_
              refine jn (.pointer (some ⟨(w.heap.size + 1), 1, none⟩)) ?_
              refine jf (.int .i64 s2.sq) hB1 1 load_int ?_
              refine jv (.int .i64 (s2.sq + 1)) (exec_add _ _ _ _ (by rfl) s2.sq 1 (s2.sq + 1) (by rfl) (by rfl) (by omega) (by omega) (by omega)) ?_
              refine jn (.pointer (some ⟨(w.heap.size + 2), 1, none⟩)) ?_
              refine jf (.int .i64 s.sq) hB2 1 load_int ?_
              refine jv (.bool false) (exec_eqi _ _ _ _ (by rfl) .i64 (s2.sq + 1) s.sq (by rfl) (by rfl) false (decide_eq_false H6.out)) ?_
              refine jm (.bool false) ?_
              refine js ?_
              refine js ?_
              refine js ?_
              refine js ?_
              refine js ?_
              refine jm (.bool false) ?_
              refine jm (.bool false) ?_
              refine jz fun X5 hX5 => ?_
              have hB0 := hB0.bel hX5
              have hB1 := hB1.bel hX5
              have hB2 := hB2.bel hX5
              have hb := bel_next hb hX5
              clear hX5
              by_cases h8 : s.dy < s2.dy
              · go_upto_region 9 with (fail)
                refine jp ?_
                refine jn (.pointer (some ⟨(w.heap.size + 2), 2, none⟩)) ?_
                refine jf (.int .i64 s.dy) hB2 2 load_int ?_
                refine jn (.pointer (some ⟨(w.heap.size + 1), 2, none⟩)) ?_
                refine jf (.int .i64 s2.dy) hB1 2 load_int ?_
                refine jv (.bool true) (exec_lss _ _ _ _ (by rfl) .i64 s.dy s2.dy (by rfl) (by rfl) true (decide_eq_true h8)) ?_
                refine jm (.bool true) ?_
                refine jz fun X6 hX6 => ?_
                have hB0 := hB0.bel hX6
                have hB1 := hB1.bel hX6
                have hB2 := hB2.bel hX6
                have hb := bel_next hb hX6
                clear hX6
                have HE : Hid (ctr mk48 nm48 r s s2 = 3) := HCT.out.trans ((ctO_n H1.out H2.out H3.out H4.out).trans (by rw [if_neg H5.out, if_neg (fun h9 => H6.out h9.1), if_pos h8]))
                go_upto_region 10 with (fail)
                refine jp ?_
                refine jm (.int .i64 3) ?_
                refine jz fun X7 hX7 => ?_
                have hB0 := hB0.bel hX7
                have hB1 := hB1.bel hX7
                have hB2 := hB2.bel hX7
                have hb := bel_next hb hX7
                clear hX7
                go_wp2
                go_ret
                exact ⟨by rw [HE.out]; rfl, hb⟩
              · go_upto_region 9 with (fail)
                refine jp ?_
                refine jn (.pointer (some ⟨(w.heap.size + 2), 2, none⟩)) ?_
                refine jf (.int .i64 s.dy) hB2 2 load_int ?_
                refine jn (.pointer (some ⟨(w.heap.size + 1), 2, none⟩)) ?_
                refine jf (.int .i64 s2.dy) hB1 2 load_int ?_
                refine jv (.bool false) (exec_lss _ _ _ _ (by rfl) .i64 s.dy s2.dy (by rfl) (by rfl) false (decide_eq_false h8)) ?_
                refine jm (.bool false) ?_
                refine jz fun X6 hX6 => ?_
                have hB0 := hB0.bel hX6
                have hB1 := hB1.bel hX6
                have hB2 := hB2.bel hX6
                have hb := bel_next hb hX6
                clear hX6
                have HE : Hid (ctr mk48 nm48 r s s2 = 0) := HCT.out.trans ((ctO_n H1.out H2.out H3.out H4.out).trans (by rw [if_neg H5.out, if_neg (fun h9 => H6.out h9.1), if_neg h8]))
                go_upto_region 11 with (fail)
                refine jp ?_
                refine jm (.int .i64 0) ?_
                refine jz fun X7 hX7 => ?_
                have hB0 := hB0.bel hX7
                have hB1 := hB1.bel hX7
                have hB2 := hB2.bel hX7
                have hb := bel_next hb hX7
                clear hX7
                go_wp2
                go_ret
                exact ⟨by rw [HE.out]; rfl, hb⟩
      · have H3 : Hid (s2.st ≠ s.st) := h3
        clear h3
        go_upto_region 3 with (fail)
        refine jp ?_
        refine ja hB0 Tryd.underlying24 (by rfl) info_rg ?_
        refine jg (.agg (slc s2).toArray) (fun X hX hF => exec_lda 28 _ (by rfl) (w.heap.size + 1) (by rfl) Tryd.underlying28 rfl X (hB1.bel hX) (info_slc hs2)) ?_
        refine jc (.bool true) (fun X hX hF => mo (srgC A n c r X (HRX.out X (bel_next hb hX)) HLN.out hn1 s2 hs2 (HKK.out X (bel_next hb hX))) (by rw [H1.out])) ?_
        refine jm (.bool false) ?_
        refine jm (.bool false) ?_
        refine ja hB0 Tryd.underlying24 (by rfl) info_rg ?_
        refine jg (.agg (slc s).toArray) (fun X hX hF => exec_lda 28 _ (by rfl) (w.heap.size + 2) (by rfl) Tryd.underlying28 rfl X (hB2.bel hX) (info_slc hs)) ?_
        refine jc (.bool true) (fun X hX hF => mo (srgC A n c r X (HRX.out X (bel_next hb hX)) HLN.out hn1 s hs (HKK.out X (bel_next hb hX))) (by rw [H2.out])) ?_
        refine jm (.bool false) ?_
        refine jm (.bool false) ?_
        refine jm (.bool false) ?_
        refine jn (.pointer (some ⟨(w.heap.size + 1), 0, none⟩)) ?_
        refine jf (.int .i64 s2.st) hB1 0 load_int ?_
        refine jn (.pointer (some ⟨(w.heap.size + 2), 0, none⟩)) ?_
        refine jf (.int .i64 s.st) hB2 0 load_int ?_
        refine jv (.bool true) (exec_nei _ _ _ _ (by rfl) .i64 s2.st s.st (by rfl) (by rfl) true (by rw [decide_eq_false H3.out]; rfl)) ?_
        refine jm (.bool true) ?_
        refine jm (.bool true) ?_
        refine js ?_
        refine js ?_
        refine js ?_
        refine jm (.bool true) ?_
        refine jm (.bool true) ?_
        refine jz fun X3 hX3 => ?_
        have hB0 := hB0.bel hX3
        have hB1 := hB1.bel hX3
        have hB2 := hB2.bel hX3
        have hb := bel_next hb hX3
        clear hX3
        have HE : Hid (ctr mk48 nm48 r s s2 = 0) := HCT.out.trans (ctO_0 (.inr (.inr (.inl H3.out))))
        go_upto_region 4 with (fail)
        refine jp ?_
        refine jm (.int .i64 0) ?_
        refine jz fun X4 hX4 => ?_
        have hB0 := hB0.bel hX4
        have hB1 := hB1.bel hX4
        have hB2 := hB2.bel hX4
        have hb := bel_next hb hX4
        clear hX4
        go_wp2
        go_ret
        exact ⟨by rw [HE.out]; rfl, hb⟩
theorem sct2 (A : Option Addr) (n c : Nat) (r : List (List UInt8)) (w : World) (hr : Rd w 1 (.slice A n c) n (r.map tx)) (hln : r.length = n) (hn1 : n ≤ 9223372036854775807) (s s2 : Sl) (hs : SlOk s) (hs2 : SlOk s2) (hK : KK w) (h : s.sq ≤ s2.sq) : Calls Tryd.prog 26 #[.agg #[.slice A n c], .agg (slc s).toArray, .agg (slc s2).toArray] w fun e w' => e = .returned (.int .i64 (ctr mk48 nm48 r s s2)) ∧ Since w w' := by
  have HCT : Hid (ctr mk48 nm48 r s s2 = ctO mk48 nm48 r s s2) := if_neg (by omega)
  have HRX : Hid (∀ X, Since w X → Rd X 1 (.slice A n c) n (r.map tx)) := fun X h => hr.below h
  have HKK : Hid (∀ X, Since w X → KK X) := fun X h => hK.below h hK.1
  have HLN := Lib.hid hln
  clear hr hln hK
  go_enter Tryd.func26, Tryd.ntmps26
  go_upto_region 1 with (fail)
  obtain ⟨W0, hW0, hB0, hB1, hB2, hb⟩ := start3 w 24 28 28 [.slice A n c] (slc s) (slc s2)
  rw [← hW0]
  clear hW0
  refine jp ?_
  refine jn (.pointer (some ⟨(w.heap.size + 1), 1, none⟩)) ?_
  refine jf (.int .i64 s.sq) hB1 1 load_int ?_
  refine jn (.pointer (some ⟨(w.heap.size + 2), 1, none⟩)) ?_
  refine jf (.int .i64 s2.sq) hB2 1 load_int ?_
  refine jv (.bool false) (exec_gtr _ _ _ _ (by rfl) .i64 s.sq s2.sq (by rfl) (by rfl) false (decide_eq_false (by omega))) ?_
  refine jz fun X1 hX1 => ?_
  have hB0 := hB0.bel hX1
  have hB1 := hB1.bel hX1
  have hB2 := hB2.bel hX1
  have hb := bel_next hb hX1
  clear hX1
  cases h1 : rgt mk48 r s
  · have H1 := Lib.hid h1
    clear h1
    go_upto_region 3 with (fail)
    refine jp ?_
    refine ja hB0 Tryd.underlying24 (by rfl) info_rg ?_
    refine jg (.agg (slc s).toArray) (fun X hX hF => exec_lda 28 _ (by rfl) (w.heap.size + 1) (by rfl) Tryd.underlying28 rfl X (hB1.bel hX) (info_slc hs)) ?_
    refine jc (.bool false) (fun X hX hF => mo (srgC A n c r X (HRX.out X (bel_next hb hX)) HLN.out hn1 s hs (HKK.out X (bel_next hb hX))) (by rw [H1.out])) ?_
    refine jm (.bool true) ?_
    refine jm (.bool true) ?_
    refine js ?_
    refine js ?_
    refine js ?_
    refine js ?_
    refine jm (.bool true) ?_
    refine jm (.bool true) ?_
    refine js ?_
    refine js ?_
    refine js ?_
    refine js ?_
    refine js ?_
    refine jm (.bool true) ?_
    refine jm (.bool true) ?_
    refine js ?_
    refine js ?_
    refine js ?_
    refine jm (.bool true) ?_
    refine jm (.bool true) ?_
    refine jz fun X2 hX2 => ?_
    have hB0 := hB0.bel hX2
    have hB1 := hB1.bel hX2
    have hB2 := hB2.bel hX2
    have hb := bel_next hb hX2
    clear hX2
    have HE : Hid (ctr mk48 nm48 r s s2 = 0) := HCT.out.trans (ctO_0 (.inl H1.out))
    go_upto_region 4 with (fail)
    refine jp ?_
    refine jm (.int .i64 0) ?_
    refine jz fun X3 hX3 => ?_
    have hB0 := hB0.bel hX3
    have hB1 := hB1.bel hX3
    have hB2 := hB2.bel hX3
    have hb := bel_next hb hX3
    clear hX3
    go_wp2
    go_ret
    exact ⟨by rw [HE.out]; rfl, hb⟩
  · have H1 := Lib.hid h1
    clear h1
    cases h2 : rgt mk48 r s2
    · have H2 := Lib.hid h2
      clear h2
      go_upto_region 3 with (fail)
      refine jp ?_
      refine ja hB0 Tryd.underlying24 (by rfl) info_rg ?_
      refine jg (.agg (slc s).toArray) (fun X hX hF => exec_lda 28 _ (by rfl) (w.heap.size + 1) (by rfl) Tryd.underlying28 rfl X (hB1.bel hX) (info_slc hs)) ?_
      refine jc (.bool true) (fun X hX hF => mo (srgC A n c r X (HRX.out X (bel_next hb hX)) HLN.out hn1 s hs (HKK.out X (bel_next hb hX))) (by rw [H1.out])) ?_
      refine jm (.bool false) ?_
      refine jm (.bool false) ?_
      refine ja hB0 Tryd.underlying24 (by rfl) info_rg ?_
      refine jg (.agg (slc s2).toArray) (fun X hX hF => exec_lda 28 _ (by rfl) (w.heap.size + 2) (by rfl) Tryd.underlying28 rfl X (hB2.bel hX) (info_slc hs2)) ?_
      refine jc (.bool false) (fun X hX hF => mo (srgC A n c r X (HRX.out X (bel_next hb hX)) HLN.out hn1 s2 hs2 (HKK.out X (bel_next hb hX))) (by rw [H2.out])) ?_
      refine jm (.bool true) ?_
      refine jm (.bool true) ?_
      refine jm (.bool true) ?_
      refine js ?_
      refine js ?_
      refine js ?_
      refine js ?_
      refine js ?_
      refine jm (.bool true) ?_
      refine jm (.bool true) ?_
      refine js ?_
      refine js ?_
      refine js ?_
      refine jm (.bool true) ?_
      refine jm (.bool true) ?_
      refine jz fun X2 hX2 => ?_
      have hB0 := hB0.bel hX2
      have hB1 := hB1.bel hX2
      have hB2 := hB2.bel hX2
      have hb := bel_next hb hX2
      clear hX2
      have HE : Hid (ctr mk48 nm48 r s s2 = 0) := HCT.out.trans (ctO_0 (.inr (.inl H2.out)))
      go_upto_region 4 with (fail)
      refine jp ?_
      refine jm (.int .i64 0) ?_
      refine jz fun X3 hX3 => ?_
      have hB0 := hB0.bel hX3
      have hB1 := hB1.bel hX3
      have hB2 := hB2.bel hX3
      have hb := bel_next hb hX3
      clear hX3
      go_wp2
      go_ret
      exact ⟨by rw [HE.out]; rfl, hb⟩
    · have H2 := Lib.hid h2
      clear h2
      have hq1 := frm_sq ((rgt_iff mk48).1 H1.out).2.1
      have hq2 := (frm_of ((rgt_iff mk48).1 H1.out).2.1).2.2
      by_cases h3 : s.st = s2.st
      · have H3 := Lib.hid h3
        clear h3
        by_cases h4 : s = s2
        · have H4 := Lib.hid h4
          clear h4
          go_upto_region 3 with (fail)
          refine jp ?_
          refine ja hB0 Tryd.underlying24 (by rfl) info_rg ?_
          refine jg (.agg (slc s).toArray) (fun X hX hF => exec_lda 28 _ (by rfl) (w.heap.size + 1) (by rfl) Tryd.underlying28 rfl X (hB1.bel hX) (info_slc hs)) ?_
          refine jc (.bool true) (fun X hX hF => mo (srgC A n c r X (HRX.out X (bel_next hb hX)) HLN.out hn1 s hs (HKK.out X (bel_next hb hX))) (by rw [H1.out])) ?_
          refine jm (.bool false) ?_
          refine jm (.bool false) ?_
          refine ja hB0 Tryd.underlying24 (by rfl) info_rg ?_
          refine jg (.agg (slc s2).toArray) (fun X hX hF => exec_lda 28 _ (by rfl) (w.heap.size + 2) (by rfl) Tryd.underlying28 rfl X (hB2.bel hX) (info_slc hs2)) ?_
          refine jc (.bool true) (fun X hX hF => mo (srgC A n c r X (HRX.out X (bel_next hb hX)) HLN.out hn1 s2 hs2 (HKK.out X (bel_next hb hX))) (by rw [H2.out])) ?_
          refine jm (.bool false) ?_
          refine jm (.bool false) ?_
          refine jm (.bool false) ?_
          refine jn (.pointer (some ⟨(w.heap.size + 1), 0, none⟩)) ?_
          refine jf (.int .i64 s.st) hB1 0 load_int ?_
          refine jn (.pointer (some ⟨(w.heap.size + 2), 0, none⟩)) ?_
          refine jf (.int .i64 s2.st) hB2 0 load_int ?_
          refine jv (.bool false) (exec_nei _ _ _ _ (by rfl) .i64 s.st s2.st (by rfl) (by rfl) false (by rw [decide_eq_true H3.out]; rfl)) ?_
          refine jm (.bool false) ?_
          refine jm (.bool false) ?_
          refine jg (.agg (slc s).toArray) (fun X hX hF => exec_lda 28 _ (by rfl) (w.heap.size + 1) (by rfl) Tryd.underlying28 rfl X (hB1.bel hX) (info_slc hs)) ?_
          refine jg (.agg (slc s2).toArray) (fun X hX hF => exec_lda 28 _ (by rfl) (w.heap.size + 2) (by rfl) Tryd.underlying28 rfl X (hB2.bel hX) (info_slc hs2)) ?_
          refine jv (.bool true) (exec_eqsl _ _ _ (by rfl) s s2 hs hs2 (by rfl) (by rfl) _ (decide_eq_true H4.out)) ?_
          refine jm (.bool true) ?_
          refine jm (.bool true) ?_
          refine jz fun X2 hX2 => ?_
          have hB0 := hB0.bel hX2
          have hB1 := hB1.bel hX2
          have hB2 := hB2.bel hX2
          have hb := bel_next hb hX2
          clear hX2
          have HE : Hid (ctr mk48 nm48 r s s2 = 0) := HCT.out.trans (ctO_0 (.inr (.inr (.inr H4.out))))
          go_upto_region 4 with (fail)
          refine jp ?_
          refine jm (.int .i64 0) ?_
          refine jz fun X3 hX3 => ?_
          have hB0 := hB0.bel hX3
          have hB1 := hB1.bel hX3
          have hB2 := hB2.bel hX3
          have hb := bel_next hb hX3
          clear hX3
          go_wp2
          go_ret
          exact ⟨by rw [HE.out]; rfl, hb⟩
        · have H4 : Hid (¬ s = s2) := h4
          clear h4
          go_upto_region 3 with (fail)
          refine jp ?_
          refine ja hB0 Tryd.underlying24 (by rfl) info_rg ?_
          refine jg (.agg (slc s).toArray) (fun X hX hF => exec_lda 28 _ (by rfl) (w.heap.size + 1) (by rfl) Tryd.underlying28 rfl X (hB1.bel hX) (info_slc hs)) ?_
          refine jc (.bool true) (fun X hX hF => mo (srgC A n c r X (HRX.out X (bel_next hb hX)) HLN.out hn1 s hs (HKK.out X (bel_next hb hX))) (by rw [H1.out])) ?_
          refine jm (.bool false) ?_
          refine jm (.bool false) ?_
          refine ja hB0 Tryd.underlying24 (by rfl) info_rg ?_
          refine jg (.agg (slc s2).toArray) (fun X hX hF => exec_lda 28 _ (by rfl) (w.heap.size + 2) (by rfl) Tryd.underlying28 rfl X (hB2.bel hX) (info_slc hs2)) ?_
          refine jc (.bool true) (fun X hX hF => mo (srgC A n c r X (HRX.out X (bel_next hb hX)) HLN.out hn1 s2 hs2 (HKK.out X (bel_next hb hX))) (by rw [H2.out])) ?_
          refine jm (.bool false) ?_
          refine jm (.bool false) ?_
          refine jm (.bool false) ?_
          refine jn (.pointer (some ⟨(w.heap.size + 1), 0, none⟩)) ?_
          refine jf (.int .i64 s.st) hB1 0 load_int ?_
          refine jn (.pointer (some ⟨(w.heap.size + 2), 0, none⟩)) ?_
          refine jf (.int .i64 s2.st) hB2 0 load_int ?_
          refine jv (.bool false) (exec_nei _ _ _ _ (by rfl) .i64 s.st s2.st (by rfl) (by rfl) false (by rw [decide_eq_true H3.out]; rfl)) ?_
          refine jm (.bool false) ?_
          refine jm (.bool false) ?_
          refine jg (.agg (slc s).toArray) (fun X hX hF => exec_lda 28 _ (by rfl) (w.heap.size + 1) (by rfl) Tryd.underlying28 rfl X (hB1.bel hX) (info_slc hs)) ?_
          refine jg (.agg (slc s2).toArray) (fun X hX hF => exec_lda 28 _ (by rfl) (w.heap.size + 2) (by rfl) Tryd.underlying28 rfl X (hB2.bel hX) (info_slc hs2)) ?_
          refine jv (.bool false) (exec_eqsl _ _ _ (by rfl) s s2 hs hs2 (by rfl) (by rfl) _ (decide_eq_false H4.out)) ?_
          refine jm (.bool false) ?_
          refine jm (.bool false) ?_
          refine jz fun X2 hX2 => ?_
          have hB0 := hB0.bel hX2
          have hB1 := hB1.bel hX2
          have hB2 := hB2.bel hX2
          have hb := bel_next hb hX2
          clear hX2
          by_cases h5 : s.sq = s2.sq
          · have H5 := Lib.hid h5
            clear h5
            go_upto_region 5 with (fail)
            refine jp ?_
            refine jn (.pointer (some ⟨(w.heap.size + 1), 1, none⟩)) ?_
            refine jf (.int .i64 s.sq) hB1 1 load_int ?_
            refine jn (.pointer (some ⟨(w.heap.size + 2), 1, none⟩)) ?_
            refine jf (.int .i64 s2.sq) hB2 1 load_int ?_
            refine jv (.bool true) (exec_eqi _ _ _ _ (by rfl) .i64 s.sq s2.sq (by rfl) (by rfl) true (decide_eq_true H5.out)) ?_
            refine jm (.bool true) ?_
            refine jz fun X3 hX3 => ?_
            have hB0 := hB0.bel hX3
            have hB1 := hB1.bel hX3
            have hB2 := hB2.bel hX3
            have hb := bel_next hb hX3
            clear hX3
            have HE : Hid (ctr mk48 nm48 r s s2 = 1) := HCT.out.trans ((ctO_n H1.out H2.out H3.out H4.out).trans (if_pos H5.out))
            go_upto_region 6 with (fail)
            refine jp ?_
            refine jm (.int .i64 1) ?_
            refine jz fun X4 hX4 => ?_
            have hB0 := hB0.bel hX4
            have hB1 := hB1.bel hX4
            have hB2 := hB2.bel hX4
            have hb := bel_next hb hX4
            clear hX4
            go_wp2
            go_ret
            exact ⟨by rw [HE.out]; rfl, hb⟩
          · have H5 : Hid (¬ s.sq = s2.sq) := h5
            clear h5
            go_upto_region 5 with (fail)
            refine jp ?_
            refine jn (.pointer (some ⟨(w.heap.size + 1), 1, none⟩)) ?_
            refine jf (.int .i64 s.sq) hB1 1 load_int ?_
            refine jn (.pointer (some ⟨(w.heap.size + 2), 1, none⟩)) ?_
            refine jf (.int .i64 s2.sq) hB2 1 load_int ?_
            refine jv (.bool false) (exec_eqi _ _ _ _ (by rfl) .i64 s.sq s2.sq (by rfl) (by rfl) false (decide_eq_false H5.out)) ?_
            refine jm (.bool false) ?_
            refine jz fun X3 hX3 => ?_
            have hB0 := hB0.bel hX3
            have hB1 := hB1.bel hX3
            have hB2 := hB2.bel hX3
            have hb := bel_next hb hX3
            clear hX3
            by_cases h6 : s.sq + 1 = s2.sq
            · have H6 := Lib.hid h6
              clear h6
              by_cases h7 : s2.pv = nm48 s
              · have H7 := Lib.hid h7
                clear h7
                go_upto_region 7 with (fail)
                refine jd ?_
                refine jn (.pointer (some ⟨(w.heap.size + 1), 1, none⟩)) ?_
                refine jf (.int .i64 s.sq) hB1 1 load_int ?_
                refine jv (.int .i64 (s.sq + 1)) (exec_add _ _ _ _ (by rfl) s.sq 1 (s.sq + 1) (by rfl) (by rfl) (by omega) (by omega) (by omega)) ?_
                refine jn (.pointer (some ⟨(w.heap.size + 2), 1, none⟩)) ?_
                refine jf (.int .i64 s2.sq) hB2 1 load_int ?_
                refine jv (.bool true) (exec_eqi _ _ _ _ (by rfl) .i64 (s.sq + 1) s2.sq (by rfl) (by rfl) true (decide_eq_true H6.out)) ?_
                refine jm (.bool true) ?_
                refine jn (.pointer (some ⟨(w.heap.size + 2), 5, none⟩)) ?_
                refine jg (.agg (s2.pv.map B8).toArray) (fun X hX hF => exec_inr 26 _ (by rfl) (w.heap.size + 2) 5 (s2.pv.map B8) (by rfl) Tryd.underlying26 rfl X (hB2.bel hX) (slc_pv hs2) (info_d16 hs2.pv)) ?_
                refine jg (.agg (slc s).toArray) (fun X hX hF => exec_lda 28 _ (by rfl) (w.heap.size + 1) (by rfl) Tryd.underlying28 rfl X (hB1.bel hX) (info_slc hs)) ?_
                refine jc (.agg ((nm48 s).map B8).toArray) (fun X hX hF => snmC s X hs (by omega) (HKK.out X (bel_next hb hX))) ?_
                refine jv (.bool false) (exec_nedg _ _ _ (by rfl) s2.pv (nm48 s) hs2.pv (nm_len _) (by rfl) (by rfl) _ (nes_f H7.out)) ?_
                refine jm (.bool false) ?_
                refine jm (.bool false) ?_
                refine jz fun X4 hX4 => ?_
                have hB0 := hB0.bel hX4
                have hB1 := hB1.bel hX4
                have hB2 := hB2.bel hX4
                have hb := bel_next hb hX4
                clear hX4
                by_cases h8 : s2.dy < s.dy
                · go_upto_region 9 with (fail)
                  refine jp ?_
                  refine jn (.pointer (some ⟨(w.heap.size + 2), 2, none⟩)) ?_
                  refine jf (.int .i64 s2.dy) hB2 2 load_int ?_
                  refine jn (.pointer (some ⟨(w.heap.size + 1), 2, none⟩)) ?_
                  refine jf (.int .i64 s.dy) hB1 2 load_int ?_
                  refine jv (.bool true) (exec_lss _ _ _ _ (by rfl) .i64 s2.dy s.dy (by rfl) (by rfl) true (decide_eq_true h8)) ?_
                  refine jm (.bool true) ?_
                  refine jz fun X5 hX5 => ?_
                  have hB0 := hB0.bel hX5
                  have hB1 := hB1.bel hX5
                  have hB2 := hB2.bel hX5
                  have hb := bel_next hb hX5
                  clear hX5
                  have HE : Hid (ctr mk48 nm48 r s s2 = 3) := HCT.out.trans ((ctO_n H1.out H2.out H3.out H4.out).trans (by rw [if_neg H5.out, if_neg (fun h9 => h9.2 H7.out), if_pos h8]))
                  go_upto_region 10 with (fail)
                  refine jp ?_
                  refine jm (.int .i64 3) ?_
                  refine jz fun X6 hX6 => ?_
                  have hB0 := hB0.bel hX6
                  have hB1 := hB1.bel hX6
                  have hB2 := hB2.bel hX6
                  have hb := bel_next hb hX6
                  clear hX6
                  go_wp2
                  go_ret
                  exact ⟨by rw [HE.out]; rfl, hb⟩
                · go_upto_region 9 with (fail)
                  refine jp ?_
                  refine jn (.pointer (some ⟨(w.heap.size + 2), 2, none⟩)) ?_
                  refine jf (.int .i64 s2.dy) hB2 2 load_int ?_
                  refine jn (.pointer (some ⟨(w.heap.size + 1), 2, none⟩)) ?_
                  refine jf (.int .i64 s.dy) hB1 2 load_int ?_
                  refine jv (.bool false) (exec_lss _ _ _ _ (by rfl) .i64 s2.dy s.dy (by rfl) (by rfl) false (decide_eq_false h8)) ?_
                  refine jm (.bool false) ?_
                  refine jz fun X5 hX5 => ?_
                  have hB0 := hB0.bel hX5
                  have hB1 := hB1.bel hX5
                  have hB2 := hB2.bel hX5
                  have hb := bel_next hb hX5
                  clear hX5
                  have HE : Hid (ctr mk48 nm48 r s s2 = 0) := HCT.out.trans ((ctO_n H1.out H2.out H3.out H4.out).trans (by rw [if_neg H5.out, if_neg (fun h9 => h9.2 H7.out), if_neg h8]))
                  go_upto_region 11 with (fail)
                  refine jp ?_
                  refine jm (.int .i64 0) ?_
                  refine jz fun X6 hX6 => ?_
                  have hB0 := hB0.bel hX6
                  have hB1 := hB1.bel hX6
                  have hB2 := hB2.bel hX6
                  have hb := bel_next hb hX6
                  clear hX6
                  go_wp2
                  go_ret
                  exact ⟨by rw [HE.out]; rfl, hb⟩
              · have H7 : Hid (s2.pv ≠ nm48 s) := h7
                clear h7
                go_upto_region 7 with (fail)
                refine jd ?_
                refine jn (.pointer (some ⟨(w.heap.size + 1), 1, none⟩)) ?_
                refine jf (.int .i64 s.sq) hB1 1 load_int ?_
                refine jv (.int .i64 (s.sq + 1)) (exec_add _ _ _ _ (by rfl) s.sq 1 (s.sq + 1) (by rfl) (by rfl) (by omega) (by omega) (by omega)) ?_
                refine jn (.pointer (some ⟨(w.heap.size + 2), 1, none⟩)) ?_
                refine jf (.int .i64 s2.sq) hB2 1 load_int ?_
                refine jv (.bool true) (exec_eqi _ _ _ _ (by rfl) .i64 (s.sq + 1) s2.sq (by rfl) (by rfl) true (decide_eq_true H6.out)) ?_
                refine jm (.bool true) ?_
                refine jn (.pointer (some ⟨(w.heap.size + 2), 5, none⟩)) ?_
                refine jg (.agg (s2.pv.map B8).toArray) (fun X hX hF => exec_inr 26 _ (by rfl) (w.heap.size + 2) 5 (s2.pv.map B8) (by rfl) Tryd.underlying26 rfl X (hB2.bel hX) (slc_pv hs2) (info_d16 hs2.pv)) ?_
                refine jg (.agg (slc s).toArray) (fun X hX hF => exec_lda 28 _ (by rfl) (w.heap.size + 1) (by rfl) Tryd.underlying28 rfl X (hB1.bel hX) (info_slc hs)) ?_
                refine jc (.agg ((nm48 s).map B8).toArray) (fun X hX hF => snmC s X hs (by omega) (HKK.out X (bel_next hb hX))) ?_
                refine jv (.bool true) (exec_nedg _ _ _ (by rfl) s2.pv (nm48 s) hs2.pv (nm_len _) (by rfl) (by rfl) _ (nes_t H7.out)) ?_
                refine jm (.bool true) ?_
                refine jm (.bool true) ?_
                refine jz fun X4 hX4 => ?_
                have hB0 := hB0.bel hX4
                have hB1 := hB1.bel hX4
                have hB2 := hB2.bel hX4
                have hb := bel_next hb hX4
                clear hX4
                have HE : Hid (ctr mk48 nm48 r s s2 = 2) := HCT.out.trans ((ctO_n H1.out H2.out H3.out H4.out).trans (by rw [if_neg H5.out, if_pos ⟨H6.out, H7.out⟩]))
                go_upto_region 8 with (fail)
                refine jp ?_
                refine jm (.int .i64 2) ?_
                refine jz fun X5 hX5 => ?_
                have hB0 := hB0.bel hX5
                have hB1 := hB1.bel hX5
                have hB2 := hB2.bel hX5
                have hb := bel_next hb hX5
                clear hX5
                go_wp2
                go_ret
                exact ⟨by rw [HE.out]; rfl, hb⟩
            · have H6 : Hid (¬ s.sq + 1 = s2.sq) := h6
              clear h6
              go_upto_region 7 with (fail)
              refine jd ?_
              refine jn (.pointer (some ⟨(w.heap.size + 1), 1, none⟩)) ?_
              refine jf (.int .i64 s.sq) hB1 1 load_int ?_
              refine jv (.int .i64 (s.sq + 1)) (exec_add _ _ _ _ (by rfl) s.sq 1 (s.sq + 1) (by rfl) (by rfl) (by omega) (by omega) (by omega)) ?_
              refine jn (.pointer (some ⟨(w.heap.size + 2), 1, none⟩)) ?_
              refine jf (.int .i64 s2.sq) hB2 1 load_int ?_
              refine jv (.bool false) (exec_eqi _ _ _ _ (by rfl) .i64 (s.sq + 1) s2.sq (by rfl) (by rfl) false (decide_eq_false H6.out)) ?_
              refine jm (.bool false) ?_
              refine js ?_
              refine js ?_
              refine js ?_
              refine js ?_
              refine js ?_
              refine jm (.bool false) ?_
              refine jm (.bool false) ?_
              refine jz fun X4 hX4 => ?_
              have hB0 := hB0.bel hX4
              have hB1 := hB1.bel hX4
              have hB2 := hB2.bel hX4
              have hb := bel_next hb hX4
              clear hX4
              by_cases h8 : s2.dy < s.dy
              · go_upto_region 9 with (fail)
                refine jp ?_
                refine jn (.pointer (some ⟨(w.heap.size + 2), 2, none⟩)) ?_
                refine jf (.int .i64 s2.dy) hB2 2 load_int ?_
                refine jn (.pointer (some ⟨(w.heap.size + 1), 2, none⟩)) ?_
                refine jf (.int .i64 s.dy) hB1 2 load_int ?_
                refine jv (.bool true) (exec_lss _ _ _ _ (by rfl) .i64 s2.dy s.dy (by rfl) (by rfl) true (decide_eq_true h8)) ?_
                refine jm (.bool true) ?_
                refine jz fun X5 hX5 => ?_
                have hB0 := hB0.bel hX5
                have hB1 := hB1.bel hX5
                have hB2 := hB2.bel hX5
                have hb := bel_next hb hX5
                clear hX5
                have HE : Hid (ctr mk48 nm48 r s s2 = 3) := HCT.out.trans ((ctO_n H1.out H2.out H3.out H4.out).trans (by rw [if_neg H5.out, if_neg (fun h9 => H6.out h9.1), if_pos h8]))
                go_upto_region 10 with (fail)
                refine jp ?_
                refine jm (.int .i64 3) ?_
                refine jz fun X6 hX6 => ?_
                have hB0 := hB0.bel hX6
                have hB1 := hB1.bel hX6
                have hB2 := hB2.bel hX6
                have hb := bel_next hb hX6
                clear hX6
                go_wp2
                go_ret
                exact ⟨by rw [HE.out]; rfl, hb⟩
              · go_upto_region 9 with (fail)
                refine jp ?_
                refine jn (.pointer (some ⟨(w.heap.size + 2), 2, none⟩)) ?_
                refine jf (.int .i64 s2.dy) hB2 2 load_int ?_
                refine jn (.pointer (some ⟨(w.heap.size + 1), 2, none⟩)) ?_
                refine jf (.int .i64 s.dy) hB1 2 load_int ?_
                refine jv (.bool false) (exec_lss _ _ _ _ (by rfl) .i64 s2.dy s.dy (by rfl) (by rfl) false (decide_eq_false h8)) ?_
                refine jm (.bool false) ?_
                refine jz fun X5 hX5 => ?_
                have hB0 := hB0.bel hX5
                have hB1 := hB1.bel hX5
                have hB2 := hB2.bel hX5
                have hb := bel_next hb hX5
                clear hX5
                have HE : Hid (ctr mk48 nm48 r s s2 = 0) := HCT.out.trans ((ctO_n H1.out H2.out H3.out H4.out).trans (by rw [if_neg H5.out, if_neg (fun h9 => H6.out h9.1), if_neg h8]))
                go_upto_region 11 with (fail)
                refine jp ?_
                refine jm (.int .i64 0) ?_
                refine jz fun X6 hX6 => ?_
                have hB0 := hB0.bel hX6
                have hB1 := hB1.bel hX6
                have hB2 := hB2.bel hX6
                have hb := bel_next hb hX6
                clear hX6
                go_wp2
                go_ret
                exact ⟨by rw [HE.out]; rfl, hb⟩
      · have H3 : Hid (s.st ≠ s2.st) := h3
        clear h3
        go_upto_region 3 with (fail)
        refine jp ?_
        refine ja hB0 Tryd.underlying24 (by rfl) info_rg ?_
        refine jg (.agg (slc s).toArray) (fun X hX hF => exec_lda 28 _ (by rfl) (w.heap.size + 1) (by rfl) Tryd.underlying28 rfl X (hB1.bel hX) (info_slc hs)) ?_
        refine jc (.bool true) (fun X hX hF => mo (srgC A n c r X (HRX.out X (bel_next hb hX)) HLN.out hn1 s hs (HKK.out X (bel_next hb hX))) (by rw [H1.out])) ?_
        refine jm (.bool false) ?_
        refine jm (.bool false) ?_
        refine ja hB0 Tryd.underlying24 (by rfl) info_rg ?_
        refine jg (.agg (slc s2).toArray) (fun X hX hF => exec_lda 28 _ (by rfl) (w.heap.size + 2) (by rfl) Tryd.underlying28 rfl X (hB2.bel hX) (info_slc hs2)) ?_
        refine jc (.bool true) (fun X hX hF => mo (srgC A n c r X (HRX.out X (bel_next hb hX)) HLN.out hn1 s2 hs2 (HKK.out X (bel_next hb hX))) (by rw [H2.out])) ?_
        refine jm (.bool false) ?_
        refine jm (.bool false) ?_
        refine jm (.bool false) ?_
        refine jn (.pointer (some ⟨(w.heap.size + 1), 0, none⟩)) ?_
        refine jf (.int .i64 s.st) hB1 0 load_int ?_
        refine jn (.pointer (some ⟨(w.heap.size + 2), 0, none⟩)) ?_
        refine jf (.int .i64 s2.st) hB2 0 load_int ?_
        refine jv (.bool true) (exec_nei _ _ _ _ (by rfl) .i64 s.st s2.st (by rfl) (by rfl) true (by rw [decide_eq_false H3.out]; rfl)) ?_
        refine jm (.bool true) ?_
        refine jm (.bool true) ?_
        refine js ?_
        refine js ?_
        refine js ?_
        refine jm (.bool true) ?_
        refine jm (.bool true) ?_
        refine jz fun X2 hX2 => ?_
        have hB0 := hB0.bel hX2
        have hB1 := hB1.bel hX2
        have hB2 := hB2.bel hX2
        have hb := bel_next hb hX2
        clear hX2
        have HE : Hid (ctr mk48 nm48 r s s2 = 0) := HCT.out.trans (ctO_0 (.inr (.inr (.inl H3.out))))
        go_upto_region 4 with (fail)
        refine jp ?_
        refine jm (.int .i64 0) ?_
        refine jz fun X3 hX3 => ?_
        have hB0 := hB0.bel hX3
        have hB1 := hB1.bel hX3
        have hB2 := hB2.bel hX3
        have hb := bel_next hb hX3
        clear hX3
        go_wp2
        go_ret
        exact ⟨by rw [HE.out]; rfl, hb⟩
theorem sctC (A : Option Addr) (n c : Nat) (r : List (List UInt8)) (w : World) (hr : Rd w 1 (.slice A n c) n (r.map tx)) (hln : r.length = n) (hn1 : n ≤ 9223372036854775807) (s s2 : Sl) (hs : SlOk s) (hs2 : SlOk s2) (hK : KK w) : Calls Tryd.prog 26 #[.agg #[.slice A n c], .agg (slc s).toArray, .agg (slc s2).toArray] w fun e w' => e = .returned (.int .i64 (ctr mk48 nm48 r s s2)) ∧ Since w w' := by
  by_cases h : s2.sq < s.sq
  · exact sct1 A n c r w hr hln hn1 s s2 hs hs2 hK h
  · exact sct2 A n c r w hr hln hn1 s s2 hs hs2 hK (by omega)
end Go.Proofs.YthinopepcmidmaaDoor
