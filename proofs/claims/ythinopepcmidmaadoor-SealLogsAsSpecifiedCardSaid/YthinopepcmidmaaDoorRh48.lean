/-
  Reference of layer 48: Contradict, Short, Few.
-/
import Derived.Test.YthinopepcmidmaaDoorRd48
import Derived.Test.YthinopepcmidmaaDoorSk48
set_option linter.unusedSimpArgs false
set_option linter.unusedVariables false
set_option maxRecDepth 100000
set_option maxHeartbeats 1600000
namespace Go.Proofs.YthinopepcmidmaaDoor
open Go.RowKit
theorem rct2 (A : Option Addr) (n c : Nat) (r : List (List UInt8)) (w : World) (hr : Rd w 1 (.slice A n c) n (r.map tx)) (hln : r.length = n) (hn1 : n ≤ 9223372036854775807) (s s2 : Sl) (hs : SlOk s) (hs2 : SlOk s2) (hK : KK0 w) (h : s.sq ≤ s2.sq) : Calls Tryd.prog 27 #[.agg #[.slice A n c], .agg (slc s).toArray, .agg (slc s2).toArray] w fun e w' => e = .returned (.int .i64 (ctr mk48 nm48 r s s2)) ∧ Since w w' := by
  have HCT : Hid (ctr mk48 nm48 r s s2 = ctO mk48 nm48 r s s2) := if_neg (by omega)
  have hz := zero16
  have hzs := zeroSl
  have hzm := zeroMd
  have HKK : Hid (∀ X, Since w X → KK0 X) := fun X h => KK0.since hK h
  have HRX : Hid (∀ X, Since w X → Rd X 1 (.slice A n c) n (r.map tx)) := fun X h => hr.below h
  have HLN := Lib.hid hln
  clear hK hr hln
  go_enter Tryd.func27, Tryd.ntmps27
  go_upto_region 1 with (fail)
  obtain ⟨W0, hW0, hB0, hB1, hB2, hb⟩ := start3 w 24 28 28 [.slice A n c] (slc s) (slc s2)
  rw [← hW0]
  clear hW0
  cases h1 : rgt mk48 r s
  · cases h2 : rgt mk48 r s2
    · have H1 := Lib.hid h1
      clear h1
      have H2 := Lib.hid h2
      clear h2
      refine jp ?_
      refine ja hB0 Tryd.underlying24 (by rfl) info_rg ?_
      refine jg (.agg (slc s).toArray) (fun X hX hF => exec_lda 28 _ (by rfl) (w.heap.size + 1) (by rfl) Tryd.underlying28 rfl X (hB1.bel hX) (info_slc hs)) ?_
      refine jc (.bool false) (fun X hX hF => mo (rrgC A n c r X (HRX.out X (bel_next hb hX)) HLN.out hn1 s hs (HKK.out X (bel_next hb hX))) (by rw [H1.out])) ?_
      refine jm (.bool false) ?_
      refine jz fun X1 hX1 => ?_
      have hB0 := hB0.bel hX1
      have hB1 := hB1.bel hX1
      have hB2 := hB2.bel hX1
      have hb := bel_next hb hX1
      clear hX1
      go_upto_region 2 with (fail)
      refine jp ?_
      refine ja hB0 Tryd.underlying24 (by rfl) info_rg ?_
      refine jg (.agg (slc s2).toArray) (fun X hX hF => exec_lda 28 _ (by rfl) (w.heap.size + 2) (by rfl) Tryd.underlying28 rfl X (hB2.bel hX) (info_slc hs2)) ?_
      refine jc (.bool false) (fun X hX hF => mo (rrgC A n c r X (HRX.out X (bel_next hb hX)) HLN.out hn1 s2 hs2 (HKK.out X (bel_next hb hX))) (by rw [H2.out])) ?_
      refine jm (.bool false) ?_
      refine jz fun X2 hX2 => ?_
      have hB0 := hB0.bel hX2
      have hB1 := hB1.bel hX2
      have hB2 := hB2.bel hX2
      have hb := bel_next hb hX2
      clear hX2
      go_upto_region 3 with (fail)
      refine jp ?_
      refine jm (.bool false) ?_
      refine jm (.bool true) ?_
      refine jm (.bool true) ?_
      refine js ?_
      refine js ?_
      refine jm (.bool true) ?_
      refine jm (.bool true) ?_
      refine js ?_
      refine js ?_
      refine js ?_
      refine js ?_
      refine js ?_
      refine jm (.bool true) ?_
      refine jz fun X3 hX3 => ?_
      have hB0 := hB0.bel hX3
      have hB1 := hB1.bel hX3
      have hB2 := hB2.bel hX3
      have hb := bel_next hb hX3
      clear hX3
      have HE : Hid (ctr mk48 nm48 r s s2 = 0) := HCT.out.trans (ctO_0 (.inl H1.out))
      go_upto_region 4 with (fail)
      refine jp ?_
      refine jm (.int .i64 0) ?_
      refine jz fun X4 hX4 => ?_
      have hB0 := hB0.bel hX4
      have hB1 := hB1.bel hX4
      have hB2 := hB2.bel hX4
      have hb := bel_next hb hX4
      clear hX4
      go_wp2
      go_ret
      exact ⟨by rw [HE.out]; rfl, hb⟩
    · have H1 := Lib.hid h1
      clear h1
      have H2 := Lib.hid h2
      clear h2
      refine jp ?_
      refine ja hB0 Tryd.underlying24 (by rfl) info_rg ?_
      refine jg (.agg (slc s).toArray) (fun X hX hF => exec_lda 28 _ (by rfl) (w.heap.size + 1) (by rfl) Tryd.underlying28 rfl X (hB1.bel hX) (info_slc hs)) ?_
      refine jc (.bool false) (fun X hX hF => mo (rrgC A n c r X (HRX.out X (bel_next hb hX)) HLN.out hn1 s hs (HKK.out X (bel_next hb hX))) (by rw [H1.out])) ?_
      refine jm (.bool false) ?_
      refine jz fun X1 hX1 => ?_
      have hB0 := hB0.bel hX1
      have hB1 := hB1.bel hX1
      have hB2 := hB2.bel hX1
      have hb := bel_next hb hX1
      clear hX1
      go_upto_region 2 with (fail)
      refine jp ?_
      refine ja hB0 Tryd.underlying24 (by rfl) info_rg ?_
      refine jg (.agg (slc s2).toArray) (fun X hX hF => exec_lda 28 _ (by rfl) (w.heap.size + 2) (by rfl) Tryd.underlying28 rfl X (hB2.bel hX) (info_slc hs2)) ?_
      refine jc (.bool true) (fun X hX hF => mo (rrgC A n c r X (HRX.out X (bel_next hb hX)) HLN.out hn1 s2 hs2 (HKK.out X (bel_next hb hX))) (by rw [H2.out])) ?_
      refine jm (.bool true) ?_
      refine jz fun X2 hX2 => ?_
      have hB0 := hB0.bel hX2
      have hB1 := hB1.bel hX2
      have hB2 := hB2.bel hX2
      have hb := bel_next hb hX2
      clear hX2
      go_upto_region 3 with (fail)
      refine jp ?_
      refine jm (.bool false) ?_
      refine jm (.bool true) ?_
      refine jm (.bool true) ?_
      refine js ?_
      refine js ?_
      refine jm (.bool true) ?_
      refine jm (.bool true) ?_
      refine js ?_
      refine js ?_
      refine js ?_
      refine js ?_
      refine js ?_
      refine jm (.bool true) ?_
      refine jz fun X3 hX3 => ?_
      have hB0 := hB0.bel hX3
      have hB1 := hB1.bel hX3
      have hB2 := hB2.bel hX3
      have hb := bel_next hb hX3
      clear hX3
      have HE : Hid (ctr mk48 nm48 r s s2 = 0) := HCT.out.trans (ctO_0 (.inl H1.out))
      go_upto_region 4 with (fail)
      refine jp ?_
      refine jm (.int .i64 0) ?_
      refine jz fun X4 hX4 => ?_
      have hB0 := hB0.bel hX4
      have hB1 := hB1.bel hX4
      have hB2 := hB2.bel hX4
      have hb := bel_next hb hX4
      clear hX4
      go_wp2
      go_ret
      exact ⟨by rw [HE.out]; rfl, hb⟩
  · cases h2 : rgt mk48 r s2
    · have H1 := Lib.hid h1
      clear h1
      have H2 := Lib.hid h2
      clear h2
      refine jp ?_
      refine ja hB0 Tryd.underlying24 (by rfl) info_rg ?_
      refine jg (.agg (slc s).toArray) (fun X hX hF => exec_lda 28 _ (by rfl) (w.heap.size + 1) (by rfl) Tryd.underlying28 rfl X (hB1.bel hX) (info_slc hs)) ?_
      refine jc (.bool true) (fun X hX hF => mo (rrgC A n c r X (HRX.out X (bel_next hb hX)) HLN.out hn1 s hs (HKK.out X (bel_next hb hX))) (by rw [H1.out])) ?_
      refine jm (.bool true) ?_
      refine jz fun X1 hX1 => ?_
      have hB0 := hB0.bel hX1
      have hB1 := hB1.bel hX1
      have hB2 := hB2.bel hX1
      have hb := bel_next hb hX1
      clear hX1
      go_upto_region 2 with (fail)
      refine jp ?_
      refine ja hB0 Tryd.underlying24 (by rfl) info_rg ?_
      refine jg (.agg (slc s2).toArray) (fun X hX hF => exec_lda 28 _ (by rfl) (w.heap.size + 2) (by rfl) Tryd.underlying28 rfl X (hB2.bel hX) (info_slc hs2)) ?_
      refine jc (.bool false) (fun X hX hF => mo (rrgC A n c r X (HRX.out X (bel_next hb hX)) HLN.out hn1 s2 hs2 (HKK.out X (bel_next hb hX))) (by rw [H2.out])) ?_
      refine jm (.bool false) ?_
      refine jz fun X2 hX2 => ?_
      have hB0 := hB0.bel hX2
      have hB1 := hB1.bel hX2
      have hB2 := hB2.bel hX2
      have hb := bel_next hb hX2
      clear hX2
      go_upto_region 3 with (fail)
      refine jp ?_
      refine jm (.bool true) ?_
      refine jm (.bool false) ?_
      refine jm (.bool false) ?_
      refine jm (.bool false) ?_
      refine jm (.bool true) ?_
      refine jm (.bool true) ?_
      refine jm (.bool true) ?_
      refine js ?_
      refine js ?_
      refine js ?_
      refine js ?_
      refine js ?_
      refine jm (.bool true) ?_
      refine jz fun X3 hX3 => ?_
      have hB0 := hB0.bel hX3
      have hB1 := hB1.bel hX3
      have hB2 := hB2.bel hX3
      have hb := bel_next hb hX3
      clear hX3
      have HE : Hid (ctr mk48 nm48 r s s2 = 0) := HCT.out.trans (ctO_0 (.inr (.inl H2.out)))
      go_upto_region 4 with (fail)
      refine jp ?_
      refine jm (.int .i64 0) ?_
      refine jz fun X4 hX4 => ?_
      have hB0 := hB0.bel hX4
      have hB1 := hB1.bel hX4
      have hB2 := hB2.bel hX4
      have hb := bel_next hb hX4
      clear hX4
      go_wp2
      go_ret
      exact ⟨by rw [HE.out]; rfl, hb⟩
    · have H1 := Lib.hid h1
      clear h1
      have H2 := Lib.hid h2
      clear h2
      refine jp ?_
      refine ja hB0 Tryd.underlying24 (by rfl) info_rg ?_
      refine jg (.agg (slc s).toArray) (fun X hX hF => exec_lda 28 _ (by rfl) (w.heap.size + 1) (by rfl) Tryd.underlying28 rfl X (hB1.bel hX) (info_slc hs)) ?_
      refine jc (.bool true) (fun X hX hF => mo (rrgC A n c r X (HRX.out X (bel_next hb hX)) HLN.out hn1 s hs (HKK.out X (bel_next hb hX))) (by rw [H1.out])) ?_
      refine jm (.bool true) ?_
      refine jz fun X1 hX1 => ?_
      have hB0 := hB0.bel hX1
      have hB1 := hB1.bel hX1
      have hB2 := hB2.bel hX1
      have hb := bel_next hb hX1
      clear hX1
      go_upto_region 2 with (fail)
      refine jp ?_
      refine ja hB0 Tryd.underlying24 (by rfl) info_rg ?_
      refine jg (.agg (slc s2).toArray) (fun X hX hF => exec_lda 28 _ (by rfl) (w.heap.size + 2) (by rfl) Tryd.underlying28 rfl X (hB2.bel hX) (info_slc hs2)) ?_
      refine jc (.bool true) (fun X hX hF => mo (rrgC A n c r X (HRX.out X (bel_next hb hX)) HLN.out hn1 s2 hs2 (HKK.out X (bel_next hb hX))) (by rw [H2.out])) ?_
      refine jm (.bool true) ?_
      refine jz fun X2 hX2 => ?_
      have hB0 := hB0.bel hX2
      have hB1 := hB1.bel hX2
      have hB2 := hB2.bel hX2
      have hb := bel_next hb hX2
      clear hX2
      have hq1 := frm_sq ((rgt_iff mk48).1 H1.out).2.1
      have hq2 := (frm_of ((rgt_iff mk48).1 H1.out).2.1).2.2
      by_cases h3 : s.st = s2.st
      · have H3 := Lib.hid h3
        clear h3
        go_upto_region 3 with (fail)
        refine jp ?_
        refine jm (.bool true) ?_
        refine jm (.bool false) ?_
        refine jm (.bool false) ?_
        refine jm (.bool true) ?_
        refine jm (.bool false) ?_
        refine jm (.bool false) ?_
        refine jm (.bool false) ?_
        refine jn (.pointer (some ⟨(w.heap.size + 1), 0, none⟩)) ?_
        refine jf (.int .i64 s.st) hB1 0 load_int ?_
        refine jn (.pointer (some ⟨(w.heap.size + 2), 0, none⟩)) ?_
        refine jf (.int .i64 s2.st) hB2 0 load_int ?_
        refine jv (.bool false) (exec_nei _ _ _ _ (by rfl) .i64 s.st s2.st (by rfl) (by rfl) false (by rw [decide_eq_true H3.out]; rfl)) ?_
        refine jm (.bool false) ?_
        refine jz fun X3 hX3 => ?_
        have hB0 := hB0.bel hX3
        have hB1 := hB1.bel hX3
        have hB2 := hB2.bel hX3
        have hb := bel_next hb hX3
        clear hX3
        go_upto_region 5 with (fail)
        refine jp ?_
        refine jn (.pointer (some ⟨(w.heap.size + 1), 1, none⟩)) ?_
        refine jf (.int .i64 s.sq) hB1 1 load_int ?_
        refine jn (.pointer (some ⟨(w.heap.size + 2), 1, none⟩)) ?_
        refine jf (.int .i64 s2.sq) hB2 1 load_int ?_
        refine jv (.bool false) (exec_gtr _ _ _ _ (by rfl) .i64 s.sq s2.sq (by rfl) (by rfl) false (decide_eq_false (by omega))) ?_
        refine jz fun X4 hX4 => ?_
        have hB0 := hB0.bel hX4
        have hB1 := hB1.bel hX4
        have hB2 := hB2.bel hX4
        have hb := bel_next hb hX4
        clear hX4
        by_cases h5 : s.sq = s2.sq
        · have H5 := Lib.hid h5
          clear h5
          go_upto_region 7 with (fail)
          refine jp ?_
          refine jn (.pointer (some ⟨(w.heap.size + 1), 1, none⟩)) ?_
          refine jf (.int .i64 s.sq) hB1 1 load_int ?_
          refine jn (.pointer (some ⟨(w.heap.size + 2), 1, none⟩)) ?_
          refine jf (.int .i64 s2.sq) hB2 1 load_int ?_
          refine jv (.bool true) (exec_eqi _ _ _ _ (by rfl) .i64 s.sq s2.sq (by rfl) (by rfl) true (decide_eq_true H5.out)) ?_
          refine jz fun X5 hX5 => ?_
          have hB0 := hB0.bel hX5
          have hB1 := hB1.bel hX5
          have hB2 := hB2.bel hX5
          have hb := bel_next hb hX5
          clear hX5
          by_cases h4 : s = s2
          · have H4 := Lib.hid h4
            clear h4
            go_upto_region 8 with (fail)
            refine jp ?_
            refine jg (.agg (slc s).toArray) (fun X hX hF => exec_lda 28 _ (by rfl) (w.heap.size + 1) (by rfl) Tryd.underlying28 rfl X (hB1.bel hX) (info_slc hs)) ?_
            refine jg (.agg (slc s2).toArray) (fun X hX hF => exec_lda 28 _ (by rfl) (w.heap.size + 2) (by rfl) Tryd.underlying28 rfl X (hB2.bel hX) (info_slc hs2)) ?_
            refine jv (.bool true) (exec_eqsl _ _ _ (by rfl) s s2 hs hs2 (by rfl) (by rfl) _ (decide_eq_true H4.out)) ?_
            refine jz fun X6 hX6 => ?_
            have hB0 := hB0.bel hX6
            have hB1 := hB1.bel hX6
            have hB2 := hB2.bel hX6
            have hb := bel_next hb hX6
            clear hX6
            have HE : Hid (ctr mk48 nm48 r s s2 = 0) := HCT.out.trans (ctO_0 (.inr (.inr (.inr H4.out))))
            go_upto_region 9 with (fail)
            refine jp ?_
            refine jm (.int .i64 0) ?_
            refine jz fun X7 hX7 => ?_
            have hB0 := hB0.bel hX7
            have hB1 := hB1.bel hX7
            have hB2 := hB2.bel hX7
            have hb := bel_next hb hX7
            clear hX7
            go_wp2
            go_ret
            exact ⟨by rw [HE.out]; rfl, hb⟩
          · have H4 : Hid (¬ s = s2) := h4
            clear h4
            go_upto_region 8 with (fail)
            refine jp ?_
            refine jg (.agg (slc s).toArray) (fun X hX hF => exec_lda 28 _ (by rfl) (w.heap.size + 1) (by rfl) Tryd.underlying28 rfl X (hB1.bel hX) (info_slc hs)) ?_
            refine jg (.agg (slc s2).toArray) (fun X hX hF => exec_lda 28 _ (by rfl) (w.heap.size + 2) (by rfl) Tryd.underlying28 rfl X (hB2.bel hX) (info_slc hs2)) ?_
            refine jv (.bool false) (exec_eqsl _ _ _ (by rfl) s s2 hs hs2 (by rfl) (by rfl) _ (decide_eq_false H4.out)) ?_
            refine jz fun X6 hX6 => ?_
            have hB0 := hB0.bel hX6
            have hB1 := hB1.bel hX6
            have hB2 := hB2.bel hX6
            have hb := bel_next hb hX6
            clear hX6
            have HE : Hid (ctr mk48 nm48 r s s2 = 1) := HCT.out.trans ((ctO_n H1.out H2.out H3.out H4.out).trans (if_pos H5.out))
            go_upto_region 10 with (fail)
            refine jp ?_
            refine jm (.int .i64 1) ?_
            refine jz fun X7 hX7 => ?_
            have hB0 := hB0.bel hX7
            have hB1 := hB1.bel hX7
            have hB2 := hB2.bel hX7
            have hb := bel_next hb hX7
            clear hX7
            go_wp2
            go_ret
            exact ⟨by rw [HE.out]; rfl, hb⟩
        · have H5 : Hid (¬ s.sq = s2.sq) := h5
          clear h5
          have H4 : Hid (¬ s = s2) := fun h9 => H5.out (by rw [h9])
          go_upto_region 7 with (fail)
          refine jp ?_
          refine jn (.pointer (some ⟨(w.heap.size + 1), 1, none⟩)) ?_
          refine jf (.int .i64 s.sq) hB1 1 load_int ?_
          refine jn (.pointer (some ⟨(w.heap.size + 2), 1, none⟩)) ?_
          refine jf (.int .i64 s2.sq) hB2 1 load_int ?_
          refine jv (.bool false) (exec_eqi _ _ _ _ (by rfl) .i64 s.sq s2.sq (by rfl) (by rfl) false (decide_eq_false H5.out)) ?_
          refine jz fun X5 hX5 => ?_
          have hB0 := hB0.bel hX5
          have hB1 := hB1.bel hX5
          have hB2 := hB2.bel hX5
          have hb := bel_next hb hX5
          clear hX5
          by_cases h6 : s.sq + 1 = s2.sq
          · have H6 := Lib.hid h6
            clear h6
            by_cases h7 : s2.pv = nm48 s
            · have H7 := Lib.hid h7
              clear h7
              go_upto_region 11 with (fail)
              refine jd ?_
              refine jn (.pointer (some ⟨(w.heap.size + 2), 1, none⟩)) ?_
              refine jf (.int .i64 s2.sq) hB2 1 load_int ?_
              refine jn (.pointer (some ⟨(w.heap.size + 1), 1, none⟩)) ?_
              refine jf (.int .i64 s.sq) hB1 1 load_int ?_
              refine jv (.int .i64 (s.sq + 1)) (exec_add _ _ _ _ (by rfl) s.sq 1 (s.sq + 1) (by rfl) (by rfl) (by omega) (by omega) (by omega)) ?_
              refine jv (.bool true) (exec_eqi _ _ _ _ (by rfl) .i64 s2.sq (s.sq + 1) (by rfl) (by rfl) true (decide_eq_true H6.out.symm)) ?_
              refine jm (.bool true) ?_
              refine jn (.pointer (some ⟨(w.heap.size + 2), 5, none⟩)) ?_
              refine jg (.agg (s2.pv.map B8).toArray) (fun X hX hF => exec_inr 26 _ (by rfl) (w.heap.size + 2) 5 (s2.pv.map B8) (by rfl) Tryd.underlying26 rfl X (hB2.bel hX) (slc_pv hs2) (info_d16 hs2.pv)) ?_
              refine jg (.agg (slc s).toArray) (fun X hX hF => exec_lda 28 _ (by rfl) (w.heap.size + 1) (by rfl) Tryd.underlying28 rfl X (hB1.bel hX) (info_slc hs)) ?_
              refine jc (.agg ((nm48 s).map B8).toArray) (fun X hX hF => rnmC s X hs (by omega) (HKK.out X (bel_next hb hX))) ?_
              refine jv (.bool false) (exec_nedg _ _ _ (by rfl) s2.pv (nm48 s) hs2.pv (nm_len _) (by rfl) (by rfl) _ (nes_f H7.out)) ?_
              refine jm (.bool false) ?_
              refine jz fun X6 hX6 => ?_
              have hB0 := hB0.bel hX6
              have hB1 := hB1.bel hX6
              have hB2 := hB2.bel hX6
              have hb := bel_next hb hX6
              clear hX6
              by_cases h8 : s2.dy < s.dy
              · go_upto_region 13 with (fail)
                refine jp ?_
                refine jn (.pointer (some ⟨(w.heap.size + 2), 2, none⟩)) ?_
                refine jf (.int .i64 s2.dy) hB2 2 load_int ?_
                refine jn (.pointer (some ⟨(w.heap.size + 1), 2, none⟩)) ?_
                refine jf (.int .i64 s.dy) hB1 2 load_int ?_
                refine jv (.bool true) (exec_lss _ _ _ _ (by rfl) .i64 s2.dy s.dy (by rfl) (by rfl) true (decide_eq_true h8)) ?_
                refine jz fun X7 hX7 => ?_
                have hB0 := hB0.bel hX7
                have hB1 := hB1.bel hX7
                have hB2 := hB2.bel hX7
                have hb := bel_next hb hX7
                clear hX7
                have HE : Hid (ctr mk48 nm48 r s s2 = 3) := HCT.out.trans ((ctO_n H1.out H2.out H3.out H4.out).trans (by rw [if_neg H5.out, if_neg (fun h9 => h9.2 H7.out), if_pos h8]))
                go_upto_region 14 with (fail)
                refine jp ?_
                refine jm (.int .i64 3) ?_
                refine jz fun X8 hX8 => ?_
                have hB0 := hB0.bel hX8
                have hB1 := hB1.bel hX8
                have hB2 := hB2.bel hX8
                have hb := bel_next hb hX8
                clear hX8
                go_wp2
                go_ret
                exact ⟨by rw [HE.out]; rfl, hb⟩
              · go_upto_region 13 with (fail)
                refine jp ?_
                refine jn (.pointer (some ⟨(w.heap.size + 2), 2, none⟩)) ?_
                refine jf (.int .i64 s2.dy) hB2 2 load_int ?_
                refine jn (.pointer (some ⟨(w.heap.size + 1), 2, none⟩)) ?_
                refine jf (.int .i64 s.dy) hB1 2 load_int ?_
                refine jv (.bool false) (exec_lss _ _ _ _ (by rfl) .i64 s2.dy s.dy (by rfl) (by rfl) false (decide_eq_false h8)) ?_
                refine jz fun X7 hX7 => ?_
                have hB0 := hB0.bel hX7
                have hB1 := hB1.bel hX7
                have hB2 := hB2.bel hX7
                have hb := bel_next hb hX7
                clear hX7
                have HE : Hid (ctr mk48 nm48 r s s2 = 0) := HCT.out.trans ((ctO_n H1.out H2.out H3.out H4.out).trans (by rw [if_neg H5.out, if_neg (fun h9 => h9.2 H7.out), if_neg h8]))
                go_upto_region 15 with (fail)
                refine jp ?_
                refine jm (.int .i64 0) ?_
                refine jz fun X8 hX8 => ?_
                have hB0 := hB0.bel hX8
                have hB1 := hB1.bel hX8
                have hB2 := hB2.bel hX8
                have hb := bel_next hb hX8
                clear hX8
                go_wp2
                go_ret
                exact ⟨by rw [HE.out]; rfl, hb⟩
            · have H7 : Hid (s2.pv ≠ nm48 s) := h7
              clear h7
              go_upto_region 11 with (fail)
              refine jd ?_
              refine jn (.pointer (some ⟨(w.heap.size + 2), 1, none⟩)) ?_
              refine jf (.int .i64 s2.sq) hB2 1 load_int ?_
              refine jn (.pointer (some ⟨(w.heap.size + 1), 1, none⟩)) ?_
              refine jf (.int .i64 s.sq) hB1 1 load_int ?_
              refine jv (.int .i64 (s.sq + 1)) (exec_add _ _ _ _ (by rfl) s.sq 1 (s.sq + 1) (by rfl) (by rfl) (by omega) (by omega) (by omega)) ?_
              refine jv (.bool true) (exec_eqi _ _ _ _ (by rfl) .i64 s2.sq (s.sq + 1) (by rfl) (by rfl) true (decide_eq_true H6.out.symm)) ?_
              refine jm (.bool true) ?_
              refine jn (.pointer (some ⟨(w.heap.size + 2), 5, none⟩)) ?_
              refine jg (.agg (s2.pv.map B8).toArray) (fun X hX hF => exec_inr 26 _ (by rfl) (w.heap.size + 2) 5 (s2.pv.map B8) (by rfl) Tryd.underlying26 rfl X (hB2.bel hX) (slc_pv hs2) (info_d16 hs2.pv)) ?_
              refine jg (.agg (slc s).toArray) (fun X hX hF => exec_lda 28 _ (by rfl) (w.heap.size + 1) (by rfl) Tryd.underlying28 rfl X (hB1.bel hX) (info_slc hs)) ?_
              refine jc (.agg ((nm48 s).map B8).toArray) (fun X hX hF => rnmC s X hs (by omega) (HKK.out X (bel_next hb hX))) ?_
              refine jv (.bool true) (exec_nedg _ _ _ (by rfl) s2.pv (nm48 s) hs2.pv (nm_len _) (by rfl) (by rfl) _ (nes_t H7.out)) ?_
              refine jm (.bool true) ?_
              refine jz fun X6 hX6 => ?_
              have hB0 := hB0.bel hX6
              have hB1 := hB1.bel hX6
              have hB2 := hB2.bel hX6
              have hb := bel_next hb hX6
              clear hX6
              have HE : Hid (ctr mk48 nm48 r s s2 = 2) := HCT.out.trans ((ctO_n H1.out H2.out H3.out H4.out).trans (by rw [if_neg H5.out, if_pos ⟨H6.out, H7.out⟩]))
              go_upto_region 12 with (fail)
              refine jp ?_
              refine jm (.int .i64 2) ?_
              refine jz fun X7 hX7 => ?_
              have hB0 := hB0.bel hX7
              have hB1 := hB1.bel hX7
              have hB2 := hB2.bel hX7
              have hb := bel_next hb hX7
              clear hX7
              go_wp2
              go_ret
              exact ⟨by rw [HE.out]; rfl, hb⟩
          · have H6 : Hid (¬ s.sq + 1 = s2.sq) := h6
            clear h6
            go_upto_region 11 with (fail)
            refine jd ?_
            refine jn (.pointer (some ⟨(w.heap.size + 2), 1, none⟩)) ?_
            refine jf (.int .i64 s2.sq) hB2 1 load_int ?_
            refine jn (.pointer (some ⟨(w.heap.size + 1), 1, none⟩)) ?_
            refine jf (.int .i64 s.sq) hB1 1 load_int ?_
            refine jv (.int .i64 (s.sq + 1)) (exec_add _ _ _ _ (by rfl) s.sq 1 (s.sq + 1) (by rfl) (by rfl) (by omega) (by omega) (by omega)) ?_
            refine jv (.bool false) (exec_eqi _ _ _ _ (by rfl) .i64 s2.sq (s.sq + 1) (by rfl) (by rfl) false (decide_eq_false (fun h9 => H6.out h9.symm))) ?_
            refine jm (.bool false) ?_
            refine js ?_
            refine js ?_
            refine js ?_
            refine js ?_
            refine js ?_
            refine jm (.bool false) ?_
            refine jz fun X6 hX6 => ?_
            have hB0 := hB0.bel hX6
            have hB1 := hB1.bel hX6
            have hB2 := hB2.bel hX6
            have hb := bel_next hb hX6
            clear hX6
            by_cases h8 : s2.dy < s.dy
            · go_upto_region 13 with (fail)
              refine jp ?_
              refine jn (.pointer (some ⟨(w.heap.size + 2), 2, none⟩)) ?_
              refine jf (.int .i64 s2.dy) hB2 2 load_int ?_
              refine jn (.pointer (some ⟨(w.heap.size + 1), 2, none⟩)) ?_
              refine jf (.int .i64 s.dy) hB1 2 load_int ?_
              refine jv (.bool true) (exec_lss _ _ _ _ (by rfl) .i64 s2.dy s.dy (by rfl) (by rfl) true (decide_eq_true h8)) ?_
              refine jz fun X7 hX7 => ?_
              have hB0 := hB0.bel hX7
              have hB1 := hB1.bel hX7
              have hB2 := hB2.bel hX7
              have hb := bel_next hb hX7
              clear hX7
              have HE : Hid (ctr mk48 nm48 r s s2 = 3) := HCT.out.trans ((ctO_n H1.out H2.out H3.out H4.out).trans (by rw [if_neg H5.out, if_neg (fun h9 => H6.out h9.1), if_pos h8]))
              go_upto_region 14 with (fail)
              refine jp ?_
              refine jm (.int .i64 3) ?_
              refine jz fun X8 hX8 => ?_
              have hB0 := hB0.bel hX8
              have hB1 := hB1.bel hX8
              have hB2 := hB2.bel hX8
              have hb := bel_next hb hX8
              clear hX8
              go_wp2
              go_ret
              exact ⟨by rw [HE.out]; rfl, hb⟩
            · go_upto_region 13 with (fail)
              refine jp ?_
              refine jn (.pointer (some ⟨(w.heap.size + 2), 2, none⟩)) ?_
              refine jf (.int .i64 s2.dy) hB2 2 load_int ?_
              refine jn (.pointer (some ⟨(w.heap.size + 1), 2, none⟩)) ?_
              refine jf (.int .i64 s.dy) hB1 2 load_int ?_
              refine jv (.bool false) (exec_lss _ _ _ _ (by rfl) .i64 s2.dy s.dy (by rfl) (by rfl) false (decide_eq_false h8)) ?_
              refine jz fun X7 hX7 => ?_
              have hB0 := hB0.bel hX7
              have hB1 := hB1.bel hX7
              have hB2 := hB2.bel hX7
              have hb := bel_next hb hX7
              clear hX7
              have HE : Hid (ctr mk48 nm48 r s s2 = 0) := HCT.out.trans ((ctO_n H1.out H2.out H3.out H4.out).trans (by rw [if_neg H5.out, if_neg (fun h9 => H6.out h9.1), if_neg h8]))
              go_upto_region 15 with (fail)
              refine jp ?_
              refine jm (.int .i64 0) ?_
              refine jz fun X8 hX8 => ?_
              have hB0 := hB0.bel hX8
              have hB1 := hB1.bel hX8
              have hB2 := hB2.bel hX8
              have hb := bel_next hb hX8
              clear hX8
              go_wp2
              go_ret
              exact ⟨by rw [HE.out]; rfl, hb⟩
      · have H3 : Hid (s.st ≠ s2.st) := h3
        clear h3
        go_upto_region 3 with (fail)
        refine jp ?_
        refine jm (.bool true) ?_
        refine jm (.bool false) ?_
        refine jm (.bool false) ?_
        refine jm (.bool true) ?_
        refine jm (.bool false) ?_
        refine jm (.bool false) ?_
        refine jm (.bool false) ?_
        refine jn (.pointer (some ⟨(w.heap.size + 1), 0, none⟩)) ?_
        refine jf (.int .i64 s.st) hB1 0 load_int ?_
        refine jn (.pointer (some ⟨(w.heap.size + 2), 0, none⟩)) ?_
        refine jf (.int .i64 s2.st) hB2 0 load_int ?_
        refine jv (.bool true) (exec_nei _ _ _ _ (by rfl) .i64 s.st s2.st (by rfl) (by rfl) true (by rw [decide_eq_false H3.out]; rfl)) ?_
        refine jm (.bool true) ?_
        refine jz fun X3 hX3 => ?_
        have hB0 := hB0.bel hX3
        have hB1 := hB1.bel hX3
        have hB2 := hB2.bel hX3
        have hb := bel_next hb hX3
        clear hX3
        have HE : Hid (ctr mk48 nm48 r s s2 = 0) := HCT.out.trans (ctO_0 (.inr (.inr (.inl H3.out))))
        go_upto_region 4 with (fail)
        refine jp ?_
        refine jm (.int .i64 0) ?_
        refine jz fun X4 hX4 => ?_
        have hB0 := hB0.bel hX4
        have hB1 := hB1.bel hX4
        have hB2 := hB2.bel hX4
        have hb := bel_next hb hX4
        clear hX4
        go_wp2
        go_ret
        exact ⟨by rw [HE.out]; rfl, hb⟩
theorem rct1 (A : Option Addr) (n c : Nat) (r : List (List UInt8)) (w : World) (hr : Rd w 1 (.slice A n c) n (r.map tx)) (hln : r.length = n) (hn1 : n ≤ 9223372036854775807) (s s2 : Sl) (hs : SlOk s) (hs2 : SlOk s2) (hK : KK0 w) (h : s2.sq < s.sq) : Calls Tryd.prog 27 #[.agg #[.slice A n c], .agg (slc s).toArray, .agg (slc s2).toArray] w fun e w' => e = .returned (.int .i64 (ctr mk48 nm48 r s s2)) ∧ Since w w' := by
  have hz := zero16
  have hzs := zeroSl
  have hzm := zeroMd
  have HKK : Hid (∀ X, Since w X → KK0 X) := fun X h => KK0.since hK h
  have HRX : Hid (∀ X, Since w X → Rd X 1 (.slice A n c) n (r.map tx)) := fun X h => hr.below h
  have HLN := Lib.hid hln
  clear hK hr hln
  go_enter Tryd.func27, Tryd.ntmps27
  go_upto_region 1 with (fail)
  obtain ⟨W0, hW0, hB0, hB1, hB2, hb⟩ := start3 w 24 28 28 [.slice A n c] (slc s) (slc s2)
  rw [← hW0]
  clear hW0
  cases h1 : rgt mk48 r s
  · cases h2 : rgt mk48 r s2
    · have H1 := Lib.hid h1
      clear h1
      have H2 := Lib.hid h2
      clear h2
      refine jp ?_
      refine ja hB0 Tryd.underlying24 (by rfl) info_rg ?_
      refine jg (.agg (slc s).toArray) (fun X hX hF => exec_lda 28 _ (by rfl) (w.heap.size + 1) (by rfl) Tryd.underlying28 rfl X (hB1.bel hX) (info_slc hs)) ?_
      refine jc (.bool false) (fun X hX hF => mo (rrgC A n c r X (HRX.out X (bel_next hb hX)) HLN.out hn1 s hs (HKK.out X (bel_next hb hX))) (by rw [H1.out])) ?_
      refine jm (.bool false) ?_
      refine jz fun X1 hX1 => ?_
      have hB0 := hB0.bel hX1
      have hB1 := hB1.bel hX1
      have hB2 := hB2.bel hX1
      have hb := bel_next hb hX1
      clear hX1
      go_upto_region 2 with (fail)
      refine jp ?_
      refine ja hB0 Tryd.underlying24 (by rfl) info_rg ?_
      refine jg (.agg (slc s2).toArray) (fun X hX hF => exec_lda 28 _ (by rfl) (w.heap.size + 2) (by rfl) Tryd.underlying28 rfl X (hB2.bel hX) (info_slc hs2)) ?_
      refine jc (.bool false) (fun X hX hF => mo (rrgC A n c r X (HRX.out X (bel_next hb hX)) HLN.out hn1 s2 hs2 (HKK.out X (bel_next hb hX))) (by rw [H2.out])) ?_
      refine jm (.bool false) ?_
      refine jz fun X2 hX2 => ?_
      have hB0 := hB0.bel hX2
      have hB1 := hB1.bel hX2
      have hB2 := hB2.bel hX2
      have hb := bel_next hb hX2
      clear hX2
      go_upto_region 3 with (fail)
      refine jp ?_
      refine jm (.bool false) ?_
      refine jm (.bool true) ?_
      refine jm (.bool true) ?_
      refine js ?_
      refine js ?_
      refine jm (.bool true) ?_
      refine jm (.bool true) ?_
      refine js ?_
      refine js ?_
      refine js ?_
      refine js ?_
      refine js ?_
      refine jm (.bool true) ?_
      refine jz fun X3 hX3 => ?_
      have hB0 := hB0.bel hX3
      have hB1 := hB1.bel hX3
      have hB2 := hB2.bel hX3
      have hb := bel_next hb hX3
      clear hX3
      have HE : Hid (ctr mk48 nm48 r s s2 = 0) := (if_pos h).trans (ctO_0 (.inl H2.out))
      go_upto_region 4 with (fail)
      refine jp ?_
      refine jm (.int .i64 0) ?_
      refine jz fun X4 hX4 => ?_
      have hB0 := hB0.bel hX4
      have hB1 := hB1.bel hX4
      have hB2 := hB2.bel hX4
      have hb := bel_next hb hX4
      clear hX4
      go_wp2
      go_ret
      exact ⟨by rw [HE.out]; rfl, hb⟩
    · have H1 := Lib.hid h1
      clear h1
      have H2 := Lib.hid h2
      clear h2
      refine jp ?_
      refine ja hB0 Tryd.underlying24 (by rfl) info_rg ?_
      refine jg (.agg (slc s).toArray) (fun X hX hF => exec_lda 28 _ (by rfl) (w.heap.size + 1) (by rfl) Tryd.underlying28 rfl X (hB1.bel hX) (info_slc hs)) ?_
      refine jc (.bool false) (fun X hX hF => mo (rrgC A n c r X (HRX.out X (bel_next hb hX)) HLN.out hn1 s hs (HKK.out X (bel_next hb hX))) (by rw [H1.out])) ?_
      refine jm (.bool false) ?_
      refine jz fun X1 hX1 => ?_
      have hB0 := hB0.bel hX1
      have hB1 := hB1.bel hX1
      have hB2 := hB2.bel hX1
      have hb := bel_next hb hX1
      clear hX1
      go_upto_region 2 with (fail)
      refine jp ?_
      refine ja hB0 Tryd.underlying24 (by rfl) info_rg ?_
      refine jg (.agg (slc s2).toArray) (fun X hX hF => exec_lda 28 _ (by rfl) (w.heap.size + 2) (by rfl) Tryd.underlying28 rfl X (hB2.bel hX) (info_slc hs2)) ?_
      refine jc (.bool true) (fun X hX hF => mo (rrgC A n c r X (HRX.out X (bel_next hb hX)) HLN.out hn1 s2 hs2 (HKK.out X (bel_next hb hX))) (by rw [H2.out])) ?_
      refine jm (.bool true) ?_
      refine jz fun X2 hX2 => ?_
      have hB0 := hB0.bel hX2
      have hB1 := hB1.bel hX2
      have hB2 := hB2.bel hX2
      have hb := bel_next hb hX2
      clear hX2
      go_upto_region 3 with (fail)
      refine jp ?_
      refine jm (.bool false) ?_
      refine jm (.bool true) ?_
      refine jm (.bool true) ?_
      refine js ?_
      refine js ?_
      refine jm (.bool true) ?_
      refine jm (.bool true) ?_
      refine js ?_
      refine js ?_
      refine js ?_
      refine js ?_
      refine js ?_
      refine jm (.bool true) ?_
      refine jz fun X3 hX3 => ?_
      have hB0 := hB0.bel hX3
      have hB1 := hB1.bel hX3
      have hB2 := hB2.bel hX3
      have hb := bel_next hb hX3
      clear hX3
      have HE : Hid (ctr mk48 nm48 r s s2 = 0) := (if_pos h).trans (ctO_0 (.inr (.inl H1.out)))
      go_upto_region 4 with (fail)
      refine jp ?_
      refine jm (.int .i64 0) ?_
      refine jz fun X4 hX4 => ?_
      have hB0 := hB0.bel hX4
      have hB1 := hB1.bel hX4
      have hB2 := hB2.bel hX4
      have hb := bel_next hb hX4
      clear hX4
      go_wp2
      go_ret
      exact ⟨by rw [HE.out]; rfl, hb⟩
  · cases h2 : rgt mk48 r s2
    · have H1 := Lib.hid h1
      clear h1
      have H2 := Lib.hid h2
      clear h2
      refine jp ?_
      refine ja hB0 Tryd.underlying24 (by rfl) info_rg ?_
      refine jg (.agg (slc s).toArray) (fun X hX hF => exec_lda 28 _ (by rfl) (w.heap.size + 1) (by rfl) Tryd.underlying28 rfl X (hB1.bel hX) (info_slc hs)) ?_
      refine jc (.bool true) (fun X hX hF => mo (rrgC A n c r X (HRX.out X (bel_next hb hX)) HLN.out hn1 s hs (HKK.out X (bel_next hb hX))) (by rw [H1.out])) ?_
      refine jm (.bool true) ?_
      refine jz fun X1 hX1 => ?_
      have hB0 := hB0.bel hX1
      have hB1 := hB1.bel hX1
      have hB2 := hB2.bel hX1
      have hb := bel_next hb hX1
      clear hX1
      go_upto_region 2 with (fail)
      refine jp ?_
      refine ja hB0 Tryd.underlying24 (by rfl) info_rg ?_
      refine jg (.agg (slc s2).toArray) (fun X hX hF => exec_lda 28 _ (by rfl) (w.heap.size + 2) (by rfl) Tryd.underlying28 rfl X (hB2.bel hX) (info_slc hs2)) ?_
      refine jc (.bool false) (fun X hX hF => mo (rrgC A n c r X (HRX.out X (bel_next hb hX)) HLN.out hn1 s2 hs2 (HKK.out X (bel_next hb hX))) (by rw [H2.out])) ?_
      refine jm (.bool false) ?_
      refine jz fun X2 hX2 => ?_
      have hB0 := hB0.bel hX2
      have hB1 := hB1.bel hX2
      have hB2 := hB2.bel hX2
      have hb := bel_next hb hX2
      clear hX2
      go_upto_region 3 with (fail)
      refine jp ?_
      refine jm (.bool true) ?_
      refine jm (.bool false) ?_
      refine jm (.bool false) ?_
      refine jm (.bool false) ?_
      refine jm (.bool true) ?_
      refine jm (.bool true) ?_
      refine jm (.bool true) ?_
      refine js ?_
      refine js ?_
      refine js ?_
      refine js ?_
      refine js ?_
      refine jm (.bool true) ?_
      refine jz fun X3 hX3 => ?_
      have hB0 := hB0.bel hX3
      have hB1 := hB1.bel hX3
      have hB2 := hB2.bel hX3
      have hb := bel_next hb hX3
      clear hX3
      have HE : Hid (ctr mk48 nm48 r s s2 = 0) := (if_pos h).trans (ctO_0 (.inl H2.out))
      go_upto_region 4 with (fail)
      refine jp ?_
      refine jm (.int .i64 0) ?_
      refine jz fun X4 hX4 => ?_
      have hB0 := hB0.bel hX4
      have hB1 := hB1.bel hX4
      have hB2 := hB2.bel hX4
      have hb := bel_next hb hX4
      clear hX4
      go_wp2
      go_ret
      exact ⟨by rw [HE.out]; rfl, hb⟩
    · have H1 := Lib.hid h1
      clear h1
      have H2 := Lib.hid h2
      clear h2
      refine jp ?_
      refine ja hB0 Tryd.underlying24 (by rfl) info_rg ?_
      refine jg (.agg (slc s).toArray) (fun X hX hF => exec_lda 28 _ (by rfl) (w.heap.size + 1) (by rfl) Tryd.underlying28 rfl X (hB1.bel hX) (info_slc hs)) ?_
      refine jc (.bool true) (fun X hX hF => mo (rrgC A n c r X (HRX.out X (bel_next hb hX)) HLN.out hn1 s hs (HKK.out X (bel_next hb hX))) (by rw [H1.out])) ?_
      refine jm (.bool true) ?_
      refine jz fun X1 hX1 => ?_
      have hB0 := hB0.bel hX1
      have hB1 := hB1.bel hX1
      have hB2 := hB2.bel hX1
      have hb := bel_next hb hX1
      clear hX1
      go_upto_region 2 with (fail)
      refine jp ?_
      refine ja hB0 Tryd.underlying24 (by rfl) info_rg ?_
      refine jg (.agg (slc s2).toArray) (fun X hX hF => exec_lda 28 _ (by rfl) (w.heap.size + 2) (by rfl) Tryd.underlying28 rfl X (hB2.bel hX) (info_slc hs2)) ?_
      refine jc (.bool true) (fun X hX hF => mo (rrgC A n c r X (HRX.out X (bel_next hb hX)) HLN.out hn1 s2 hs2 (HKK.out X (bel_next hb hX))) (by rw [H2.out])) ?_
      refine jm (.bool true) ?_
      refine jz fun X2 hX2 => ?_
      have hB0 := hB0.bel hX2
      have hB1 := hB1.bel hX2
      have hB2 := hB2.bel hX2
      have hb := bel_next hb hX2
      clear hX2
      have hq1 := frm_sq ((rgt_iff mk48).1 H1.out).2.1
      have hq2 := (frm_of ((rgt_iff mk48).1 H1.out).2.1).2.2
      by_cases h3 : s.st = s2.st
      · have H3 := Lib.hid h3
        clear h3
        go_upto_region 3 with (fail)
        refine jp ?_
        refine jm (.bool true) ?_
        refine jm (.bool false) ?_
        refine jm (.bool false) ?_
        refine jm (.bool true) ?_
        refine jm (.bool false) ?_
        refine jm (.bool false) ?_
        refine jm (.bool false) ?_
        refine jn (.pointer (some ⟨(w.heap.size + 1), 0, none⟩)) ?_
        refine jf (.int .i64 s.st) hB1 0 load_int ?_
        refine jn (.pointer (some ⟨(w.heap.size + 2), 0, none⟩)) ?_
        refine jf (.int .i64 s2.st) hB2 0 load_int ?_
        refine jv (.bool false) (exec_nei _ _ _ _ (by rfl) .i64 s.st s2.st (by rfl) (by rfl) false (by rw [decide_eq_true H3.out]; rfl)) ?_
        refine jm (.bool false) ?_
        refine jz fun X3 hX3 => ?_
        have hB0 := hB0.bel hX3
        have hB1 := hB1.bel hX3
        have hB2 := hB2.bel hX3
        have hb := bel_next hb hX3
        clear hX3
        go_upto_region 5 with (fail)
        refine jp ?_
        refine jn (.pointer (some ⟨(w.heap.size + 1), 1, none⟩)) ?_
        refine jf (.int .i64 s.sq) hB1 1 load_int ?_
        refine jn (.pointer (some ⟨(w.heap.size + 2), 1, none⟩)) ?_
        refine jf (.int .i64 s2.sq) hB2 1 load_int ?_
        refine jv (.bool true) (exec_gtr _ _ _ _ (by rfl) .i64 s.sq s2.sq (by rfl) (by rfl) true (decide_eq_true (by omega))) ?_
        refine jz fun X4 hX4 => ?_
        have hB0 := hB0.bel hX4
        have hB1 := hB1.bel hX4
        have hB2 := hB2.bel hX4
        have hb := bel_next hb hX4
        clear hX4
        have HSW : Hid (ctr mk48 nm48 r s2 s = ctr mk48 nm48 r s s2) := ctr_comm mk48 nm48 r s2 s
        go_upto_region 6 with (fail)
        refine jp ?_
        refine ja hB0 Tryd.underlying24 (by rfl) info_rg ?_
        refine jg (.agg (slc s2).toArray) (fun X hX hF => exec_lda 28 _ (by rfl) (w.heap.size + 2) (by rfl) Tryd.underlying28 rfl X (hB2.bel hX) (info_slc hs2)) ?_
        refine jg (.agg (slc s).toArray) (fun X hX hF => exec_lda 28 _ (by rfl) (w.heap.size + 1) (by rfl) Tryd.underlying28 rfl X (hB1.bel hX) (info_slc hs)) ?_
        refine jc (.int .i64 (ctr mk48 nm48 r s s2)) (fun X hX hF => mo (rct2 A n c r X (HRX.out X (bel_next hb hX)) HLN.out hn1 s2 s hs2 hs (HKK.out X (bel_next hb hX)) (by omega)) (by rw [HSW.out])) ?_
        refine jm (.int .i64 (ctr mk48 nm48 r s s2)) ?_
        refine jz fun X5 hX5 => ?_
        have hB0 := hB0.bel hX5
        have hB1 := hB1.bel hX5
        have hB2 := hB2.bel hX5
        have hb := bel_next hb hX5
        clear hX5
        go_wp2
        go_ret
        exact ⟨rfl, hb⟩
      · have H3 : Hid (s.st ≠ s2.st) := h3
        clear h3
        go_upto_region 3 with (fail)
        refine jp ?_
        refine jm (.bool true) ?_
        refine jm (.bool false) ?_
        refine jm (.bool false) ?_
        refine jm (.bool true) ?_
        refine jm (.bool false) ?_
        refine jm (.bool false) ?_
        refine jm (.bool false) ?_
        refine jn (.pointer (some ⟨(w.heap.size + 1), 0, none⟩)) ?_
        refine jf (.int .i64 s.st) hB1 0 load_int ?_
        refine jn (.pointer (some ⟨(w.heap.size + 2), 0, none⟩)) ?_
        refine jf (.int .i64 s2.st) hB2 0 load_int ?_
        refine jv (.bool true) (exec_nei _ _ _ _ (by rfl) .i64 s.st s2.st (by rfl) (by rfl) true (by rw [decide_eq_false H3.out]; rfl)) ?_
        refine jm (.bool true) ?_
        refine jz fun X3 hX3 => ?_
        have hB0 := hB0.bel hX3
        have hB1 := hB1.bel hX3
        have hB2 := hB2.bel hX3
        have hb := bel_next hb hX3
        clear hX3
        have HE : Hid (ctr mk48 nm48 r s s2 = 0) := (if_pos h).trans (ctO_0 (.inr (.inr (.inl fun h9 => H3.out h9.symm))))
        go_upto_region 4 with (fail)
        refine jp ?_
        refine jm (.int .i64 0) ?_
        refine jz fun X4 hX4 => ?_
        have hB0 := hB0.bel hX4
        have hB1 := hB1.bel hX4
        have hB2 := hB2.bel hX4
        have hb := bel_next hb hX4
        clear hX4
        go_wp2
        go_ret
        exact ⟨by rw [HE.out]; rfl, hb⟩
theorem rctC (A : Option Addr) (n c : Nat) (r : List (List UInt8)) (w : World) (hr : Rd w 1 (.slice A n c) n (r.map tx)) (hln : r.length = n) (hn1 : n ≤ 9223372036854775807) (s s2 : Sl) (hs : SlOk s) (hs2 : SlOk s2) (hK : KK0 w) : Calls Tryd.prog 27 #[.agg #[.slice A n c], .agg (slc s).toArray, .agg (slc s2).toArray] w fun e w' => e = .returned (.int .i64 (ctr mk48 nm48 r s s2)) ∧ Since w w' := by
  by_cases h : s2.sq < s.sq
  · exact rct1 A n c r w hr hln hn1 s s2 hs hs2 hK h
  · exact rct2 A n c r w hr hln hn1 s s2 hs hs2 hK (by omega)
end Go.Proofs.YthinopepcmidmaaDoor
