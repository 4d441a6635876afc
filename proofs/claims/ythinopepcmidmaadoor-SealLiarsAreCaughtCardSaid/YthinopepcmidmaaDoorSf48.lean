/-
  seal: Seal, Right, Name.
-/
import Derived.Test.YthinopepcmidmaaDoorSe48
set_option linter.unusedSimpArgs false
set_option linter.unusedVariables false
set_option maxRecDepth 100000
set_option maxHeartbeats 1600000
namespace Go.Proofs.YthinopepcmidmaaDoor
open Go.RowKit
theorem slE_ck {r : List (List UInt8)} {s : Sl} (h : rckE r ≠ 0) : slE r s = rckE r := if_pos h
theorem slE_bad {r : List (List UInt8)} {s : Sl} (h : rckE r = 0) (h2 : frm r s = false) : slE r s = 3 := by
  unfold slE
  rw [if_neg (by omega), if_neg (by rw [h2]; decide)]
theorem slE_ok {r : List (List UInt8)} {s : Sl} (h : rckE r = 0) (h2 : frm r s = true) : slE r s = 0 := by
  unfold slE
  rw [if_neg (by omega), if_pos h2]
theorem slS_no {r : List (List UInt8)} {s : Sl} (h : slE r s ≠ 0) : slS mk48 r s = sl0 := if_neg h
theorem slS_yes {r : List (List UInt8)} {s : Sl} (h : slE r s = 0) : slS mk48 r s = s.put (mk48 (sec r s.st.toNat) s) := if_pos h
theorem frm_of {r : List (List UInt8)} {s : Sl} (h : frm r s = true) : 0 ≤ s.st ∧ s.st ≤ (r.length : Int) - 1 ∧ s.bd.length ≤ 4096 := by
  unfold frm at h
  rw [decide_eq_true_eq] at h
  exact ⟨h.1, h.2.1, h.2.2.2.2.2.2.2.2.1⟩
theorem rck_sec {r : List (List UInt8)} (h : rckE r = 0) {k : Nat} (hk : k < r.length) : (sec r k).length ≤ 64 := by
  unfold rckE at h
  split at h
  · cases h
  · split at h
    · rename_i h9
      rw [List.all_eq_true] at h9
      have h8 := h9 r[k] (List.getElem_mem hk)
      rw [decide_eq_true_eq] at h8
      unfold sec
      rw [List.getD_eq_getElem?_getD, List.getElem?_eq_getElem hk]
      exact h8.2
    · cases h
theorem ssl1 (A : Option Addr) (n c : Nat) (r : List (List UInt8)) (w : World) (hr : Rd w 1 (.slice A n c) n (r.map tx)) (hln : r.length = n) (hn1 : n ≤ 9223372036854775807) (s : Sl) (hs : SlOk s) (hK : KK w) (h : ¬ rckE r = 0) : Calls Tryd.prog 11 #[.agg #[.slice A n c], .agg (slc s).toArray] w fun e w' => e = .returned (.tuple #[.agg (slc (slS mk48 r s)).toArray, .int .i64 (slE r s)]) ∧ Since w w' := by
  have HC : Hid (¬ rckE r = 0) := h
  have HE : Hid (slE r s = rckE r ∧ slS mk48 r s = sl0) := ⟨slE_ck h, slS_no (by rw [slE_ck h]; exact h)⟩
  clear h
  have hz := zero16
  have hzs := zeroSl
  have HKK : Hid (∀ X, Since w X → KK X) := fun X h => hK.below h hK.1
  have HRX : Hid (∀ X, Since w X → Rd X 1 (.slice A n c) n (r.map tx)) := fun X h => hr.below h
  have HLN := Lib.hid hln
  clear hK hr hln
  go_enter Tryd.func11, Tryd.ntmps11
  go_upto_region 1 with (fail)
  obtain ⟨W0, hW0, hB0, hB1, hB2, hb⟩ := start3 w 24 28 28 [.slice A n c] (slc s) (slc sl0)
  rw [← hW0]
  clear hW0
  refine jp ?_
  refine ja hB0 Tryd.underlying24 (by rfl) info_rg ?_
  refine jc (.int .i64 (rckE r)) (fun X hX hF => sckC A n c r X (HRX.out X (bel_next hb hX)) HLN.out hn1) ?_
  refine jm (.int .i64 (rckE r)) ?_
  refine jz fun X1 hX1 => ?_
  have hB0 := hB0.bel hX1
  have hB1 := hB1.bel hX1
  have hB2 := hB2.bel hX1
  have hb := bel_next hb hX1
  clear hX1
  go_upto_region 2 with (fail)
  refine jp ?_
  refine jm (.int .i64 (rckE r)) ?_
  refine jv (.bool true) (exec_nei _ _ _ _ (by rfl) .i64 (rckE r) 0 (by rfl) (by rfl) true (by rw [decide_eq_false HC.out]; rfl)) ?_
  refine jz fun X2 hX2 => ?_
  have hB0 := hB0.bel hX2
  have hB1 := hB1.bel hX2
  have hB2 := hB2.bel hX2
  have hb := bel_next hb hX2
  clear hX2
  go_upto_region 3 with (fail)
  refine jq 2 ?_
  refine jv (.agg (slc sl0).toArray) (exec_bs0 (by rfl)) ?_
  refine jm (.int .i64 (rckE r)) ?_
  refine jz fun X3 hX3 => ?_
  have hB0 := hB0.bel hX3
  have hB1 := hB1.bel hX3
  have hB2 := hB2.bel hX3
  have hb := bel_next hb hX3
  clear hX3
  refine op_store_blk rfl 28 (.tmp 4) (.tmp 12) rfl (w.heap.size + 2) 28 _ hB2 rfl (slc sl0) rfl ((SlOk.len ok0).trans (SlOk.len ok0).symm) slc_one (info_slc ok0) ?_
  intro w9 hR9 hO9 hB9 hs9
  have hb9 := hB9 _ _ hb (by omega)
  clear hO9 hB9
  go_wp2
  refine post_cell2 (v := .int .i64 (rckE r)) rfl rfl (by rfl) (by rfl) Tryd.underlying28 rfl hR9 (info_slc ok0) ⟨by rw [HE.out.1, HE.out.2], hb9⟩
theorem ssl2 (A : Option Addr) (n c : Nat) (r : List (List UInt8)) (w : World) (hr : Rd w 1 (.slice A n c) n (r.map tx)) (hln : r.length = n) (hn1 : n ≤ 9223372036854775807) (s : Sl) (hs : SlOk s) (hK : KK w) (h : rckE r = 0) (h2 : frm r s = false) : Calls Tryd.prog 11 #[.agg #[.slice A n c], .agg (slc s).toArray] w fun e w' => e = .returned (.tuple #[.agg (slc (slS mk48 r s)).toArray, .int .i64 (slE r s)]) ∧ Since w w' := by
  have HC := Lib.hid h
  have HF := Lib.hid h2
  have HE : Hid (slE r s = 3 ∧ slS mk48 r s = sl0) := ⟨slE_bad h h2, slS_no (by rw [slE_bad h h2]; decide)⟩
  clear h h2
  have hz := zero16
  have hzs := zeroSl
  have HKK : Hid (∀ X, Since w X → KK X) := fun X h => hK.below h hK.1
  have HRX : Hid (∀ X, Since w X → Rd X 1 (.slice A n c) n (r.map tx)) := fun X h => hr.below h
  have HLN := Lib.hid hln
  clear hK hr hln
  go_enter Tryd.func11, Tryd.ntmps11
  go_upto_region 1 with (fail)
  obtain ⟨W0, hW0, hB0, hB1, hB2, hb⟩ := start3 w 24 28 28 [.slice A n c] (slc s) (slc sl0)
  rw [← hW0]
  clear hW0
  refine jp ?_
  refine ja hB0 Tryd.underlying24 (by rfl) info_rg ?_
  refine jc (.int .i64 (rckE r)) (fun X hX hF => sckC A n c r X (HRX.out X (bel_next hb hX)) HLN.out hn1) ?_
  refine jm (.int .i64 (rckE r)) ?_
  refine jz fun X1 hX1 => ?_
  have hB0 := hB0.bel hX1
  have hB1 := hB1.bel hX1
  have hB2 := hB2.bel hX1
  have hb := bel_next hb hX1
  clear hX1
  go_upto_region 2 with (fail)
  refine jp ?_
  refine jm (.int .i64 (rckE r)) ?_
  refine jv (.bool false) (exec_nei _ _ _ _ (by rfl) .i64 (rckE r) 0 (by rfl) (by rfl) false (by rw [decide_eq_true HC.out]; rfl)) ?_
  refine jz fun X2 hX2 => ?_
  have hB0 := hB0.bel hX2
  have hB1 := hB1.bel hX2
  have hB2 := hB2.bel hX2
  have hb := bel_next hb hX2
  clear hX2
  go_upto_region 4 with (fail)
  refine jp ?_
  refine ja hB0 Tryd.underlying24 (by rfl) info_rg ?_
  refine jg (.agg (slc s).toArray) (fun X hX hF => exec_lda 28 _ (by rfl) (w.heap.size + 1) (by rfl) Tryd.underlying28 rfl X (hB1.bel hX) (info_slc hs)) ?_
  refine jc (.bool false) (fun X hX hF => mo (sfoC A n c r X (HRX.out X (bel_next hb hX)) HLN.out hn1 s hs) (by rw [HF.out])) ?_
  refine jm (.bool true) ?_
  refine jz fun X3 hX3 => ?_
  have hB0 := hB0.bel hX3
  have hB1 := hB1.bel hX3
  have hB2 := hB2.bel hX3
  have hb := bel_next hb hX3
  clear hX3
  go_upto_region 5 with (fail)
  refine jq 1 ?_
  refine jv (.agg (slc sl0).toArray) (exec_bs0 (by rfl)) ?_
  refine jz fun X4 hX4 => ?_
  have hB0 := hB0.bel hX4
  have hB1 := hB1.bel hX4
  have hB2 := hB2.bel hX4
  have hb := bel_next hb hX4
  clear hX4
  refine op_store_blk rfl 28 (.tmp 4) (.tmp 18) rfl (w.heap.size + 2) 28 _ hB2 rfl (slc sl0) rfl ((SlOk.len ok0).trans (SlOk.len ok0).symm) slc_one (info_slc ok0) ?_
  intro w9 hR9 hO9 hB9 hs9
  have hb9 := hB9 _ _ hb (by omega)
  clear hO9 hB9
  go_wp2
  refine post_cell2 (v := .int .i64 3) rfl rfl (by rfl) (by rfl) Tryd.underlying28 rfl hR9 (info_slc ok0) ⟨by rw [HE.out.1, HE.out.2], hb9⟩
theorem ssl3 (A : Option Addr) (n c : Nat) (r : List (List UInt8)) (w : World) (hr : Rd w 1 (.slice A n c) n (r.map tx)) (hln : r.length = n) (hn1 : n ≤ 9223372036854775807) (s : Sl) (hs : SlOk s) (hK : KK w) (h : rckE r = 0) (h2 : frm r s = true) : Calls Tryd.prog 11 #[.agg #[.slice A n c], .agg (slc s).toArray] w fun e w' => e = .returned (.tuple #[.agg (slc (slS mk48 r s)).toArray, .int .i64 (slE r s)]) ∧ Since w w' := by
  have HC := Lib.hid h
  have HF := Lib.hid h2
  have hq := frm_of h2
  rw [hln] at hq
  obtain ⟨hq1, hq2, hq3⟩ := hq
  have hks := rck_sec h (k := s.st.toNat) (by rw [hln]; omega)
  obtain ⟨b, off, rfl, hbb, hcx⟩ := hr.strIn hln (k := s.st.toNat) (by omega)
  have HE : Hid (slE r s = 0 ∧ slS mk48 r s = s.put (mk48 (sec r s.st.toNat) s)) := ⟨slE_ok h h2, slS_yes (slE_ok h h2)⟩
  clear h h2
  have hz := zero16
  have hzs := zeroSl
  have HKK : Hid (∀ X, Since w X → KK X) := fun X h => hK.below h hK.1
  have HRX : Hid (∀ X, Since w X → Rd X 1 (.slice (some ⟨b, off, none⟩) n c) n (r.map tx)) := fun X h => hr.below h
  have HLN := Lib.hid hln
  clear hK hr hln
  obtain ⟨x, hx9⟩ : ∃ x, x = sec r s.st.toNat := ⟨_, rfl⟩
  have HX := Lib.hid hx9
  clear hx9
  rw [← HX.out] at hcx hks
  go_enter Tryd.func11, Tryd.ntmps11
  go_upto_region 1 with (fail)
  obtain ⟨W0, hW0, hB0, hB1, hB2, hb⟩ := start3 w 24 28 28 [.slice (some ⟨b, off, none⟩) n c] (slc s) (slc sl0)
  rw [← hW0]
  clear hW0
  have hcx := hcx.below hb hbb
  replace hbb := Nat.lt_of_lt_of_le hbb (hb).size
  refine jp ?_
  refine ja hB0 Tryd.underlying24 (by rfl) info_rg ?_
  refine jc (.int .i64 (rckE r)) (fun X hX hF => sckC (some ⟨b, off, none⟩) n c r X (HRX.out X (bel_next hb hX)) HLN.out hn1) ?_
  refine jm (.int .i64 (rckE r)) ?_
  refine jz fun X1 hX1 => ?_
  have hB0 := hB0.bel hX1
  have hB1 := hB1.bel hX1
  have hB2 := hB2.bel hX1
  have hcx := hcx.below hX1 hbb
  replace hbb := Nat.lt_of_lt_of_le hbb (hX1).size
  have hb := bel_next hb hX1
  clear hX1
  go_upto_region 2 with (fail)
  refine jp ?_
  refine jm (.int .i64 (rckE r)) ?_
  refine jv (.bool false) (exec_nei _ _ _ _ (by rfl) .i64 (rckE r) 0 (by rfl) (by rfl) false (by rw [decide_eq_true HC.out]; rfl)) ?_
  refine jz fun X2 hX2 => ?_
  have hB0 := hB0.bel hX2
  have hB1 := hB1.bel hX2
  have hB2 := hB2.bel hX2
  have hcx := hcx.below hX2 hbb
  replace hbb := Nat.lt_of_lt_of_le hbb (hX2).size
  have hb := bel_next hb hX2
  clear hX2
  go_upto_region 4 with (fail)
  refine jp ?_
  refine ja hB0 Tryd.underlying24 (by rfl) info_rg ?_
  refine jg (.agg (slc s).toArray) (fun X hX hF => exec_lda 28 _ (by rfl) (w.heap.size + 1) (by rfl) Tryd.underlying28 rfl X (hB1.bel hX) (info_slc hs)) ?_
  refine jc (.bool true) (fun X hX hF => mo (sfoC (some ⟨b, off, none⟩) n c r X (HRX.out X (bel_next hb hX)) HLN.out hn1 s hs) (by rw [HF.out])) ?_
  refine jm (.bool false) ?_
  refine jz fun X3 hX3 => ?_
  have hB0 := hB0.bel hX3
  have hB1 := hB1.bel hX3
  have hB2 := hB2.bel hX3
  have hcx := hcx.below hX3 hbb
  replace hbb := Nat.lt_of_lt_of_le hbb (hX3).size
  have hb := bel_next hb hX3
  clear hX3
  go_upto_region 6 with (fail)
  refine jp ?_
  refine jn (.pointer (some ⟨w.heap.size, 0, none⟩)) ?_
  refine jf (.slice (some ⟨b, off, none⟩) n c) hB0 0 load_sts ?_
  refine jn (.pointer (some ⟨(w.heap.size + 1), 0, none⟩)) ?_
  refine jf (.int .i64 s.st) hB1 0 load_int ?_
  refine jv (.pointer (some ⟨b, off + s.st.toNat * 1, none⟩)) (exec_ixv Tryd.underlying22 info_st1 _ _ (by rfl) b (off) n c s.st.toNat (by omega) (by rfl) (by rfl) (by omega)) ?_
  refine jg (st x) (fun X hX hF => exec_ld 9 _ (by rfl) b (off + s.st.toNat * 1) (by rfl) _ X ((hcx.below hX hbb) 0 _ rfl) (fun X u h => load_str b (off + s.st.toNat * 1) X u h)) ?_
  refine jv (.func (.func 31) #[st x] #[]) (exec_mkf _ _ (by rfl) _ (by rfl)) ?_
  refine jm (.func (.func 31) #[st x] #[]) ?_
  refine jz fun X4 hX4 => ?_
  have hB0 := hB0.bel hX4
  have hB1 := hB1.bel hX4
  have hB2 := hB2.bel hX4
  have hcx := hcx.below hX4 hbb
  replace hbb := Nat.lt_of_lt_of_le hbb (hX4).size
  have hb := bel_next hb hX4
  clear hX4
  go_upto_region 7 with (fail)
  refine jq 4 ?_
  refine jm (.func (.func 31) #[st x] #[]) ?_
  refine jg (.agg (slc s).toArray) (fun X hX hF => exec_lda 28 _ (by rfl) (w.heap.size + 1) (by rfl) Tryd.underlying28 rfl X (hB1.bel hX) (info_slc hs)) ?_
  refine lx_callm (by rfl) (.tmp 26) _ _ (by rfl) 31 [.string ⟨x.toArray⟩] (by rfl) (.agg ((mk48 x s).map B8).toArray) [.agg (slc s).toArray] (by rfl) (by kernel_rfl) (fun _ => by go_simp) (fun X hX hF => smkC x s X hs (by omega) (by omega) (HKK.out X (bel_next hb hX))) ?_
  simp only [pX]
  refine jn (.pointer (some ⟨(w.heap.size + 1), 21, none⟩)) ?_
  refine jz fun X5 hX5 => ?_
  have hB0 := hB0.bel hX5
  have hB1 := hB1.bel hX5
  have hB2 := hB2.bel hX5
  have hcx := hcx.below hX5 hbb
  replace hbb := Nat.lt_of_lt_of_le hbb (hX5).size
  have hb := bel_next hb hX5
  clear hX5
  refine op_store_part rfl 26 (.tmp 29) (.tmp 28) rfl (w.heap.size + 1) 21 28 _ hB1 (by rfl) ((mk48 x s).map B8) (by rfl) (by rw [hs.len, List.length_map, mk_len]; decide) (B8s_one _) (info_d16 (mk_len _ _)) ?_
  intro w5 hR5 hO5 hB5
  rw [slc_put hs (mk_len _ _)] at hR5
  have hB0 := hO5 _ _ _ (by omega) hB0
  have hB2 := hO5 _ _ _ (by omega) hB2
  have hs2 := hs.put (mk_len x s)
  have hb := hB5 _ _ hb (by omega)
  clear hB1 hO5 hB5 hcx hbb
  go_upto_region 8 with (fail)
  refine jq 1 ?_
  refine jg (.agg (slc (s.put (mk48 x s))).toArray) (fun X hX hF => exec_lda 28 _ (by rfl) (w.heap.size + 1) (by rfl) Tryd.underlying28 rfl X (hR5.bel hX) (info_slc hs2)) ?_
  refine jz fun X6 hX6 => ?_
  have hB0 := hB0.bel hX6
  have hR5 := hR5.bel hX6
  have hB2 := hB2.bel hX6
  have hb := bel_next hb hX6
  clear hX6
  refine op_store_blk rfl 28 (.tmp 4) (.tmp 30) rfl (w.heap.size + 2) 28 _ hB2 rfl (slc (s.put (mk48 x s))) rfl ((SlOk.len hs2).trans (SlOk.len ok0).symm) slc_one (info_slc hs2) ?_
  intro w9 hR9 hO9 hB9 hs9
  have hb9 := hB9 _ _ hb (by omega)
  clear hO9 hB9
  go_wp2
  refine post_cell2 (v := .int .i64 0) rfl rfl (by rfl) (by rfl) Tryd.underlying28 rfl hR9 (info_slc hs2) ⟨by rw [HE.out.1, HE.out.2, ← HX.out], hb9⟩
theorem sslC (A : Option Addr) (n c : Nat) (r : List (List UInt8)) (w : World) (hr : Rd w 1 (.slice A n c) n (r.map tx)) (hln : r.length = n) (hn1 : n ≤ 9223372036854775807) (s : Sl) (hs : SlOk s) (hK : KK w) : Calls Tryd.prog 11 #[.agg #[.slice A n c], .agg (slc s).toArray] w fun e w' => e = .returned (.tuple #[.agg (slc (slS mk48 r s)).toArray, .int .i64 (slE r s)]) ∧ Since w w' := by
  by_cases h : rckE r = 0
  · cases h2 : frm r s
    · exact ssl2 A n c r w hr hln hn1 s hs hK h h2
    · exact ssl3 A n c r w hr hln hn1 s hs hK h h2
  · exact ssl1 A n c r w hr hln hn1 s hs hK h
end Go.Proofs.YthinopepcmidmaaDoor
