/-
  seal: Right, Name.
-/
import Derived.Test.YthinopepcmidmaaDoorSf48
set_option linter.unusedSimpArgs false
set_option linter.unusedVariables false
set_option maxRecDepth 100000
set_option maxHeartbeats 1600000
namespace Go.Proofs.YthinopepcmidmaaDoor
open Go.RowKit
theorem srg1 (A : Option Addr) (n c : Nat) (r : List (List UInt8)) (w : World) (hr : Rd w 1 (.slice A n c) n (r.map tx)) (hln : r.length = n) (hn1 : n ≤ 9223372036854775807) (s : Sl) (hs : SlOk s) (hK : KK w) (h : ¬ slE r s = 0) : Calls Tryd.prog 15 #[.agg #[.slice A n c], .agg (slc s).toArray] w fun e w' => e = .returned (.bool (rgt mk48 r s)) ∧ Since w w' := by
  have hx := slS_ok (r := r) hs
  obtain ⟨x, hx9⟩ : ∃ x, x = slS mk48 r s := ⟨_, rfl⟩
  obtain ⟨e9, he9⟩ : ∃ e9, e9 = slE r s := ⟨_, rfl⟩
  rw [← hx9] at hx
  have HXE : Hid (slS mk48 r s = x ∧ slE r s = e9) := ⟨hx9.symm, he9.symm⟩
  rw [← he9] at h
  have HC : Hid (¬ e9 = 0) := h
  clear h
  clear hx9 he9
  have hzs := zeroSl
  have HKK : Hid (∀ X, Since w X → KK X) := fun X h => hK.below h hK.1
  have HRX : Hid (∀ X, Since w X → Rd X 1 (.slice A n c) n (r.map tx)) := fun X h => hr.below h
  have HLN := Lib.hid hln
  clear hK hr hln
  have HR : Hid (rgt mk48 r s = false) := by
    unfold rgt
    rw [HXE.out.1, HXE.out.2]
    exact decide_eq_false (fun h9 => HC.out h9.1)
  go_enter Tryd.func15, Tryd.ntmps15
  go_upto_region 1 with (fail)
  obtain ⟨W0, hW0, hB0, hB1, hb⟩ := start2 w 24 28 [.slice A n c] (slc s)
  rw [← hW0]
  clear hW0
  refine jq 6 ?_
  refine ja hB0 Tryd.underlying24 (by rfl) info_rg ?_
  refine jg (.agg (slc s).toArray) (fun X hX hF => exec_lda 28 _ (by rfl) (w.heap.size + 1) (by rfl) Tryd.underlying28 rfl X (hB1.bel hX) (info_slc hs)) ?_
  refine jc (.tuple #[.agg (slc x).toArray, .int .i64 e9]) (fun X hX hF => mo (sslC A n c r X (HRX.out X (bel_next hb hX)) HLN.out hn1 s hs (HKK.out X (bel_next hb hX))) (by rw [HXE.out.1, HXE.out.2])) ?_
  refine jm (.tuple #[.agg (slc x).toArray, .int .i64 e9]) ?_
  refine jm (.agg (slc x).toArray) ?_
  refine jm (.int .i64 e9) ?_
  refine jz fun X1 hX1 => ?_
  have hB0 := hB0.bel hX1
  have hB1 := hB1.bel hX1
  have hb := bel_next hb hX1
  clear hX1
  go_upto_region 2 with (refine op_store_new _ _ _ rfl 28 (.tmp 5) (.tmp 11) (by rfl) (by rfl) (slc x).toArray (by rfl) (by show (slc x).toArray.size = (slc sl0).toArray.size; simp [SlOk.len hx, SlOk.len ok0]) (fun v hv => slc_one v (by simpa using hv)) (by rw [show (slc x).toArray.size = (slc x).length from by simp]; exact info_slc hx) ?_)
  obtain ⟨Y1, hY9, hD5, hS9⟩ := start1 X1 28 (slc x)
  rw [← hY9]
  clear hY9
  have hgs5 := hb.size
  have hlt5x0 := hB0.lt
  have hlt5x1 := hB1.lt
  have hB0 := hB0.bel hS9
  have hB1 := hB1.bel hS9
  have hb := bel_next hb hS9
  clear hS9
  generalize X1.heap.size = g5 at *
  refine jp ?_
  refine jm (.int .i64 e9) ?_
  refine jv (.bool false) (exec_eqi _ _ _ _ (by rfl) .i64 e9 0 (by rfl) (by rfl) false (decide_eq_false HC.out)) ?_
  refine jm (.bool false) ?_
  refine js ?_
  refine js ?_
  refine js ?_
  refine jm (.bool false) ?_
  refine jm (.bool false) ?_
  refine jz fun X2 hX2 => ?_
  have hB0 := hB0.bel hX2
  have hB1 := hB1.bel hX2
  have hD5 := hD5.bel hX2
  have hb := bel_next hb hX2
  clear hX2
  go_wp2
  go_ret
  exact ⟨by rw [HR.out]; rfl, hb⟩
theorem srg2 (A : Option Addr) (n c : Nat) (r : List (List UInt8)) (w : World) (hr : Rd w 1 (.slice A n c) n (r.map tx)) (hln : r.length = n) (hn1 : n ≤ 9223372036854775807) (s : Sl) (hs : SlOk s) (hK : KK w) (h : slE r s = 0) (h2 : ¬ slS mk48 r s = s) : Calls Tryd.prog 15 #[.agg #[.slice A n c], .agg (slc s).toArray] w fun e w' => e = .returned (.bool (rgt mk48 r s)) ∧ Since w w' := by
  have hx := slS_ok (r := r) hs
  obtain ⟨x, hx9⟩ : ∃ x, x = slS mk48 r s := ⟨_, rfl⟩
  obtain ⟨e9, he9⟩ : ∃ e9, e9 = slE r s := ⟨_, rfl⟩
  rw [← hx9] at hx
  have HXE : Hid (slS mk48 r s = x ∧ slE r s = e9) := ⟨hx9.symm, he9.symm⟩
  rw [← he9] at h
  have HC := Lib.hid h
  clear h
  rw [← hx9] at h2
  have HQ := Lib.hid h2
  clear h2
  clear hx9 he9
  have hzs := zeroSl
  have HKK : Hid (∀ X, Since w X → KK X) := fun X h => hK.below h hK.1
  have HRX : Hid (∀ X, Since w X → Rd X 1 (.slice A n c) n (r.map tx)) := fun X h => hr.below h
  have HLN := Lib.hid hln
  clear hK hr hln
  have HR : Hid (rgt mk48 r s = false) := by
    unfold rgt
    rw [HXE.out.1, HXE.out.2]
    exact decide_eq_false (fun h9 => HQ.out h9.2)
  go_enter Tryd.func15, Tryd.ntmps15
  go_upto_region 1 with (fail)
  obtain ⟨W0, hW0, hB0, hB1, hb⟩ := start2 w 24 28 [.slice A n c] (slc s)
  rw [← hW0]
  clear hW0
  refine jq 6 ?_
  refine ja hB0 Tryd.underlying24 (by rfl) info_rg ?_
  refine jg (.agg (slc s).toArray) (fun X hX hF => exec_lda 28 _ (by rfl) (w.heap.size + 1) (by rfl) Tryd.underlying28 rfl X (hB1.bel hX) (info_slc hs)) ?_
  refine jc (.tuple #[.agg (slc x).toArray, .int .i64 e9]) (fun X hX hF => mo (sslC A n c r X (HRX.out X (bel_next hb hX)) HLN.out hn1 s hs (HKK.out X (bel_next hb hX))) (by rw [HXE.out.1, HXE.out.2])) ?_
  refine jm (.tuple #[.agg (slc x).toArray, .int .i64 e9]) ?_
  refine jm (.agg (slc x).toArray) ?_
  refine jm (.int .i64 e9) ?_
  refine jz fun X1 hX1 => ?_
  have hB0 := hB0.bel hX1
  have hB1 := hB1.bel hX1
  have hb := bel_next hb hX1
  clear hX1
  go_upto_region 2 with (refine op_store_new _ _ _ rfl 28 (.tmp 5) (.tmp 11) (by rfl) (by rfl) (slc x).toArray (by rfl) (by show (slc x).toArray.size = (slc sl0).toArray.size; simp [SlOk.len hx, SlOk.len ok0]) (fun v hv => slc_one v (by simpa using hv)) (by rw [show (slc x).toArray.size = (slc x).length from by simp]; exact info_slc hx) ?_)
  obtain ⟨Y1, hY9, hD5, hS9⟩ := start1 X1 28 (slc x)
  rw [← hY9]
  clear hY9
  have hgs5 := hb.size
  have hlt5x0 := hB0.lt
  have hlt5x1 := hB1.lt
  have hB0 := hB0.bel hS9
  have hB1 := hB1.bel hS9
  have hb := bel_next hb hS9
  clear hS9
  generalize X1.heap.size = g5 at *
  refine jp ?_
  refine jm (.int .i64 e9) ?_
  refine jv (.bool true) (exec_eqi _ _ _ _ (by rfl) .i64 e9 0 (by rfl) (by rfl) true (decide_eq_true HC.out)) ?_
  refine jm (.bool true) ?_
  refine jg (.agg (slc x).toArray) (fun X hX hF => exec_lda 28 _ (by rfl) g5 (by rfl) Tryd.underlying28 rfl X (hD5.bel hX) (info_slc hx)) ?_
  refine jg (.agg (slc s).toArray) (fun X hX hF => exec_lda 28 _ (by rfl) (w.heap.size + 1) (by rfl) Tryd.underlying28 rfl X (hB1.bel hX) (info_slc hs)) ?_
  refine jv (.bool false) (exec_eqsl _ _ _ (by rfl) x s hx hs (by rfl) (by rfl) _ (decide_eq_false HQ.out)) ?_
  refine jm (.bool false) ?_
  refine jm (.bool false) ?_
  refine jz fun X2 hX2 => ?_
  have hB0 := hB0.bel hX2
  have hB1 := hB1.bel hX2
  have hD5 := hD5.bel hX2
  have hb := bel_next hb hX2
  clear hX2
  go_wp2
  go_ret
  exact ⟨by rw [HR.out]; rfl, hb⟩
theorem srg3 (A : Option Addr) (n c : Nat) (r : List (List UInt8)) (w : World) (hr : Rd w 1 (.slice A n c) n (r.map tx)) (hln : r.length = n) (hn1 : n ≤ 9223372036854775807) (s : Sl) (hs : SlOk s) (hK : KK w) (h : slE r s = 0) (h2 : slS mk48 r s = s) : Calls Tryd.prog 15 #[.agg #[.slice A n c], .agg (slc s).toArray] w fun e w' => e = .returned (.bool (rgt mk48 r s)) ∧ Since w w' := by
  have hx := slS_ok (r := r) hs
  obtain ⟨x, hx9⟩ : ∃ x, x = slS mk48 r s := ⟨_, rfl⟩
  obtain ⟨e9, he9⟩ : ∃ e9, e9 = slE r s := ⟨_, rfl⟩
  rw [← hx9] at hx
  have HXE : Hid (slS mk48 r s = x ∧ slE r s = e9) := ⟨hx9.symm, he9.symm⟩
  rw [← he9] at h
  have HC := Lib.hid h
  clear h
  rw [← hx9] at h2
  have HQ := Lib.hid h2
  clear h2
  clear hx9 he9
  have hzs := zeroSl
  have HKK : Hid (∀ X, Since w X → KK X) := fun X h => hK.below h hK.1
  have HRX : Hid (∀ X, Since w X → Rd X 1 (.slice A n c) n (r.map tx)) := fun X h => hr.below h
  have HLN := Lib.hid hln
  clear hK hr hln
  have HR : Hid (rgt mk48 r s = true) := by
    unfold rgt
    rw [HXE.out.1, HXE.out.2]
    exact decide_eq_true ⟨HC.out, HQ.out⟩
  go_enter Tryd.func15, Tryd.ntmps15
  go_upto_region 1 with (fail)
  obtain ⟨W0, hW0, hB0, hB1, hb⟩ := start2 w 24 28 [.slice A n c] (slc s)
  rw [← hW0]
  clear hW0
  refine jq 6 ?_
  refine ja hB0 Tryd.underlying24 (by rfl) info_rg ?_
  refine jg (.agg (slc s).toArray) (fun X hX hF => exec_lda 28 _ (by rfl) (w.heap.size + 1) (by rfl) Tryd.underlying28 rfl X (hB1.bel hX) (info_slc hs)) ?_
  refine jc (.tuple #[.agg (slc x).toArray, .int .i64 e9]) (fun X hX hF => mo (sslC A n c r X (HRX.out X (bel_next hb hX)) HLN.out hn1 s hs (HKK.out X (bel_next hb hX))) (by rw [HXE.out.1, HXE.out.2])) ?_
  refine jm (.tuple #[.agg (slc x).toArray, .int .i64 e9]) ?_
  refine jm (.agg (slc x).toArray) ?_
  refine jm (.int .i64 e9) ?_
  refine jz fun X1 hX1 => ?_
  have hB0 := hB0.bel hX1
  have hB1 := hB1.bel hX1
  have hb := bel_next hb hX1
  clear hX1
  go_upto_region 2 with (refine op_store_new _ _ _ rfl 28 (.tmp 5) (.tmp 11) (by rfl) (by rfl) (slc x).toArray (by rfl) (by show (slc x).toArray.size = (slc sl0).toArray.size; simp [SlOk.len hx, SlOk.len ok0]) (fun v hv => slc_one v (by simpa using hv)) (by rw [show (slc x).toArray.size = (slc x).length from by simp]; exact info_slc hx) ?_)
  obtain ⟨Y1, hY9, hD5, hS9⟩ := start1 X1 28 (slc x)
  rw [← hY9]
  clear hY9
  have hgs5 := hb.size
  have hlt5x0 := hB0.lt
  have hlt5x1 := hB1.lt
  have hB0 := hB0.bel hS9
  have hB1 := hB1.bel hS9
  have hb := bel_next hb hS9
  clear hS9
  generalize X1.heap.size = g5 at *
  refine jp ?_
  refine jm (.int .i64 e9) ?_
  refine jv (.bool true) (exec_eqi _ _ _ _ (by rfl) .i64 e9 0 (by rfl) (by rfl) true (decide_eq_true HC.out)) ?_
  refine jm (.bool true) ?_
  refine jg (.agg (slc x).toArray) (fun X hX hF => exec_lda 28 _ (by rfl) g5 (by rfl) Tryd.underlying28 rfl X (hD5.bel hX) (info_slc hx)) ?_
  refine jg (.agg (slc s).toArray) (fun X hX hF => exec_lda 28 _ (by rfl) (w.heap.size + 1) (by rfl) Tryd.underlying28 rfl X (hB1.bel hX) (info_slc hs)) ?_
  refine jv (.bool true) (exec_eqsl _ _ _ (by rfl) x s hx hs (by rfl) (by rfl) _ (decide_eq_true HQ.out)) ?_
  refine jm (.bool true) ?_
  refine jm (.bool true) ?_
  refine jz fun X2 hX2 => ?_
  have hB0 := hB0.bel hX2
  have hB1 := hB1.bel hX2
  have hD5 := hD5.bel hX2
  have hb := bel_next hb hX2
  clear hX2
  go_wp2
  go_ret
  exact ⟨by rw [HR.out]; rfl, hb⟩
theorem srgC (A : Option Addr) (n c : Nat) (r : List (List UInt8)) (w : World) (hr : Rd w 1 (.slice A n c) n (r.map tx)) (hln : r.length = n) (hn1 : n ≤ 9223372036854775807) (s : Sl) (hs : SlOk s) (hK : KK w) : Calls Tryd.prog 15 #[.agg #[.slice A n c], .agg (slc s).toArray] w fun e w' => e = .returned (.bool (rgt mk48 r s)) ∧ Since w w' := by
  by_cases h : slE r s = 0
  · by_cases h2 : slS mk48 r s = s
    · exact srg3 A n c r w hr hln hn1 s hs hK h h2
    · exact srg2 A n c r w hr hln hn1 s hs hK h h2
  · exact srg1 A n c r w hr hln hn1 s hs hK h
theorem snmC (s : Sl) (w : World) (hs : SlOk s) (hsb : s.bd.length ≤ 5000) (hK : KK w) : Calls Tryd.prog 17 #[.agg (slc s).toArray] w fun e w' => e = .returned (.agg ((nm48 s).map B8).toArray) ∧ Since w w' := by
  have hz := zero16
  have HKK : Hid (∀ X, Since w X → KK X) := fun X h => hK.below h hK.1
  clear hK
  go_enter Tryd.func17, Tryd.ntmps17
  go_upto_region 1 with (fail)
  obtain ⟨W0, hW0, hB0, hB1, hb⟩ := start2 w 28 26 (slc s) z16
  rw [← hW0]
  clear hW0
  refine lx_tails 3 [none, some (Own (w.heap.size + 2) 7 ((pts s).map tx)), none, none, none, some (Sts [s.sl])] (by kernel_rfl) (by kernel_rfl) (by kernel_rfl) (lasts_none (lasts_some (Own.lasts _ _ _) (lasts_none (lasts_none (lasts_none (lasts_some (Sts.lasts _) (lasts_nil))))))) ?_
  simp only [its, List.length_cons, List.length_nil, Nat.zero_add, Nat.reduceAdd, Nat.reduceSub, List.take_succ_cons, List.take_zero, List.drop_succ_cons, List.drop_zero]
  refine jg (.agg (slc s).toArray) (fun X hX hF => exec_lda 28 _ (by rfl) w.heap.size (by rfl) Tryd.underlying28 rfl X (hB0.bel hX) (info_slc hs)) ?_
  refine jk (fun X hX hF => (sptC s X hs).mono fun e X' ⟨v, h1, h2, h3⟩ => ⟨v, h1, Own.low h2 (hB1.bel hX).lt, h3⟩) ?_
  intro v4
  refine jn (.pointer (some ⟨w.heap.size, 21, none⟩)) ?_
  refine jv (.slice (some ⟨w.heap.size, 21, none⟩) 16 16) (exec_sld _ (by rfl) w.heap.size 21 (by rfl)) ?_
  refine jg (st s.sl) (fun X hX hF => exec_str 69 9 5 Tryd.underlying69 Tryd.underlying5 Tryd.underlying9 (.tmp 6) (by rfl) (v := .slice (some ⟨w.heap.size, 21, none⟩) 16 16) rfl (Blk.rdAt (hB0.bel hX) (slc_sl hs) (by rw [List.length_map, hs.sl]) (by decide))) ?_
  refine lx_new (by rfl) (fun X hX hF => exec_bsS1 _ (by rfl) s.sl (by rfl) X) ?_
  intro v8
  simp only [pX]
  refine lx_nil ?_
  intro X1 hX1 hF
  have hv4 := hF _ _ (List.mem_cons_of_mem _ List.mem_cons_self)
  have hv8 := hF _ _ List.mem_cons_self
  have hB0 := hB0.bel hX1
  have hB1 := hB1.bel hX1
  have hb := bel_next hb hX1
  clear hF hX1
  obtain ⟨A8, c8, rfl, hr8⟩ := hv8
  refine append_rd rfl (.tmp 4) (.tmp 8) 22 rfl (w.heap.size + 2) 9 _ 1 16 Tryd.underlying22 info_strz rfl (by decide) _ 7 _ (by rfl) hv4 _ 1 _ (by rfl) hr8 (by intro u hu; simp only [List.map_cons, List.map_nil, List.mem_cons, List.not_mem_nil, or_false] at hu; subst hu; rfl) (by decide) (by decide) hB1.lt ?_
  intro v7 w7 hown7 hg7 hb7
  have hB1 := hB1.below hb7 (by omega)
  have hb := hb.trans (hb7.mono (by omega))
  have hS7 : Sts (pts s ++ [s.sl]) v7 w7 := Sts.own (B := w.heap.size + 2) (by rw [List.map_append, List.length_append]; exact hown7)
  have hpl : ∀ x ∈ pts s ++ [s.sl], x.length ≤ 5000 := by
    intro x hx
    rcases List.mem_append.1 hx with h9 | h9
    · exact pts_le hs hsb x h9
    · simp only [List.mem_cons, List.not_mem_nil, or_false] at h9
      rw [h9, hs.sl]
      decide
  clear hv4 hr8 hg7 hb7 hown7 hB0
  go_wp2_with (first
    | (go_at_call 36; refine (ofV 236 (pts s ++ [s.sl]) v7 w7 hS7 (by show 8 ≤ 12; decide) hpl (HKK.out w7 hb)).mono ?_; rintro e w8 ⟨rfl, hb8⟩; have hB1 := hB1.bel hb8; have hb := bel_next hb hb8)
    | ((with_reducible show wpList _ _ _ (⟨none, .store 26 _ _, _, _, _, _⟩ :: _) _ _); refine op_store_blk rfl 26 (.tmp 2) (.tmp 10) rfl (w.heap.size + 1) 26 _ hB1 rfl ((nm48 s).map B8) rfl (by rw [List.length_map, nm_len]; rfl) (B8s_one _) (info_d16 (nm_len _)) ?_; intro w9 hR9 hO9 hB9 hs9; have hb9 := hB9 _ _ hb (by omega); clear hO9 hB9))
  refine post_cell rfl rfl (by rfl) Tryd.underlying26 rfl hR9 (info_d16 (nm_len _)) ⟨rfl, hb9⟩
end Go.Proofs.YthinopepcmidmaaDoor
