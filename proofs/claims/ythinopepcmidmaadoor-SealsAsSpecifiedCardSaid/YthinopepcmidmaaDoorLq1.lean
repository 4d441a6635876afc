/-
  Law 48: SealsAsSpecified.
-/
import Derived.Test.YthinopepcmidmaaDoorS48
import Derived.Test.YthinopepcmidmaaDoorRv48
import Derived.Test.YthinopepcmidmaaDoorLt48
set_option linter.unusedSimpArgs false
set_option linter.unusedVariables false
set_option maxRecDepth 100000
set_option maxHeartbeats 1600000
namespace Go.Proofs.YthinopepcmidmaaDoor
open Go.RowKit
theorem specW (A : Option Addr) (c : Nat) (r : List (List UInt8)) (s : Sl) (w : World) (hr : Sts r (.slice A r.length c) w) (hs : SlOk s) (hK : KK w) (hK0 : KK0 w) : Calls Tryd.prog 3 #[.agg #[.slice A r.length c], .agg (slc s).toArray] w fun e w' => e = .returned (.bool true) ∧ Since w w' := by
  have hzs := zeroSl
  have hzm := zeroMd
  have HKK : Hid (∀ X, Since w X → KK X) := fun X h => hK.below h hK.1
  have HKZ : Hid (∀ X, Since w X → KK0 X) := fun X h => KK0.since hK0 h
  have HR1 : Hid (∀ X, Since w X → Sts r (.slice A r.length c) X) := fun X h => Sts.lasts _ _ _ _ hr h
  clear hr hK hK0
  go_enter Tryd.func3, Tryd.ntmps3
  go_upto_region 1 with (fail)
  obtain ⟨W0, hW0, hB0, hB1, hb⟩ := start2 w 24 28 [.slice A r.length c] (slc s)
  rw [← hW0]
  clear hW0
  refine lx_plain [none, none, some (Slv [s]), some (Bv (FewP [s] 1))] (lasts_none (lasts_none (lasts_some (Slv.lasts _) (lasts_some (Bv.lasts _) (lasts_nil))))) ?_
  simp only [iX, Nat.reduceAdd]
  refine ja hB0 Tryd.underlying24 (by rfl) info_rg ?_
  refine jg (.agg (slc s).toArray) (fun X hX hF => exec_lda 28 _ (by rfl) (w.heap.size + 1) (by rfl) Tryd.underlying28 rfl X (hB1.bel hX) (info_slc hs)) ?_
  refine lx_new (by rfl) (fun X hX hF => exec_bsl1 _ (by rfl) s hs (by rfl) X) ?_
  intro v11
  simp only [pX]
  refine jk (fun X hX hF => rfwV r (.slice A r.length c) [s] v11 1 (by decide) X (HR1.out X (bel_next hb hX)) (hF _ _ List.mem_cons_self rfl) (all1 hs)) ?_
  intro v12
  refine jm (v12) ?_
  refine lx_nil ?_
  intro X1 hX1 hF
  have hv11 := hF _ _ (List.mem_cons_of_mem _ List.mem_cons_self)
  have hv12 := hF _ _ List.mem_cons_self
  have hB0 := hB0.bel hX1
  have hB1 := hB1.bel hX1
  have hb := bel_next hb hX1
  clear hF hX1
  obtain ⟨bf, rfl, hfew⟩ := hv12
  clear hv11
  cases bf
  · clear hfew
    go_upto_region 2 with (fail)
    refine jp ?_
    refine jm (.bool false) ?_
    refine jm (.bool true) ?_
    refine jz fun X2 hX2 => ?_
    have hB0 := hB0.bel hX2
    have hB1 := hB1.bel hX2
    have hb := bel_next hb hX2
    clear hX2
    go_upto_region 3 with (fail)
    refine jp ?_
    refine jc (.bool true) (fun X hX hF => sanC X (HKK.out X (bel_next hb hX))) ?_
    refine jm (.bool true) ?_
    refine jz fun X3 hX3 => ?_
    have hB0 := hB0.bel hX3
    have hB1 := hB1.bel hX3
    have hb := bel_next hb hX3
    clear hX3
    go_wp2
    go_ret
    exact ⟨rfl, hb⟩
  · have hbl := shS_le (hfew rfl (by show ((1 : Nat) : Int) ≤ 1; decide) 0 (by show 0 < 1; decide))
    change s.bd.length ≤ 4100 at hbl
    clear hfew
    have hx := slS_ok (r := r) hs
    obtain ⟨x, hx9⟩ : ∃ x, x = slS mk48 r s := ⟨_, rfl⟩
    obtain ⟨e, he9⟩ : ∃ e, e = slE r s := ⟨_, rfl⟩
    rw [← hx9] at hx
    have HX : Hid (slS mk48 r s = x ∧ slE r s = e) := ⟨hx9.symm, he9.symm⟩
    clear hx9 he9
    obtain ⟨ck, hck9⟩ : ∃ ck, ck = rckE r := ⟨_, rfl⟩
    have HCK : Hid (rckE r = ck) := hck9.symm
    obtain ⟨rg, hrg9⟩ : ∃ b, b = rgt mk48 r s := ⟨_, rfl⟩
    have HRG : Hid (rgt mk48 r s = rg) := hrg9.symm
    obtain ⟨rx, hrx9⟩ : ∃ b, b = rgt mk48 r x := ⟨_, rfl⟩
    have HRX : Hid (rgt mk48 r x = rx) := hrx9.symm
    clear hck9 hrg9 hrx9
    go_upto_region 2 with (fail)
    refine jp ?_
    refine jm (.bool true) ?_
    refine jm (.bool false) ?_
    refine jz fun X2 hX2 => ?_
    have hB0 := hB0.bel hX2
    have hB1 := hB1.bel hX2
    have hb := bel_next hb hX2
    clear hX2
    go_upto_region 4 with (fail)
    refine jq 6 ?_
    refine ja hB0 Tryd.underlying24 (by rfl) info_rg ?_
    refine jg (.agg (slc s).toArray) (fun X hX hF => exec_lda 28 _ (by rfl) (w.heap.size + 1) (by rfl) Tryd.underlying28 rfl X (hB1.bel hX) (info_slc hs)) ?_
    refine jc (.tuple #[.agg (slc x).toArray, .int .i64 e]) (fun X hX hF => mo (sslV r (.slice A r.length c) s X (HR1.out X (bel_next hb hX)) hs (HKK.out X (bel_next hb hX))) (by rw [HX.out.1, HX.out.2])) ?_
    refine jm (.tuple #[.agg (slc x).toArray, .int .i64 e]) ?_
    refine jm (.agg (slc x).toArray) ?_
    refine jm (.int .i64 e) ?_
    refine jz fun X3 hX3 => ?_
    have hB0 := hB0.bel hX3
    have hB1 := hB1.bel hX3
    have hb := bel_next hb hX3
    clear hX3
    go_upto_region 5 with (refine op_store_new _ _ _ rfl 28 (.tmp 6) (.tmp 20) (by rfl) (by rfl) (slc x).toArray (by rfl) (by show (slc x).toArray.size = (slc sl0).toArray.size; simp [SlOk.len hx, SlOk.len ok0]) (fun v hv => slc_one v (by simpa using hv)) (by rw [show (slc x).toArray.size = (slc x).length from by simp]; exact info_slc hx) ?_)
    obtain ⟨Y3, hY9, hD6, hS9⟩ := start1 X3 28 (slc x)
    rw [← hY9]
    clear hY9
    have hgs6 := hb.size
    have hlt6x0 := hB0.lt
    have hlt6x1 := hB1.lt
    have hB0 := hB0.bel hS9
    have hB1 := hB1.bel hS9
    have hb := bel_next hb hS9
    clear hS9
    generalize X3.heap.size = g6 at *
    refine jq 3 ?_
    refine ja hB0 Tryd.underlying24 (by rfl) info_rg ?_
    refine jg (.agg (slc s).toArray) (fun X hX hF => exec_lda 28 _ (by rfl) (w.heap.size + 1) (by rfl) Tryd.underlying28 rfl X (hB1.bel hX) (info_slc hs)) ?_
    refine jc (.agg (mdc x e).toArray) (fun X hX hF => mo (rslV r (.slice A r.length c) s X (HR1.out X (bel_next hb hX)) hs (HKZ.out X (bel_next hb hX))) (by rw [HX.out.1, HX.out.2])) ?_
    refine jz fun X4 hX4 => ?_
    have hB0 := hB0.bel hX4
    have hB1 := hB1.bel hX4
    have hD6 := hD6.bel hX4
    have hb := bel_next hb hX4
    clear hX4
    go_upto_region 6 with (refine op_store_new _ _ _ rfl 36 (.tmp 8) (.tmp 24) (by rfl) (by rfl) (mdc x e).toArray (by rfl) (by show (mdc x e).toArray.size = (mdc sl0 0).toArray.size; simp [mdc_len hx, mdc_len ok0]) (fun v hv => mdc_one v (by simpa using hv)) (by rw [show (mdc x e).toArray.size = (mdc x e).length from by simp]; exact info_mdc hx _) ?_)
    obtain ⟨Y4, hY9, hD8, hS9⟩ := start1 X4 36 (mdc x e)
    rw [← hY9]
    clear hY9
    have hgs8 := hb.size
    have hlt8x0 := hB0.lt
    have hlt8x1 := hB1.lt
    have hlt8x2 := hD6.lt
    have hB0 := hB0.bel hS9
    have hB1 := hB1.bel hS9
    have hD6 := hD6.bel hS9
    have hb := bel_next hb hS9
    clear hS9
    generalize X4.heap.size = g8 at *
    refine jd ?_
    refine jc (.bool true) (fun X hX hF => sanC X (HKK.out X (bel_next hb hX))) ?_
    refine jm (.bool true) ?_
    refine ja hB0 Tryd.underlying24 (by rfl) info_rg ?_
    refine jc (.int .i64 ck) (fun X hX hF => mo (sckV r (.slice A r.length c) X (HR1.out X (bel_next hb hX))) (by rw [HCK.out])) ?_
    refine ja hB0 Tryd.underlying24 (by rfl) info_rg ?_
    refine jc (.int .i64 ck) (fun X hX hF => mo (rckV r (.slice A r.length c) X (HR1.out X (bel_next hb hX))) (by rw [HCK.out])) ?_
    refine jv (.bool true) (exec_eqi _ _ _ _ (by rfl) .i64 ck ck (by rfl) (by rfl) true (decide_eq_true rfl)) ?_
    refine jm (.bool true) ?_
    refine jm (.bool true) ?_
    refine jg (.agg (slc x).toArray) (fun X hX hF => exec_lda 28 _ (by rfl) g6 (by rfl) Tryd.underlying28 rfl X (hD6.bel hX) (info_slc hx)) ?_
    refine jn (.pointer (some ⟨g8, 0, none⟩)) ?_
    refine jg (.agg (slc x).toArray) (fun X hX hF => exec_inr 28 _ (by rfl) g8 0 (slc x) (by rfl) Tryd.underlying28 rfl X (hD8.bel hX) (mdc_S hx e) (info_slc hx)) ?_
    refine jv (.bool true) (exec_eqsl _ _ _ (by rfl) x x hx hx (by rfl) (by rfl) _ (decide_eq_true rfl)) ?_
    refine jm (.bool true) ?_
    refine jm (.bool true) ?_
    refine jm (.int .i64 e) ?_
    refine jn (.pointer (some ⟨g8, 37, none⟩)) ?_
    refine jg (.int .i64 e) (fun X hX hF => exec_ld 32 _ (by rfl) g8 37 (by rfl) _ X ((hD8.bel hX).cell (j := 37) (mdc_err hx e)) (fun X u h => load_er g8 37 X u h)) ?_
    refine jv (.bool true) (exec_eqi _ _ _ _ (by rfl) .i64 e e (by rfl) (by rfl) true (decide_eq_true rfl)) ?_
    refine jm (.bool true) ?_
    refine jm (.bool true) ?_
    refine ja hB0 Tryd.underlying24 (by rfl) info_rg ?_
    refine jg (.agg (slc s).toArray) (fun X hX hF => exec_lda 28 _ (by rfl) (w.heap.size + 1) (by rfl) Tryd.underlying28 rfl X (hB1.bel hX) (info_slc hs)) ?_
    refine jc (.bool rg) (fun X hX hF => mo (srgV r (.slice A r.length c) s X (HR1.out X (bel_next hb hX)) hs (HKK.out X (bel_next hb hX))) (by rw [HRG.out])) ?_
    refine ja hB0 Tryd.underlying24 (by rfl) info_rg ?_
    refine jg (.agg (slc s).toArray) (fun X hX hF => exec_lda 28 _ (by rfl) (w.heap.size + 1) (by rfl) Tryd.underlying28 rfl X (hB1.bel hX) (info_slc hs)) ?_
    refine jc (.bool rg) (fun X hX hF => mo (rrgV r (.slice A r.length c) s X (HR1.out X (bel_next hb hX)) hs (HKZ.out X (bel_next hb hX))) (by rw [HRG.out])) ?_
    refine jv (.bool true) (exec_eqbb _ _ _ _ (by rfl) rg rfl (by rfl) (by rfl)) ?_
    refine jm (.bool true) ?_
    refine jm (.bool true) ?_
    refine jg (.agg (slc s).toArray) (fun X hX hF => exec_lda 28 _ (by rfl) (w.heap.size + 1) (by rfl) Tryd.underlying28 rfl X (hB1.bel hX) (info_slc hs)) ?_
    refine jc (.agg ((nm48 s).map B8).toArray) (fun X hX hF => snmC s X hs (by omega) (HKK.out X (bel_next hb hX))) ?_
    refine jg (.agg (slc s).toArray) (fun X hX hF => exec_lda 28 _ (by rfl) (w.heap.size + 1) (by rfl) Tryd.underlying28 rfl X (hB1.bel hX) (info_slc hs)) ?_
    refine jc (.agg ((nm48 s).map B8).toArray) (fun X hX hF => rnmC s X hs (by omega) (HKZ.out X (bel_next hb hX))) ?_
    refine jv (.bool true) (exec_eqdg _ _ _ (by rfl) (nm48 s) (nm48 s) (nm_len _) (nm_len _) (by rfl) (by rfl) _ (eqs_t rfl)) ?_
    refine jm (.bool true) ?_
    refine jm (.bool true) ?_
    refine ja hB0 Tryd.underlying24 (by rfl) info_rg ?_
    refine jg (.agg (slc x).toArray) (fun X hX hF => exec_lda 28 _ (by rfl) g6 (by rfl) Tryd.underlying28 rfl X (hD6.bel hX) (info_slc hx)) ?_
    refine jc (.bool rx) (fun X hX hF => mo (srgV r (.slice A r.length c) x X (HR1.out X (bel_next hb hX)) hx (HKK.out X (bel_next hb hX))) (by rw [HRX.out])) ?_
    refine ja hB0 Tryd.underlying24 (by rfl) info_rg ?_
    refine jg (.agg (slc x).toArray) (fun X hX hF => exec_lda 28 _ (by rfl) g6 (by rfl) Tryd.underlying28 rfl X (hD6.bel hX) (info_slc hx)) ?_
    refine jc (.bool rx) (fun X hX hF => mo (rrgV r (.slice A r.length c) x X (HR1.out X (bel_next hb hX)) hx (HKZ.out X (bel_next hb hX))) (by rw [HRX.out])) ?_
    refine jv (.bool true) (exec_eqbb _ _ _ _ (by rfl) rx rfl (by rfl) (by rfl)) ?_
    refine jm (.bool true) ?_
    refine jm (.bool true) ?_
    refine jz fun X5 hX5 => ?_
    have hB0 := hB0.bel hX5
    have hB1 := hB1.bel hX5
    have hD6 := hD6.bel hX5
    have hD8 := hD8.bel hX5
    have hb := bel_next hb hX5
    clear hX5
    go_wp2
    go_ret
    exact ⟨rfl, hb⟩
end Go.Proofs.YthinopepcmidmaaDoor
