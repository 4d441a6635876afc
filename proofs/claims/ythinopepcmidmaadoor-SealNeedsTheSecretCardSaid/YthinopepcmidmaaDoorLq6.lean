/-
  Law 48: SealNeedsTheSecret.
-/
import Derived.Test.YthinopepcmidmaaDoorS48
import Derived.Test.YthinopepcmidmaaDoorPl48b
set_option linter.unusedSimpArgs false
set_option linter.unusedVariables false
set_option maxRecDepth 100000
set_option maxHeartbeats 1600000
namespace Go.Proofs.YthinopepcmidmaaDoor
open Go.RowKit

def Sl.on (s : Sl) (d : Int) : Sl := ⟨s.st, s.sq, d, s.kd, s.bd, s.pv, s.sl⟩
theorem SlOk.on {s : Sl} (h : SlOk s) {d : Int} (hd : 0 ≤ d ∧ d ≤ 14609) : SlOk (s.on d) := ⟨h.st, h.sq, by show -9223372036854775808 ≤ d ∧ d ≤ 9223372036854775807; omega, h.kd, h.bd, h.pv, h.sl⟩
theorem slE_zero {r : List (List UInt8)} {s : Sl} (h : slE r s = 0) : rckE r = 0 ∧ frm r s = true := by
  unfold slE at h
  split at h
  · rename_i h1
    exact absurd h h1
  · rename_i h1
    split at h
    · rename_i h2
      exact ⟨by omega, h2⟩
    · cases h
theorem slE_on {r : List (List UInt8)} {s : Sl} (h : slE r s = 0) {d : Int} (h0 : 0 ≤ d ∧ d ≤ 14609) : slE r ((slS mk48 r s).on d) = 0 := by
  obtain ⟨h1, h2⟩ := slE_zero h
  refine slE_ok h1 ?_
  rw [slS_yes h]
  unfold frm at h2 ⊢
  rw [decide_eq_true_eq] at h2 ⊢
  obtain ⟨a0, a1, a2, a3, a4, a5, a6, a7, a8, a9⟩ := h2
  exact ⟨a0, a1, a2, a3, h0.1, h0.2, a6, a7, a8, a9⟩
theorem rgt_on {r : List (List UInt8)} {s : Sl} (h : slE r s = 0) {d : Int} (h0 : 0 ≤ d ∧ d ≤ 14609) : rgt mk48 r ((slS mk48 r s).on d) = decide ((slS mk48 r ((slS mk48 r s).on d)).sl = (slS mk48 r s).sl) := by
  have h1 := slE_on h h0
  unfold rgt
  rw [Bool.eq_iff_iff, decide_eq_true_eq, decide_eq_true_eq]
  constructor
  · rintro ⟨_, h2⟩
    rw [h2]
    rfl
  · intro h2
    refine ⟨h1, ?_⟩
    rw [slS_yes h1] at h2 ⊢
    exact put_eq.2 h2.symm
theorem rgt_no {r : List (List UInt8)} {s : Sl} (h : ¬ slE r s = 0) : rgt mk48 r s = false := by
  unfold rgt
  exact decide_eq_false fun h9 => h h9.1
theorem secretW (A : Option Addr) (c : Nat) (r : List (List UInt8)) (A2 : Option Addr) (c2 : Nat) (r2 : List (List UInt8)) (s : Sl) (a : Int) (w : World) (hr : Sts r (.slice A r.length c) w) (hr2 : Sts r2 (.slice A2 r2.length c2) w) (hs : SlOk s) (ha : 0 ≤ a ∧ a ≤ 65535) (hK : KK w) : Calls Tryd.prog 8 #[.agg #[.slice A r.length c, .slice A2 r2.length c2], .agg (slc s).toArray, .int .u16 a] w fun e w' => e = .returned (.bool true) ∧ Since w w' := by
  have hzs := zeroSl
  have HKK : Hid (∀ X, Since w X → KK X) := fun X h => hK.below h hK.1
  have HR1 : Hid (∀ X, Since w X → Sts r (.slice A r.length c) X) := fun X h => Sts.lasts _ _ _ _ hr h
  have HR2 : Hid (∀ X, Since w X → Sts r2 (.slice A2 r2.length c2) X) := fun X h => Sts.lasts _ _ _ _ hr2 h
  clear hr hr2 hK
  obtain ⟨ha0, ha1⟩ := ha
  go_enter Tryd.func8, Tryd.ntmps8
  go_upto_region 1 with (fail)
  obtain ⟨W0, hW0, hB0, hB1, hb⟩ := start2 w 61 28 [.slice A r.length c, .slice A2 r2.length c2] (slc s)
  rw [← hW0]
  clear hW0
  by_cases h1 : rckE r = 0
  · have H1 := Lib.hid h1
    clear h1
    by_cases h2 : rckE r2 = 0
    · have H2 := Lib.hid h2
      clear h2
      by_cases h3 : 1000 < s.bd.length
      · refine jp ?_
        refine jn (.pointer (some ⟨w.heap.size, 0, none⟩)) ?_
        refine jg (.agg #[.slice A r.length c]) (fun X hX hF => exec_inr 24 _ (by rfl) w.heap.size 0 [.slice A r.length c] (by rfl) Tryd.underlying24 rfl X (hB0.bel hX) (by rfl) info_rg) ?_
        refine jc (.int .i64 0) (fun X hX hF => mo (sckV r (.slice A r.length c) X (HR1.out X (bel_next hb hX))) (by rw [H1.out])) ?_
        refine jv (.bool false) (exec_nei _ _ _ _ (by rfl) .i64 0 0 (by rfl) (by rfl) false (by rfl)) ?_
        refine jm (.bool false) ?_
        refine jn (.pointer (some ⟨w.heap.size, 1, none⟩)) ?_
        refine jg (.agg #[.slice A2 r2.length c2]) (fun X hX hF => exec_inr 24 _ (by rfl) w.heap.size 1 [.slice A2 r2.length c2] (by rfl) Tryd.underlying24 rfl X (hB0.bel hX) (by rfl) info_rg) ?_
        refine jc (.int .i64 0) (fun X hX hF => mo (sckV r2 (.slice A2 r2.length c2) X (HR2.out X (bel_next hb hX))) (by rw [H2.out])) ?_
        refine jv (.bool false) (exec_nei _ _ _ _ (by rfl) .i64 0 0 (by rfl) (by rfl) false (by rfl)) ?_
        refine jm (.bool false) ?_
        refine jm (.bool false) ?_
        refine jn (.pointer (some ⟨(w.heap.size + 1), 4, none⟩)) ?_
        refine jf (st s.bd) hB1 4 load_str ?_
        refine jv (.int .i64 (s.bd.length : Int)) (exec_lens Tryd.underlying9 _ (by rfl) s.bd (by rfl) _ rfl) ?_
        refine jv (.bool true) (exec_gtr _ _ _ _ (by rfl) .i64 (s.bd.length : Int) 1000 (by rfl) (by rfl) true (decide_eq_true (by omega))) ?_
        refine jm (.bool true) ?_
        refine jz fun X1 hX1 => ?_
        have hB0 := hB0.bel hX1
        have hB1 := hB1.bel hX1
        have hb := bel_next hb hX1
        clear hX1
        go_upto_region 2 with (fail)
        refine jp ?_
        refine jc (.bool true) (fun X hX hF => sanC X (HKK.out X (bel_next hb hX))) ?_
        refine jm (.bool true) ?_
        refine jz fun X2 hX2 => ?_
        have hB0 := hB0.bel hX2
        have hB1 := hB1.bel hX2
        have hb := bel_next hb hX2
        clear hX2
        go_wp2
        go_ret
        exact ⟨rfl, hb⟩
      · refine jp ?_
        refine jn (.pointer (some ⟨w.heap.size, 0, none⟩)) ?_
        refine jg (.agg #[.slice A r.length c]) (fun X hX hF => exec_inr 24 _ (by rfl) w.heap.size 0 [.slice A r.length c] (by rfl) Tryd.underlying24 rfl X (hB0.bel hX) (by rfl) info_rg) ?_
        refine jc (.int .i64 0) (fun X hX hF => mo (sckV r (.slice A r.length c) X (HR1.out X (bel_next hb hX))) (by rw [H1.out])) ?_
        refine jv (.bool false) (exec_nei _ _ _ _ (by rfl) .i64 0 0 (by rfl) (by rfl) false (by rfl)) ?_
        refine jm (.bool false) ?_
        refine jn (.pointer (some ⟨w.heap.size, 1, none⟩)) ?_
        refine jg (.agg #[.slice A2 r2.length c2]) (fun X hX hF => exec_inr 24 _ (by rfl) w.heap.size 1 [.slice A2 r2.length c2] (by rfl) Tryd.underlying24 rfl X (hB0.bel hX) (by rfl) info_rg) ?_
        refine jc (.int .i64 0) (fun X hX hF => mo (sckV r2 (.slice A2 r2.length c2) X (HR2.out X (bel_next hb hX))) (by rw [H2.out])) ?_
        refine jv (.bool false) (exec_nei _ _ _ _ (by rfl) .i64 0 0 (by rfl) (by rfl) false (by rfl)) ?_
        refine jm (.bool false) ?_
        refine jm (.bool false) ?_
        refine jn (.pointer (some ⟨(w.heap.size + 1), 4, none⟩)) ?_
        refine jf (st s.bd) hB1 4 load_str ?_
        refine jv (.int .i64 (s.bd.length : Int)) (exec_lens Tryd.underlying9 _ (by rfl) s.bd (by rfl) _ rfl) ?_
        refine jv (.bool false) (exec_gtr _ _ _ _ (by rfl) .i64 (s.bd.length : Int) 1000 (by rfl) (by rfl) false (decide_eq_false (by omega))) ?_
        refine jm (.bool false) ?_
        refine jz fun X1 hX1 => ?_
        have hB0 := hB0.bel hX1
        have hB1 := hB1.bel hX1
        have hb := bel_next hb hX1
        clear hX1
        by_cases h4 : slE r s = 0
        · have hx := slS_ok (r := r) hs
          have hy := slS_ok (r := r2) hs
          have hd : 0 ≤ a % 14610 ∧ a % 14610 ≤ 14609 := by omega
          have h5 := slE_on h4 hd
          have h6 := rgt_on h4 hd
          have h7 := sealed_right mk48 mk_put h4
          have h8 := other_ring mk48 mk_put (r' := r2) h4
          have H4 := Lib.hid h4
          clear h4
          obtain ⟨x, hx9⟩ : ∃ x, x = slS mk48 r s := ⟨_, rfl⟩
          rw [← hx9] at h5 h6 h7 h8 hx
          have HX : Hid (slS mk48 r s = x) := hx9.symm
          clear hx9
          have ht := hx.on hd
          have hz := slS_ok (r := r) ht
          obtain ⟨t, ht9⟩ : ∃ t, t = x.on (a % 14610) := ⟨_, rfl⟩
          rw [← ht9] at h5 h6 ht hz
          have HT : Hid (x.on (a % 14610) = t) := ht9.symm
          clear ht9
          obtain ⟨z, hz9⟩ : ∃ z, z = slS mk48 r t := ⟨_, rfl⟩
          rw [← hz9] at h6 hz
          have HZ : Hid (slS mk48 r t = z) := hz9.symm
          clear hz9
          obtain ⟨y, hy9⟩ : ∃ y, y = slS mk48 r2 s := ⟨_, rfl⟩
          obtain ⟨f2, hf9⟩ : ∃ f2, f2 = slE r2 s := ⟨_, rfl⟩
          rw [← hy9, ← hf9] at h8
          rw [← hy9] at hy
          have HY : Hid (slS mk48 r2 s = y ∧ slE r2 s = f2) := ⟨hy9.symm, hf9.symm⟩
          clear hy9 hf9
          have H5 := Lib.hid h5
          have H6 := Lib.hid h6
          have H7 := Lib.hid h7
          have H8 := Lib.hid h8
          clear h5 h6 h7 h8
          go_upto_region 3 with (fail)
          refine jq 7 ?_
          refine jn (.pointer (some ⟨w.heap.size, 0, none⟩)) ?_
          refine jg (.agg #[.slice A r.length c]) (fun X hX hF => exec_inr 24 _ (by rfl) w.heap.size 0 [.slice A r.length c] (by rfl) Tryd.underlying24 rfl X (hB0.bel hX) (by rfl) info_rg) ?_
          refine jg (.agg (slc s).toArray) (fun X hX hF => exec_lda 28 _ (by rfl) (w.heap.size + 1) (by rfl) Tryd.underlying28 rfl X (hB1.bel hX) (info_slc hs)) ?_
          refine jc (.tuple #[.agg (slc x).toArray, .int .i64 0]) (fun X hX hF => mo (sslV r (.slice A r.length c) s X (HR1.out X (bel_next hb hX)) hs (HKK.out X (bel_next hb hX))) (by rw [HX.out, H4.out])) ?_
          refine jm (.tuple #[.agg (slc x).toArray, .int .i64 0]) ?_
          refine jm (.agg (slc x).toArray) ?_
          refine jm (.int .i64 0) ?_
          refine jz fun X2 hX2 => ?_
          have hB0 := hB0.bel hX2
          have hB1 := hB1.bel hX2
          have hb := bel_next hb hX2
          clear hX2
          go_upto_region 4 with (refine op_store_new _ _ _ rfl 28 (.tmp 7) (.tmp 36) (by rfl) (by rfl) (slc x).toArray (by rfl) (by show (slc x).toArray.size = (slc sl0).toArray.size; simp [SlOk.len hx, SlOk.len ok0]) (fun v hv => slc_one v (by simpa using hv)) (by rw [show (slc x).toArray.size = (slc x).length from by simp]; exact info_slc hx) ?_)
          obtain ⟨Y2, hY9, hD7, hS9⟩ := start1 X2 28 (slc x)
          rw [← hY9]
          clear hY9
          have hgs7 := hb.size
          have hlt7x0 := hB0.lt
          have hlt7x1 := hB1.lt
          have hB0 := hB0.bel hS9
          have hB1 := hB1.bel hS9
          have hb := bel_next hb hS9
          clear hS9
          generalize X2.heap.size = g7 at *
          refine jp ?_
          refine jm (.int .i64 0) ?_
          refine jv (.bool false) (exec_nei _ _ _ _ (by rfl) .i64 0 0 (by rfl) (by rfl) false (by rfl)) ?_
          refine jz fun X3 hX3 => ?_
          have hB0 := hB0.bel hX3
          have hB1 := hB1.bel hX3
          have hD7 := hD7.bel hX3
          have hb := bel_next hb hX3
          clear hX3
          go_upto_region 6 with (fail)
          refine jq 7 ?_
          refine jn (.pointer (some ⟨w.heap.size, 1, none⟩)) ?_
          refine jg (.agg #[.slice A2 r2.length c2]) (fun X hX hF => exec_inr 24 _ (by rfl) w.heap.size 1 [.slice A2 r2.length c2] (by rfl) Tryd.underlying24 rfl X (hB0.bel hX) (by rfl) info_rg) ?_
          refine jg (.agg (slc s).toArray) (fun X hX hF => exec_lda 28 _ (by rfl) (w.heap.size + 1) (by rfl) Tryd.underlying28 rfl X (hB1.bel hX) (info_slc hs)) ?_
          refine jc (.tuple #[.agg (slc y).toArray, .int .i64 f2]) (fun X hX hF => mo (sslV r2 (.slice A2 r2.length c2) s X (HR2.out X (bel_next hb hX)) hs (HKK.out X (bel_next hb hX))) (by rw [HY.out.1, HY.out.2])) ?_
          refine jm (.tuple #[.agg (slc y).toArray, .int .i64 f2]) ?_
          refine jm (.agg (slc y).toArray) ?_
          refine jm (.int .i64 f2) ?_
          refine jz fun X4 hX4 => ?_
          have hB0 := hB0.bel hX4
          have hB1 := hB1.bel hX4
          have hD7 := hD7.bel hX4
          have hb := bel_next hb hX4
          clear hX4
          go_upto_region 7 with (refine op_store_new _ _ _ rfl 28 (.tmp 9) (.tmp 58) (by rfl) (by rfl) (slc y).toArray (by rfl) (by show (slc y).toArray.size = (slc sl0).toArray.size; simp [SlOk.len hy, SlOk.len ok0]) (fun v hv => slc_one v (by simpa using hv)) (by rw [show (slc y).toArray.size = (slc y).length from by simp]; exact info_slc hy) ?_)
          obtain ⟨Y4, hY9, hD9, hS9⟩ := start1 X4 28 (slc y)
          rw [← hY9]
          clear hY9
          have hgs9 := hb.size
          have hlt9x0 := hB0.lt
          have hlt9x1 := hB1.lt
          have hlt9x2 := hD7.lt
          have hB0 := hB0.bel hS9
          have hB1 := hB1.bel hS9
          have hD7 := hD7.bel hS9
          have hb := bel_next hb hS9
          clear hS9
          generalize X4.heap.size = g9 at *
          refine jq 1 ?_
          refine jg (.agg (slc x).toArray) (fun X hX hF => exec_lda 28 _ (by rfl) g7 (by rfl) Tryd.underlying28 rfl X (hD7.bel hX) (info_slc hx)) ?_
          refine jz fun X5 hX5 => ?_
          have hB0 := hB0.bel hX5
          have hB1 := hB1.bel hX5
          have hD7 := hD7.bel hX5
          have hD9 := hD9.bel hX5
          have hb := bel_next hb hX5
          clear hX5
          go_upto_region 8 with (refine op_store_new _ _ _ rfl 28 (.tmp 11) (.tmp 60) (by rfl) (by rfl) (slc x).toArray (by rfl) (by show (slc x).toArray.size = (slc sl0).toArray.size; simp [SlOk.len hx, SlOk.len ok0]) (fun v hv => slc_one v (by simpa using hv)) (by rw [show (slc x).toArray.size = (slc x).length from by simp]; exact info_slc hx) ?_)
          obtain ⟨Y5, hY9, hD11, hS9⟩ := start1 X5 28 (slc x)
          rw [← hY9]
          clear hY9
          have hgs11 := hb.size
          have hlt11x0 := hB0.lt
          have hlt11x1 := hB1.lt
          have hlt11x2 := hD7.lt
          have hlt11x3 := hD9.lt
          have hB0 := hB0.bel hS9
          have hB1 := hB1.bel hS9
          have hD7 := hD7.bel hS9
          have hD9 := hD9.bel hS9
          have hb := bel_next hb hS9
          clear hS9
          generalize X5.heap.size = g11 at *
          refine jq 4 ?_
          refine jm (.int .u16 a) ?_
          refine jv (.int .i64 a) (exec_cnv _ _ .u16 .i64 Tryd.underlying62 Tryd.underlying3 _ (by rfl) a a (by rfl) (by rw [IntWalk.i64_in _ (by omega)])) ?_
          refine jv (.int .i64 (a % 14610)) (exec_rem _ _ _ _ (by rfl) .i64 a 14610 (a % 14610) (by rfl) (by rfl) (by omega) (by omega) (by omega)) ?_
          refine jn (.pointer (some ⟨g11, 2, none⟩)) ?_
          refine jz fun X6 hX6 => ?_
          have hB0 := hB0.bel hX6
          have hB1 := hB1.bel hX6
          have hD7 := hD7.bel hX6
          have hD9 := hD9.bel hX6
          have hD11 := hD11.bel hX6
          have hb := bel_next hb hX6
          clear hX6
          refine op_store1 rfl g11 2 28 _ hD11 (.int .i64 (a % 14610)) (by rw [hx.len]; decide) (fun X u h1 h2 => exec_sti _ _ (by rfl) _ _ (by rfl) (by rfl) u X h1 h2) ?_
          intro w9 hR9 hO9 hB9
          have hb := hB9 _ _ hb (by omega)
          have hB0 := hO9 _ _ _ (by omega) hB0
          have hB1 := hO9 _ _ _ (by omega) hB1
          have hD7 := hO9 _ _ _ (by omega) hD7
          have hD9 := hO9 _ _ _ (by omega) hD9
          have hD11 : Blk w9 g11 28 (slc t) := by rw [← HT.out]; exact hR9
          clear hR9 hO9 hB9
          go_upto_region 9 with (fail)
          refine jq 7 ?_
          refine jn (.pointer (some ⟨w.heap.size, 0, none⟩)) ?_
          refine jg (.agg #[.slice A r.length c]) (fun X hX hF => exec_inr 24 _ (by rfl) w.heap.size 0 [.slice A r.length c] (by rfl) Tryd.underlying24 rfl X (hB0.bel hX) (by rfl) info_rg) ?_
          refine jg (.agg (slc t).toArray) (fun X hX hF => exec_lda 28 _ (by rfl) g11 (by rfl) Tryd.underlying28 rfl X (hD11.bel hX) (info_slc ht)) ?_
          refine jc (.tuple #[.agg (slc z).toArray, .int .i64 0]) (fun X hX hF => mo (sslV r (.slice A r.length c) t X (HR1.out X (bel_next hb hX)) ht (HKK.out X (bel_next hb hX))) (by rw [HZ.out, H5.out])) ?_
          refine jm (.tuple #[.agg (slc z).toArray, .int .i64 0]) ?_
          refine jm (.agg (slc z).toArray) ?_
          refine jm (.int .i64 0) ?_
          refine jz fun X7 hX7 => ?_
          have hB0 := hB0.bel hX7
          have hB1 := hB1.bel hX7
          have hD7 := hD7.bel hX7
          have hD9 := hD9.bel hX7
          have hD11 := hD11.bel hX7
          have hb := bel_next hb hX7
          clear hX7
          go_upto_region 10 with (refine op_store_new _ _ _ rfl 28 (.tmp 12) (.tmp 70) (by rfl) (by rfl) (slc z).toArray (by rfl) (by show (slc z).toArray.size = (slc sl0).toArray.size; simp [SlOk.len hz, SlOk.len ok0]) (fun v hv => slc_one v (by simpa using hv)) (by rw [show (slc z).toArray.size = (slc z).length from by simp]; exact info_slc hz) ?_)
          obtain ⟨Y7, hY9, hD12, hS9⟩ := start1 X7 28 (slc z)
          rw [← hY9]
          clear hY9
          have hgs12 := hb.size
          have hlt12x0 := hB0.lt
          have hlt12x1 := hB1.lt
          have hlt12x2 := hD7.lt
          have hlt12x3 := hD9.lt
          have hlt12x4 := hD11.lt
          have hB0 := hB0.bel hS9
          have hB1 := hB1.bel hS9
          have hD7 := hD7.bel hS9
          have hD9 := hD9.bel hS9
          have hD11 := hD11.bel hS9
          have hb := bel_next hb hS9
          clear hS9
          generalize X7.heap.size = g12 at *
          by_cases hp : z.sl = x.sl
          · have hq := Lib.hid hp
            clear hp
            refine jd ?_
            refine jm (.int .i64 0) ?_
            refine jv (.bool false) (exec_nei _ _ _ _ (by rfl) .i64 0 0 (by rfl) (by rfl) false (by rfl)) ?_
            refine jm (.bool false) ?_
            refine jn (.pointer (some ⟨w.heap.size, 0, none⟩)) ?_
            refine jg (.agg #[.slice A r.length c]) (fun X hX hF => exec_inr 24 _ (by rfl) w.heap.size 0 [.slice A r.length c] (by rfl) Tryd.underlying24 rfl X (hB0.bel hX) (by rfl) info_rg) ?_
            refine jg (.agg (slc t).toArray) (fun X hX hF => exec_lda 28 _ (by rfl) g11 (by rfl) Tryd.underlying28 rfl X (hD11.bel hX) (info_slc ht)) ?_
            refine jc (.bool true) (fun X hX hF => mo (srgV r (.slice A r.length c) t X (HR1.out X (bel_next hb hX)) ht (HKK.out X (bel_next hb hX))) (by rw [H6.out, decide_eq_true hq.out])) ?_
            refine jn (.pointer (some ⟨g12, 21, none⟩)) ?_
            refine jg (.agg (z.sl.map B8).toArray) (fun X hX hF => exec_inr 26 _ (by rfl) g12 21 (z.sl.map B8) (by rfl) Tryd.underlying26 rfl X (hD12.bel hX) (slc_sl hz) (info_d16 hz.sl)) ?_
            refine jn (.pointer (some ⟨g7, 21, none⟩)) ?_
            refine jg (.agg (x.sl.map B8).toArray) (fun X hX hF => exec_inr 26 _ (by rfl) g7 21 (x.sl.map B8) (by rfl) Tryd.underlying26 rfl X (hD7.bel hX) (slc_sl hx) (info_d16 hx.sl)) ?_
            refine jv (.bool true) (exec_eqdg _ _ _ (by rfl) z.sl x.sl hz.sl hx.sl (by rfl) (by rfl) _ (eqs_t hq.out)) ?_
            refine jm (.bool false) ?_
            refine jm (.bool false) ?_
            refine jz fun X8 hX8 => ?_
            have hB0 := hB0.bel hX8
            have hB1 := hB1.bel hX8
            have hD7 := hD7.bel hX8
            have hD9 := hD9.bel hX8
            have hD11 := hD11.bel hX8
            have hD12 := hD12.bel hX8
            have hb := bel_next hb hX8
            clear hX8
            by_cases hp2 : f2 = 0
            · have hq2 := Lib.hid hp2
              clear hp2
              by_cases hp3 : y.sl = x.sl
              · have hq3 := Lib.hid hp3
                clear hp3
                go_upto_region 12 with (fail)
                refine jp ?_
                refine jc (.bool true) (fun X hX hF => sanC X (HKK.out X (bel_next hb hX))) ?_
                refine jm (.bool true) ?_
                refine jn (.pointer (some ⟨w.heap.size, 0, none⟩)) ?_
                refine jg (.agg #[.slice A r.length c]) (fun X hX hF => exec_inr 24 _ (by rfl) w.heap.size 0 [.slice A r.length c] (by rfl) Tryd.underlying24 rfl X (hB0.bel hX) (by rfl) info_rg) ?_
                refine jg (.agg (slc x).toArray) (fun X hX hF => exec_lda 28 _ (by rfl) g7 (by rfl) Tryd.underlying28 rfl X (hD7.bel hX) (info_slc hx)) ?_
                refine jc (.bool true) (fun X hX hF => mo (srgV r (.slice A r.length c) x X (HR1.out X (bel_next hb hX)) hx (HKK.out X (bel_next hb hX))) (by rw [H7.out])) ?_
                refine jm (.bool true) ?_
                refine jm (.bool true) ?_
                refine jn (.pointer (some ⟨w.heap.size, 1, none⟩)) ?_
                refine jg (.agg #[.slice A2 r2.length c2]) (fun X hX hF => exec_inr 24 _ (by rfl) w.heap.size 1 [.slice A2 r2.length c2] (by rfl) Tryd.underlying24 rfl X (hB0.bel hX) (by rfl) info_rg) ?_
                refine jg (.agg (slc x).toArray) (fun X hX hF => exec_lda 28 _ (by rfl) g7 (by rfl) Tryd.underlying28 rfl X (hD7.bel hX) (info_slc hx)) ?_
                refine jc (.bool true) (fun X hX hF => mo (srgV r2 (.slice A2 r2.length c2) x X (HR2.out X (bel_next hb hX)) hx (HKK.out X (bel_next hb hX))) (by rw [H8.out, decide_eq_true ⟨hq2.out, hq3.out⟩])) ?_
                refine jm (.int .i64 f2) ?_
                refine jv (.bool true) (exec_eqi _ _ _ _ (by rfl) .i64 f2 0 (by rfl) (by rfl) true (decide_eq_true hq2.out)) ?_
                refine jm (.bool true) ?_
                refine jn (.pointer (some ⟨g9, 21, none⟩)) ?_
                refine jg (.agg (y.sl.map B8).toArray) (fun X hX hF => exec_inr 26 _ (by rfl) g9 21 (y.sl.map B8) (by rfl) Tryd.underlying26 rfl X (hD9.bel hX) (slc_sl hy) (info_d16 hy.sl)) ?_
                refine jn (.pointer (some ⟨g7, 21, none⟩)) ?_
                refine jg (.agg (x.sl.map B8).toArray) (fun X hX hF => exec_inr 26 _ (by rfl) g7 21 (x.sl.map B8) (by rfl) Tryd.underlying26 rfl X (hD7.bel hX) (slc_sl hx) (info_d16 hx.sl)) ?_
                refine jv (.bool true) (exec_eqdg _ _ _ (by rfl) y.sl x.sl hy.sl hx.sl (by rfl) (by rfl) _ (eqs_t hq3.out)) ?_
                refine jm (.bool true) ?_
                refine jm (.bool true) ?_
                refine jm (.bool true) ?_
                refine jm (.bool true) ?_
                refine jz fun X9 hX9 => ?_
                have hB0 := hB0.bel hX9
                have hB1 := hB1.bel hX9
                have hD7 := hD7.bel hX9
                have hD9 := hD9.bel hX9
                have hD11 := hD11.bel hX9
                have hD12 := hD12.bel hX9
                have hb := bel_next hb hX9
                clear hX9
                go_wp2
                go_ret
                exact ⟨rfl, hb⟩
              · have hq3 : Hid (¬ y.sl = x.sl) := hp3
                clear hp3
                go_upto_region 12 with (fail)
                refine jp ?_
                refine jc (.bool true) (fun X hX hF => sanC X (HKK.out X (bel_next hb hX))) ?_
                refine jm (.bool true) ?_
                refine jn (.pointer (some ⟨w.heap.size, 0, none⟩)) ?_
                refine jg (.agg #[.slice A r.length c]) (fun X hX hF => exec_inr 24 _ (by rfl) w.heap.size 0 [.slice A r.length c] (by rfl) Tryd.underlying24 rfl X (hB0.bel hX) (by rfl) info_rg) ?_
                refine jg (.agg (slc x).toArray) (fun X hX hF => exec_lda 28 _ (by rfl) g7 (by rfl) Tryd.underlying28 rfl X (hD7.bel hX) (info_slc hx)) ?_
                refine jc (.bool true) (fun X hX hF => mo (srgV r (.slice A r.length c) x X (HR1.out X (bel_next hb hX)) hx (HKK.out X (bel_next hb hX))) (by rw [H7.out])) ?_
                refine jm (.bool true) ?_
                refine jm (.bool true) ?_
                refine jn (.pointer (some ⟨w.heap.size, 1, none⟩)) ?_
                refine jg (.agg #[.slice A2 r2.length c2]) (fun X hX hF => exec_inr 24 _ (by rfl) w.heap.size 1 [.slice A2 r2.length c2] (by rfl) Tryd.underlying24 rfl X (hB0.bel hX) (by rfl) info_rg) ?_
                refine jg (.agg (slc x).toArray) (fun X hX hF => exec_lda 28 _ (by rfl) g7 (by rfl) Tryd.underlying28 rfl X (hD7.bel hX) (info_slc hx)) ?_
                refine jc (.bool false) (fun X hX hF => mo (srgV r2 (.slice A2 r2.length c2) x X (HR2.out X (bel_next hb hX)) hx (HKK.out X (bel_next hb hX))) (by rw [H8.out, decide_eq_false (fun h9 => hq3.out h9.2)])) ?_
                refine jm (.int .i64 f2) ?_
                refine jv (.bool true) (exec_eqi _ _ _ _ (by rfl) .i64 f2 0 (by rfl) (by rfl) true (decide_eq_true hq2.out)) ?_
                refine jm (.bool true) ?_
                refine jn (.pointer (some ⟨g9, 21, none⟩)) ?_
                refine jg (.agg (y.sl.map B8).toArray) (fun X hX hF => exec_inr 26 _ (by rfl) g9 21 (y.sl.map B8) (by rfl) Tryd.underlying26 rfl X (hD9.bel hX) (slc_sl hy) (info_d16 hy.sl)) ?_
                refine jn (.pointer (some ⟨g7, 21, none⟩)) ?_
                refine jg (.agg (x.sl.map B8).toArray) (fun X hX hF => exec_inr 26 _ (by rfl) g7 21 (x.sl.map B8) (by rfl) Tryd.underlying26 rfl X (hD7.bel hX) (slc_sl hx) (info_d16 hx.sl)) ?_
                refine jv (.bool false) (exec_eqdg _ _ _ (by rfl) y.sl x.sl hy.sl hx.sl (by rfl) (by rfl) _ (eqs_f hq3.out)) ?_
                refine jm (.bool false) ?_
                refine jm (.bool true) ?_
                refine jm (.bool true) ?_
                refine jm (.bool true) ?_
                refine jz fun X9 hX9 => ?_
                have hB0 := hB0.bel hX9
                have hB1 := hB1.bel hX9
                have hD7 := hD7.bel hX9
                have hD9 := hD9.bel hX9
                have hD11 := hD11.bel hX9
                have hD12 := hD12.bel hX9
                have hb := bel_next hb hX9
                clear hX9
                go_wp2
                go_ret
                exact ⟨rfl, hb⟩
            · have hq2 : Hid (¬ f2 = 0) := hp2
              clear hp2
              go_upto_region 12 with (fail)
              refine jp ?_
              refine jc (.bool true) (fun X hX hF => sanC X (HKK.out X (bel_next hb hX))) ?_
              refine jm (.bool true) ?_
              refine jn (.pointer (some ⟨w.heap.size, 0, none⟩)) ?_
              refine jg (.agg #[.slice A r.length c]) (fun X hX hF => exec_inr 24 _ (by rfl) w.heap.size 0 [.slice A r.length c] (by rfl) Tryd.underlying24 rfl X (hB0.bel hX) (by rfl) info_rg) ?_
              refine jg (.agg (slc x).toArray) (fun X hX hF => exec_lda 28 _ (by rfl) g7 (by rfl) Tryd.underlying28 rfl X (hD7.bel hX) (info_slc hx)) ?_
              refine jc (.bool true) (fun X hX hF => mo (srgV r (.slice A r.length c) x X (HR1.out X (bel_next hb hX)) hx (HKK.out X (bel_next hb hX))) (by rw [H7.out])) ?_
              refine jm (.bool true) ?_
              refine jm (.bool true) ?_
              refine jn (.pointer (some ⟨w.heap.size, 1, none⟩)) ?_
              refine jg (.agg #[.slice A2 r2.length c2]) (fun X hX hF => exec_inr 24 _ (by rfl) w.heap.size 1 [.slice A2 r2.length c2] (by rfl) Tryd.underlying24 rfl X (hB0.bel hX) (by rfl) info_rg) ?_
              refine jg (.agg (slc x).toArray) (fun X hX hF => exec_lda 28 _ (by rfl) g7 (by rfl) Tryd.underlying28 rfl X (hD7.bel hX) (info_slc hx)) ?_
              refine jc (.bool false) (fun X hX hF => mo (srgV r2 (.slice A2 r2.length c2) x X (HR2.out X (bel_next hb hX)) hx (HKK.out X (bel_next hb hX))) (by rw [H8.out, decide_eq_false (fun h9 => hq2.out h9.1)])) ?_
              refine jm (.int .i64 f2) ?_
              refine jv (.bool false) (exec_eqi _ _ _ _ (by rfl) .i64 f2 0 (by rfl) (by rfl) false (decide_eq_false hq2.out)) ?_
              refine jm (.bool false) ?_
              refine js ?_
              refine js ?_
              refine js ?_
              refine js ?_
              refine js ?_
              refine jm (.bool false) ?_
              refine jm (.bool true) ?_
              refine jm (.bool true) ?_
              refine jm (.bool true) ?_
              refine jz fun X9 hX9 => ?_
              have hB0 := hB0.bel hX9
              have hB1 := hB1.bel hX9
              have hD7 := hD7.bel hX9
              have hD9 := hD9.bel hX9
              have hD11 := hD11.bel hX9
              have hD12 := hD12.bel hX9
              have hb := bel_next hb hX9
              clear hX9
              go_wp2
              go_ret
              exact ⟨rfl, hb⟩
          · have hq : Hid (¬ z.sl = x.sl) := hp
            clear hp
            refine jd ?_
            refine jm (.int .i64 0) ?_
            refine jv (.bool false) (exec_nei _ _ _ _ (by rfl) .i64 0 0 (by rfl) (by rfl) false (by rfl)) ?_
            refine jm (.bool false) ?_
            refine jn (.pointer (some ⟨w.heap.size, 0, none⟩)) ?_
            refine jg (.agg #[.slice A r.length c]) (fun X hX hF => exec_inr 24 _ (by rfl) w.heap.size 0 [.slice A r.length c] (by rfl) Tryd.underlying24 rfl X (hB0.bel hX) (by rfl) info_rg) ?_
            refine jg (.agg (slc t).toArray) (fun X hX hF => exec_lda 28 _ (by rfl) g11 (by rfl) Tryd.underlying28 rfl X (hD11.bel hX) (info_slc ht)) ?_
            refine jc (.bool false) (fun X hX hF => mo (srgV r (.slice A r.length c) t X (HR1.out X (bel_next hb hX)) ht (HKK.out X (bel_next hb hX))) (by rw [H6.out, decide_eq_false hq.out])) ?_
            refine jn (.pointer (some ⟨g12, 21, none⟩)) ?_
            refine jg (.agg (z.sl.map B8).toArray) (fun X hX hF => exec_inr 26 _ (by rfl) g12 21 (z.sl.map B8) (by rfl) Tryd.underlying26 rfl X (hD12.bel hX) (slc_sl hz) (info_d16 hz.sl)) ?_
            refine jn (.pointer (some ⟨g7, 21, none⟩)) ?_
            refine jg (.agg (x.sl.map B8).toArray) (fun X hX hF => exec_inr 26 _ (by rfl) g7 21 (x.sl.map B8) (by rfl) Tryd.underlying26 rfl X (hD7.bel hX) (slc_sl hx) (info_d16 hx.sl)) ?_
            refine jv (.bool false) (exec_eqdg _ _ _ (by rfl) z.sl x.sl hz.sl hx.sl (by rfl) (by rfl) _ (eqs_f hq.out)) ?_
            refine jm (.bool false) ?_
            refine jm (.bool false) ?_
            refine jz fun X8 hX8 => ?_
            have hB0 := hB0.bel hX8
            have hB1 := hB1.bel hX8
            have hD7 := hD7.bel hX8
            have hD9 := hD9.bel hX8
            have hD11 := hD11.bel hX8
            have hD12 := hD12.bel hX8
            have hb := bel_next hb hX8
            clear hX8
            by_cases hp2 : f2 = 0
            · have hq2 := Lib.hid hp2
              clear hp2
              by_cases hp3 : y.sl = x.sl
              · have hq3 := Lib.hid hp3
                clear hp3
                go_upto_region 12 with (fail)
                refine jp ?_
                refine jc (.bool true) (fun X hX hF => sanC X (HKK.out X (bel_next hb hX))) ?_
                refine jm (.bool true) ?_
                refine jn (.pointer (some ⟨w.heap.size, 0, none⟩)) ?_
                refine jg (.agg #[.slice A r.length c]) (fun X hX hF => exec_inr 24 _ (by rfl) w.heap.size 0 [.slice A r.length c] (by rfl) Tryd.underlying24 rfl X (hB0.bel hX) (by rfl) info_rg) ?_
                refine jg (.agg (slc x).toArray) (fun X hX hF => exec_lda 28 _ (by rfl) g7 (by rfl) Tryd.underlying28 rfl X (hD7.bel hX) (info_slc hx)) ?_
                refine jc (.bool true) (fun X hX hF => mo (srgV r (.slice A r.length c) x X (HR1.out X (bel_next hb hX)) hx (HKK.out X (bel_next hb hX))) (by rw [H7.out])) ?_
                refine jm (.bool true) ?_
                refine jm (.bool true) ?_
                refine jn (.pointer (some ⟨w.heap.size, 1, none⟩)) ?_
                refine jg (.agg #[.slice A2 r2.length c2]) (fun X hX hF => exec_inr 24 _ (by rfl) w.heap.size 1 [.slice A2 r2.length c2] (by rfl) Tryd.underlying24 rfl X (hB0.bel hX) (by rfl) info_rg) ?_
                refine jg (.agg (slc x).toArray) (fun X hX hF => exec_lda 28 _ (by rfl) g7 (by rfl) Tryd.underlying28 rfl X (hD7.bel hX) (info_slc hx)) ?_
                refine jc (.bool true) (fun X hX hF => mo (srgV r2 (.slice A2 r2.length c2) x X (HR2.out X (bel_next hb hX)) hx (HKK.out X (bel_next hb hX))) (by rw [H8.out, decide_eq_true ⟨hq2.out, hq3.out⟩])) ?_
                refine jm (.int .i64 f2) ?_
                refine jv (.bool true) (exec_eqi _ _ _ _ (by rfl) .i64 f2 0 (by rfl) (by rfl) true (decide_eq_true hq2.out)) ?_
                refine jm (.bool true) ?_
                refine jn (.pointer (some ⟨g9, 21, none⟩)) ?_
                refine jg (.agg (y.sl.map B8).toArray) (fun X hX hF => exec_inr 26 _ (by rfl) g9 21 (y.sl.map B8) (by rfl) Tryd.underlying26 rfl X (hD9.bel hX) (slc_sl hy) (info_d16 hy.sl)) ?_
                refine jn (.pointer (some ⟨g7, 21, none⟩)) ?_
                refine jg (.agg (x.sl.map B8).toArray) (fun X hX hF => exec_inr 26 _ (by rfl) g7 21 (x.sl.map B8) (by rfl) Tryd.underlying26 rfl X (hD7.bel hX) (slc_sl hx) (info_d16 hx.sl)) ?_
                refine jv (.bool true) (exec_eqdg _ _ _ (by rfl) y.sl x.sl hy.sl hx.sl (by rfl) (by rfl) _ (eqs_t hq3.out)) ?_
                refine jm (.bool true) ?_
                refine jm (.bool true) ?_
                refine jm (.bool true) ?_
                refine jm (.bool true) ?_
                refine jz fun X9 hX9 => ?_
                have hB0 := hB0.bel hX9
                have hB1 := hB1.bel hX9
                have hD7 := hD7.bel hX9
                have hD9 := hD9.bel hX9
                have hD11 := hD11.bel hX9
                have hD12 := hD12.bel hX9
                have hb := bel_next hb hX9
                clear hX9
                go_wp2
                go_ret
                exact ⟨rfl, hb⟩
              · have hq3 : Hid (¬ y.sl = x.sl) := hp3
                clear hp3
                go_upto_region 12 with (fail)
                refine jp ?_
                refine jc (.bool true) (fun X hX hF => sanC X (HKK.out X (bel_next hb hX))) ?_
                refine jm (.bool true) ?_
                refine jn (.pointer (some ⟨w.heap.size, 0, none⟩)) ?_
                refine jg (.agg #[.slice A r.length c]) (fun X hX hF => exec_inr 24 _ (by rfl) w.heap.size 0 [.slice A r.length c] (by rfl) Tryd.underlying24 rfl X (hB0.bel hX) (by rfl) info_rg) ?_
                refine jg (.agg (slc x).toArray) (fun X hX hF => exec_lda 28 _ (by rfl) g7 (by rfl) Tryd.underlying28 rfl X (hD7.bel hX) (info_slc hx)) ?_
                refine jc (.bool true) (fun X hX hF => mo (srgV r (.slice A r.length c) x X (HR1.out X (bel_next hb hX)) hx (HKK.out X (bel_next hb hX))) (by rw [H7.out])) ?_
                refine jm (.bool true) ?_
                refine jm (.bool true) ?_
                refine jn (.pointer (some ⟨w.heap.size, 1, none⟩)) ?_
                refine jg (.agg #[.slice A2 r2.length c2]) (fun X hX hF => exec_inr 24 _ (by rfl) w.heap.size 1 [.slice A2 r2.length c2] (by rfl) Tryd.underlying24 rfl X (hB0.bel hX) (by rfl) info_rg) ?_
                refine jg (.agg (slc x).toArray) (fun X hX hF => exec_lda 28 _ (by rfl) g7 (by rfl) Tryd.underlying28 rfl X (hD7.bel hX) (info_slc hx)) ?_
                refine jc (.bool false) (fun X hX hF => mo (srgV r2 (.slice A2 r2.length c2) x X (HR2.out X (bel_next hb hX)) hx (HKK.out X (bel_next hb hX))) (by rw [H8.out, decide_eq_false (fun h9 => hq3.out h9.2)])) ?_
                refine jm (.int .i64 f2) ?_
                refine jv (.bool true) (exec_eqi _ _ _ _ (by rfl) .i64 f2 0 (by rfl) (by rfl) true (decide_eq_true hq2.out)) ?_
                refine jm (.bool true) ?_
                refine jn (.pointer (some ⟨g9, 21, none⟩)) ?_
                refine jg (.agg (y.sl.map B8).toArray) (fun X hX hF => exec_inr 26 _ (by rfl) g9 21 (y.sl.map B8) (by rfl) Tryd.underlying26 rfl X (hD9.bel hX) (slc_sl hy) (info_d16 hy.sl)) ?_
                refine jn (.pointer (some ⟨g7, 21, none⟩)) ?_
                refine jg (.agg (x.sl.map B8).toArray) (fun X hX hF => exec_inr 26 _ (by rfl) g7 21 (x.sl.map B8) (by rfl) Tryd.underlying26 rfl X (hD7.bel hX) (slc_sl hx) (info_d16 hx.sl)) ?_
                refine jv (.bool false) (exec_eqdg _ _ _ (by rfl) y.sl x.sl hy.sl hx.sl (by rfl) (by rfl) _ (eqs_f hq3.out)) ?_
                refine jm (.bool false) ?_
                refine jm (.bool true) ?_
                refine jm (.bool true) ?_
                refine jm (.bool true) ?_
                refine jz fun X9 hX9 => ?_
                have hB0 := hB0.bel hX9
                have hB1 := hB1.bel hX9
                have hD7 := hD7.bel hX9
                have hD9 := hD9.bel hX9
                have hD11 := hD11.bel hX9
                have hD12 := hD12.bel hX9
                have hb := bel_next hb hX9
                clear hX9
                go_wp2
                go_ret
                exact ⟨rfl, hb⟩
            · have hq2 : Hid (¬ f2 = 0) := hp2
              clear hp2
              go_upto_region 12 with (fail)
              refine jp ?_
              refine jc (.bool true) (fun X hX hF => sanC X (HKK.out X (bel_next hb hX))) ?_
              refine jm (.bool true) ?_
              refine jn (.pointer (some ⟨w.heap.size, 0, none⟩)) ?_
              refine jg (.agg #[.slice A r.length c]) (fun X hX hF => exec_inr 24 _ (by rfl) w.heap.size 0 [.slice A r.length c] (by rfl) Tryd.underlying24 rfl X (hB0.bel hX) (by rfl) info_rg) ?_
              refine jg (.agg (slc x).toArray) (fun X hX hF => exec_lda 28 _ (by rfl) g7 (by rfl) Tryd.underlying28 rfl X (hD7.bel hX) (info_slc hx)) ?_
              refine jc (.bool true) (fun X hX hF => mo (srgV r (.slice A r.length c) x X (HR1.out X (bel_next hb hX)) hx (HKK.out X (bel_next hb hX))) (by rw [H7.out])) ?_
              refine jm (.bool true) ?_
              refine jm (.bool true) ?_
              refine jn (.pointer (some ⟨w.heap.size, 1, none⟩)) ?_
              refine jg (.agg #[.slice A2 r2.length c2]) (fun X hX hF => exec_inr 24 _ (by rfl) w.heap.size 1 [.slice A2 r2.length c2] (by rfl) Tryd.underlying24 rfl X (hB0.bel hX) (by rfl) info_rg) ?_
              refine jg (.agg (slc x).toArray) (fun X hX hF => exec_lda 28 _ (by rfl) g7 (by rfl) Tryd.underlying28 rfl X (hD7.bel hX) (info_slc hx)) ?_
              refine jc (.bool false) (fun X hX hF => mo (srgV r2 (.slice A2 r2.length c2) x X (HR2.out X (bel_next hb hX)) hx (HKK.out X (bel_next hb hX))) (by rw [H8.out, decide_eq_false (fun h9 => hq2.out h9.1)])) ?_
              refine jm (.int .i64 f2) ?_
              refine jv (.bool false) (exec_eqi _ _ _ _ (by rfl) .i64 f2 0 (by rfl) (by rfl) false (decide_eq_false hq2.out)) ?_
              refine jm (.bool false) ?_
              refine js ?_
              refine js ?_
              refine js ?_
              refine js ?_
              refine js ?_
              refine jm (.bool false) ?_
              refine jm (.bool true) ?_
              refine jm (.bool true) ?_
              refine jm (.bool true) ?_
              refine jz fun X9 hX9 => ?_
              have hB0 := hB0.bel hX9
              have hB1 := hB1.bel hX9
              have hD7 := hD7.bel hX9
              have hD9 := hD9.bel hX9
              have hD11 := hD11.bel hX9
              have hD12 := hD12.bel hX9
              have hb := bel_next hb hX9
              clear hX9
              go_wp2
              go_ret
              exact ⟨rfl, hb⟩
        · obtain ⟨e, he9⟩ : ∃ e, e = slE r s := ⟨_, rfl⟩
          have HE : Hid (slE r s = e) := he9.symm
          rw [← he9] at h4
          have H4 : Hid (¬ e = 0) := h4
          have HX : Hid (slS mk48 r s = sl0 ∧ rgt mk48 r s = false) := ⟨slS_no (by rw [← he9]; exact h4), rgt_no (by rw [← he9]; exact h4)⟩
          clear h4 he9
          go_upto_region 3 with (fail)
          refine jq 7 ?_
          refine jn (.pointer (some ⟨w.heap.size, 0, none⟩)) ?_
          refine jg (.agg #[.slice A r.length c]) (fun X hX hF => exec_inr 24 _ (by rfl) w.heap.size 0 [.slice A r.length c] (by rfl) Tryd.underlying24 rfl X (hB0.bel hX) (by rfl) info_rg) ?_
          refine jg (.agg (slc s).toArray) (fun X hX hF => exec_lda 28 _ (by rfl) (w.heap.size + 1) (by rfl) Tryd.underlying28 rfl X (hB1.bel hX) (info_slc hs)) ?_
          refine jc (.tuple #[.agg (slc sl0).toArray, .int .i64 e]) (fun X hX hF => mo (sslV r (.slice A r.length c) s X (HR1.out X (bel_next hb hX)) hs (HKK.out X (bel_next hb hX))) (by rw [HX.out.1, HE.out])) ?_
          refine jm (.tuple #[.agg (slc sl0).toArray, .int .i64 e]) ?_
          refine jm (.agg (slc sl0).toArray) ?_
          refine jm (.int .i64 e) ?_
          refine jz fun X2 hX2 => ?_
          have hB0 := hB0.bel hX2
          have hB1 := hB1.bel hX2
          have hb := bel_next hb hX2
          clear hX2
          go_upto_region 4 with (refine op_store_new _ _ _ rfl 28 (.tmp 7) (.tmp 36) (by rfl) (by rfl) (slc sl0).toArray (by rfl) (by show (slc sl0).toArray.size = (slc sl0).toArray.size; simp [SlOk.len ok0, SlOk.len ok0]) (fun v hv => slc_one v (by simpa using hv)) (by rw [show (slc sl0).toArray.size = (slc sl0).length from by simp]; exact info_slc ok0) ?_)
          obtain ⟨Y2, hY9, hD7, hS9⟩ := start1 X2 28 (slc sl0)
          rw [← hY9]
          clear hY9
          have hgs7 := hb.size
          have hlt7x0 := hB0.lt
          have hlt7x1 := hB1.lt
          have hB0 := hB0.bel hS9
          have hB1 := hB1.bel hS9
          have hb := bel_next hb hS9
          clear hS9
          generalize X2.heap.size = g7 at *
          refine jp ?_
          refine jm (.int .i64 e) ?_
          refine jv (.bool true) (exec_nei _ _ _ _ (by rfl) .i64 e 0 (by rfl) (by rfl) true (by rw [decide_eq_false H4.out]; rfl)) ?_
          refine jz fun X3 hX3 => ?_
          have hB0 := hB0.bel hX3
          have hB1 := hB1.bel hX3
          have hD7 := hD7.bel hX3
          have hb := bel_next hb hX3
          clear hX3
          go_upto_region 5 with (fail)
          refine jp ?_
          refine jc (.bool true) (fun X hX hF => sanC X (HKK.out X (bel_next hb hX))) ?_
          refine jm (.bool true) ?_
          refine jg (.agg (slc sl0).toArray) (fun X hX hF => exec_lda 28 _ (by rfl) g7 (by rfl) Tryd.underlying28 rfl X (hD7.bel hX) (info_slc ok0)) ?_
          refine jv (.agg (slc sl0).toArray) (exec_bs0 (by rfl)) ?_
          refine jv (.bool true) (exec_eqsl _ _ _ (by rfl) sl0 sl0 ok0 ok0 (by rfl) (by rfl) _ (decide_eq_true rfl)) ?_
          refine jm (.bool true) ?_
          refine jm (.bool true) ?_
          refine jn (.pointer (some ⟨w.heap.size, 0, none⟩)) ?_
          refine jg (.agg #[.slice A r.length c]) (fun X hX hF => exec_inr 24 _ (by rfl) w.heap.size 0 [.slice A r.length c] (by rfl) Tryd.underlying24 rfl X (hB0.bel hX) (by rfl) info_rg) ?_
          refine jg (.agg (slc s).toArray) (fun X hX hF => exec_lda 28 _ (by rfl) (w.heap.size + 1) (by rfl) Tryd.underlying28 rfl X (hB1.bel hX) (info_slc hs)) ?_
          refine jc (.bool false) (fun X hX hF => mo (srgV r (.slice A r.length c) s X (HR1.out X (bel_next hb hX)) hs (HKK.out X (bel_next hb hX))) (by rw [HX.out.2])) ?_
          refine jm (.bool true) ?_
          refine jm (.bool true) ?_
          refine jm (.bool true) ?_
          refine jz fun X4 hX4 => ?_
          have hB0 := hB0.bel hX4
          have hB1 := hB1.bel hX4
          have hD7 := hD7.bel hX4
          have hb := bel_next hb hX4
          clear hX4
          go_wp2
          go_ret
          exact ⟨rfl, hb⟩
    · obtain ⟨e2, he29⟩ : ∃ e2, e2 = rckE r2 := ⟨_, rfl⟩
      have HE2 : Hid (rckE r2 = e2) := he29.symm
      rw [← he29] at h2
      have H2 : Hid (¬ e2 = 0) := h2
      clear h2 he29
      refine jp ?_
      refine jn (.pointer (some ⟨w.heap.size, 0, none⟩)) ?_
      refine jg (.agg #[.slice A r.length c]) (fun X hX hF => exec_inr 24 _ (by rfl) w.heap.size 0 [.slice A r.length c] (by rfl) Tryd.underlying24 rfl X (hB0.bel hX) (by rfl) info_rg) ?_
      refine jc (.int .i64 0) (fun X hX hF => mo (sckV r (.slice A r.length c) X (HR1.out X (bel_next hb hX))) (by rw [H1.out])) ?_
      refine jv (.bool false) (exec_nei _ _ _ _ (by rfl) .i64 0 0 (by rfl) (by rfl) false (by rfl)) ?_
      refine jm (.bool false) ?_
      refine jn (.pointer (some ⟨w.heap.size, 1, none⟩)) ?_
      refine jg (.agg #[.slice A2 r2.length c2]) (fun X hX hF => exec_inr 24 _ (by rfl) w.heap.size 1 [.slice A2 r2.length c2] (by rfl) Tryd.underlying24 rfl X (hB0.bel hX) (by rfl) info_rg) ?_
      refine jc (.int .i64 e2) (fun X hX hF => mo (sckV r2 (.slice A2 r2.length c2) X (HR2.out X (bel_next hb hX))) (by rw [HE2.out])) ?_
      refine jv (.bool true) (exec_nei _ _ _ _ (by rfl) .i64 e2 0 (by rfl) (by rfl) true (by rw [decide_eq_false H2.out]; rfl)) ?_
      refine jm (.bool true) ?_
      refine jm (.bool true) ?_
      refine js ?_
      refine js ?_
      refine js ?_
      refine js ?_
      refine jm (.bool true) ?_
      refine jz fun X1 hX1 => ?_
      have hB0 := hB0.bel hX1
      have hB1 := hB1.bel hX1
      have hb := bel_next hb hX1
      clear hX1
      go_upto_region 2 with (fail)
      refine jp ?_
      refine jc (.bool true) (fun X hX hF => sanC X (HKK.out X (bel_next hb hX))) ?_
      refine jm (.bool true) ?_
      refine jz fun X2 hX2 => ?_
      have hB0 := hB0.bel hX2
      have hB1 := hB1.bel hX2
      have hb := bel_next hb hX2
      clear hX2
      go_wp2
      go_ret
      exact ⟨rfl, hb⟩
  · obtain ⟨e1, he19⟩ : ∃ e1, e1 = rckE r := ⟨_, rfl⟩
    have HE1 : Hid (rckE r = e1) := he19.symm
    rw [← he19] at h1
    have H1 : Hid (¬ e1 = 0) := h1
    clear h1 he19
    refine jp ?_
    refine jn (.pointer (some ⟨w.heap.size, 0, none⟩)) ?_
    refine jg (.agg #[.slice A r.length c]) (fun X hX hF => exec_inr 24 _ (by rfl) w.heap.size 0 [.slice A r.length c] (by rfl) Tryd.underlying24 rfl X (hB0.bel hX) (by rfl) info_rg) ?_
    refine jc (.int .i64 e1) (fun X hX hF => mo (sckV r (.slice A r.length c) X (HR1.out X (bel_next hb hX))) (by rw [HE1.out])) ?_
    refine jv (.bool true) (exec_nei _ _ _ _ (by rfl) .i64 e1 0 (by rfl) (by rfl) true (by rw [decide_eq_false H1.out]; rfl)) ?_
    refine jm (.bool true) ?_
    refine js ?_
    refine js ?_
    refine js ?_
    refine js ?_
    refine jm (.bool true) ?_
    refine jm (.bool true) ?_
    refine js ?_
    refine js ?_
    refine js ?_
    refine js ?_
    refine jm (.bool true) ?_
    refine jz fun X1 hX1 => ?_
    have hB0 := hB0.bel hX1
    have hB1 := hB1.bel hX1
    have hb := bel_next hb hX1
    clear hX1
    go_upto_region 2 with (fail)
    refine jp ?_
    refine jc (.bool true) (fun X hX hF => sanC X (HKK.out X (bel_next hb hX))) ?_
    refine jm (.bool true) ?_
    refine jz fun X2 hX2 => ?_
    have hB0 := hB0.bel hX2
    have hB1 := hB1.bel hX2
    have hb := bel_next hb hX2
    clear hX2
    go_wp2
    go_ret
    exact ⟨rfl, hb⟩

end Go.Proofs.YthinopepcmidmaaDoor
