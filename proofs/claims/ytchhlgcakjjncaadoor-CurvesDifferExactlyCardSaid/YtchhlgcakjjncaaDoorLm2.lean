/-
  law 13: CurveIsLinear.
-/
import Derived.Test.YtchhlgcakjjncaaDoorLm1
set_option linter.unusedSimpArgs false
set_option linter.unusedVariables false
set_option maxRecDepth 100000
set_option maxHeartbeats 1600000
namespace Go.Proofs.YtchhlgcakjjncaaDoor
open Go.RowKit
theorem low_flow {l : List Pt} (hc : ck l = 0) {s : Int} (hs : s < (pt l 0).1) : flowC0 l s = 0 := by
  have hk := (ck_zero hc).crv
  have hp := hk.pos
  rw [List.length_map] at hp
  have h1 := flow_before hk (s := s) (by rw [(kn_at (by omega)).1]; exact hs)
  unfold flowC0
  rw [if_pos hc]
  exact h1
theorem asc_pt {l : List Pt} (hc : ck l = 0) {k : Nat} (hk : k + 1 < l.length) : (pt l k).1 < (pt l (k + 1)).1 := ((((ck_iff l).1 hc).2 (k + 1) hk).2.2 (by omega)).1
theorem seg_flow {l : List Pt} (hc : ck l = 0) {k : Nat} (hk : k + 1 < l.length) {e : Int} (h1 : 0 ≤ e) (h2 : e < (pt l (k + 1)).1 - (pt l k).1) :
    ri ((pt l (k + 1)).1 - (pt l k).1) * flowC0 l ((pt l k).1 + e) = ri ((pt l (k + 1)).1 - (pt l k).1 - e) * trq (pt l k).2 + ri e * trq (pt l (k + 1)).2 := by
  have h3 := flow_seg (ck_zero hc).crv (k := k) (by rw [List.length_map]; exact hk) (s := (pt l k).1 + e) (by rw [(kn_at (by omega)).1]; omega) (by rw [(kn_at hk).1]; omega)
  rw [(kn_at (show k < l.length by omega)).1, (kn_at (show k < l.length by omega)).2, (kn_at hk).1, (kn_at hk).2] at h3
  have h4 := lin_mul (trq (pt l k).2) (trq (pt l (k + 1)).2) ((pt l k).1 + e) (asc_pt hc hk)
  unfold flowC0 ri
  rw [if_pos hc, h3, h4, show (pt l (k + 1)).1 - ((pt l k).1 + e) = (pt l (k + 1)).1 - (pt l k).1 - e by omega, show (pt l k).1 + e - (pt l k).1 = e by omega]
theorem line0 (w : World) (A : Option Addr) (n c : Nat) (l : List Pt) (hr : Rd w 4 (.slice A n c) n (fl ptc l)) (hln : l.length = n) (hn1 : n ≤ 9223372036854775807) (a m : Int) (a0 : 0 ≤ a) (a1 : a ≤ 255) (m0 : 0 ≤ m) (m1 : m ≤ 65535) (h0 : fewB l 8 = false) : Calls Tryd.prog 8 #[.agg #[.slice A n c], .int .u8 a, .int .u16 m] w fun e w' => e = .returned (.bool true) ∧ Since w w' := by
  have HRX : Hid (∀ X, Since w X → Rd X 4 (.slice A n c) n (fl ptc l)) := fun X h => hr.below h
  clear hr
  go_enter Tryd.func8, Tryd.ntmps8
  go_upto_region 1 with (fail)
  obtain ⟨W0, hW0, hB0, hb⟩ := start1 w 48 [.slice A n c]
  rw [← hW0]
  clear hW0
  refine jp ?_
  refine ja hB0 Tryd.underlying48 (by rfl) info_cv ?_
  refine jc (.bool false) (fun X hX hF => mo (few13L A n c l X (HRX.out X (hb.trans (Below.mono hX hb.size))) hln hn1) (by rw [h0])) ?_
  refine jm (.bool true) ?_
  refine jm (.bool true) ?_
  refine js ?_
  refine js ?_
  refine js ?_
  refine jm (.bool true) ?_
  refine jz fun X1 hX1 => ?_
  have hB0 := hB0.bel hX1
  have hb := bel_next hb hX1
  clear hX1
  go_upto_region 2 with (fail)
  refine jp ?_
  refine jc (.bool true) (fun X hX hF => sanityC X) ?_
  refine jm (.bool true) ?_
  refine jz fun X2 hX2 => ?_
  have hB0 := hB0.bel hX2
  have hb := bel_next hb hX2
  clear hX2
  go_wp2
  go_ret
  exact ⟨rfl, hb⟩
theorem line1 (w : World) (A : Option Addr) (n c : Nat) (l : List Pt) (hr : Rd w 4 (.slice A n c) n (fl ptc l)) (hln : l.length = n) (hn1 : n ≤ 9223372036854775807) (a m : Int) (a0 : 0 ≤ a) (a1 : a ≤ 255) (m0 : 0 ≤ m) (m1 : m ≤ 65535) (h0 : fewB l 8 = true) (hf : fewP l 1000) (hc : ck l ≠ 0) : Calls Tryd.prog 8 #[.agg #[.slice A n c], .int .u8 a, .int .u16 m] w fun e w' => e = .returned (.bool true) ∧ Since w w' := by
  have HRX : Hid (∀ X, Since w X → Rd X 4 (.slice A n c) n (fl ptc l)) := fun X h => hr.below h
  clear hr
  go_enter Tryd.func8, Tryd.ntmps8
  go_upto_region 1 with (fail)
  obtain ⟨W0, hW0, hB0, hb⟩ := start1 w 48 [.slice A n c]
  rw [← hW0]
  clear hW0
  refine jp ?_
  refine ja hB0 Tryd.underlying48 (by rfl) info_cv ?_
  refine jc (.bool true) (fun X hX hF => mo (few13L A n c l X (HRX.out X (hb.trans (Below.mono hX hb.size))) hln hn1) (by rw [h0])) ?_
  refine jm (.bool false) ?_
  refine jm (.bool false) ?_
  refine ja hB0 Tryd.underlying48 (by rfl) info_cv ?_
  refine jc (.int .i64 (ck l)) (fun X hX hF => checkC A n c l X (HRX.out X (hb.trans (Below.mono hX hb.size))) hln hn1 hf.mono) ?_
  refine jv (.bool true) (exec_nei _ _ _ _ (by rfl) .i64 (ck l) 0 (by rfl) (by rfl) true (by rw [decide_eq_false (by omega)]; rfl)) ?_
  refine jm (.bool true) ?_
  refine jz fun X1 hX1 => ?_
  have hB0 := hB0.bel hX1
  have hb := bel_next hb hX1
  clear hX1
  go_upto_region 2 with (fail)
  refine jp ?_
  refine jc (.bool true) (fun X hX hF => sanityC X) ?_
  refine jm (.bool true) ?_
  refine jz fun X2 hX2 => ?_
  have hB0 := hB0.bel hX2
  have hb := bel_next hb hX2
  clear hX2
  go_wp2
  go_ret
  exact ⟨rfl, hb⟩
theorem lineL (w : World) (b off : Nat) (n c : Nat) (l : List Pt) (hr : Rd w 4 (.slice (some ⟨b, off, none⟩) n c) n (fl ptc l)) (hln : l.length = n) (hn1 : n ≤ 9223372036854775807) (a m : Int) (a0 : 0 ≤ a) (a1 : a ≤ 255) (m0 : 0 ≤ m) (m1 : m ≤ 65535) (HF8 : Hid (fewB l 8 = true)) (hfw : fewP l 8) (hf : fewP l 1000) (hc : ck l = 0) (k : Nat) (HK : Hid ((k : Int) = a % (n : Int))) (hk : k < n) (x : Pt) (HX : Hid (x = pt l k)) (fx : Rat) (HFX : Hid (rq x.2.1 x.2.2.1 x.2.2.2 = fx)) (hkn : k + 1 = n) : Calls Tryd.prog 8 #[.agg #[.slice (some ⟨b, off, none⟩) n c], .int .u8 a, .int .u16 m] w fun e w' => e = .returned (.bool true) ∧ Since w w' := by
  have HRX : Hid (∀ X, Since w X → Rd X 4 (.slice (some ⟨b, off, none⟩) n c) n (fl ptc l)) := fun X h => hr.below h
  clear hr
  have hl16 := len_pt hc
  rw [hln] at hl16
  have HLN := Lib.hid hln
  have hkx : k < l.length := by omega
  have tx : tz x.2.2.1 x.2.2.2 8 := by rw [HX.out]; exact hfw k hkx
  have HVX : Hid (vd x.2.1 x.2.2.1 x.2.2.2 = true) := by show _ = _; rw [HX.out]; exact vd_pt hc hkx
  have hxr : -1000 ≤ x.1 ∧ x.1 ≤ 2000 := by rw [HX.out]; exact rng_pt hc hkx
  have HAX : Hid (flowC0 l x.1 = fx) := by
    show _ = _
    rw [← HFX.out, HX.out]
    exact at_flow hc hkx
  have hkn9 := hkn
  have HUP : Hid (flowC0 l (x.1 + m) = fx) := by
    show _ = _
    have h9 := up_flow hc (s := x.1 + m) (by rw [hln, show n - 1 = k by omega, ← HX.out]; omega)
    rw [hln, show n - 1 = k by omega, ← HX.out] at h9
    rw [← HFX.out]
    exact h9
  have LB6 : szR fx 8 := szR_tz HFX.out tx

  go_enter Tryd.func8, Tryd.ntmps8
  go_upto_region 1 with (fail)
  obtain ⟨W0, hW0, hB0, hb⟩ := start1 w 48 [.slice (some ⟨b, off, none⟩) n c]
  rw [← hW0]
  clear hW0
  refine jp ?_
  refine ja hB0 Tryd.underlying48 (by rfl) info_cv ?_
  refine jc (.bool true) (fun X hX hF => mo (few13L (some ⟨b, off, none⟩) n c l X (HRX.out X (hb.trans (Below.mono hX hb.size))) hln hn1) (by rw [HF8.out])) ?_
  refine jm (.bool false) ?_
  refine jm (.bool false) ?_
  refine ja hB0 Tryd.underlying48 (by rfl) info_cv ?_
  refine jc (.int .i64 0) (fun X hX hF => mo (checkC (some ⟨b, off, none⟩) n c l X (HRX.out X (hb.trans (Below.mono hX hb.size))) hln hn1 hf.mono) (by rw [hc])) ?_
  refine jv (.bool false) (exec_nei _ _ _ _ (by rfl) .i64 0 0 (by rfl) (by rfl) false (by rw [decide_eq_true (by omega)]; rfl)) ?_
  refine jm (.bool false) ?_
  refine jz fun X1 hX1 => ?_
  have hB0 := hB0.bel hX1
  have hb := bel_next hb hX1
  clear hX1
  go_upto_region 3 with (fail)
  refine jp ?_
  refine jm (.int .u8 a) ?_
  refine jv (.int .i64 a) (exec_cnv _ _ .u8 .i64 Tryd.underlying5 Tryd.underlying3 _ (by rfl) a a (by rfl) (by rw [IntWalk.i64_in _ (by omega)])) ?_
  refine jn (.pointer (some ⟨w.heap.size, 0, none⟩)) ?_
  refine jf (.slice (some ⟨b, off, none⟩) n c) hB0 0 load_pts ?_
  refine jv (.int .i64 (n : Int)) (exec_lenv Tryd.underlying46 _ (by rfl) (some ⟨b, off, none⟩) n c (by rfl) _ rfl) ?_
  refine jv (.int .i64 (k : Int)) (exec_rem _ _ _ _ (by rfl) .i64 a (n : Int) (k : Int) (by rfl) (by rfl) (by omega) (by omega) HK.out.symm) ?_
  refine jm (.int .i64 (k : Int)) ?_
  refine jz fun X2 hX2 => ?_
  have hB0 := hB0.bel hX2
  have hb := bel_next hb hX2
  clear hX2
  obtain ⟨hbb, hcx⟩ := (HRX.out _ hb).ptIn HLN.out (show k < n by omega)
  rw [← HX.out] at hcx
  go_upto_region 4 with (fail)
  refine jq 5 ?_
  refine jn (.pointer (some ⟨w.heap.size, 0, none⟩)) ?_
  refine jf (.slice (some ⟨b, off, none⟩) n c) hB0 0 load_pts ?_
  refine jm (.int .i64 (k : Int)) ?_
  refine jv (.pointer (some ⟨b, off + k * 4, none⟩)) (exec_ixv Tryd.underlying46 info_pt _ _ (by rfl) b (off) n c k (by omega) (by rfl) (by rfl) rfl) ?_
  refine jg (.agg #[.int .i64 x.1, .bool x.2.1, st x.2.2.1, st x.2.2.2]) (fun X hX hF => exec_ldc 54 _ (by rfl) b (off + k * 4) (by rfl) Tryd.underlying54 rfl [.int .i64 x.1, .bool x.2.1, .string ⟨x.2.2.1.toArray⟩, .string ⟨x.2.2.2.toArray⟩] X (Cl.part (hcx.below hX hbb) 0 _ (by rfl)) info_pt) ?_
  refine jz fun X3 hX3 => ?_
  have hB0 := hB0.bel hX3
  have hcx := hcx.below hX3 hbb
  replace hbb := Nat.lt_of_lt_of_le hbb (hX3).size
  have hb := bel_next hb hX3
  clear hX3
  go_upto_region 5 with (refine osn 54 8 32 #[.int .i64 x.1, .bool x.2.1, .string ⟨x.2.2.1.toArray⟩, .string ⟨x.2.2.2.toArray⟩] info_pt ?_)
  obtain ⟨Y3, hY9, hD8, hS9⟩ := start1 X3 54 [.int .i64 x.1, .bool x.2.1, .string ⟨x.2.2.1.toArray⟩, .string ⟨x.2.2.2.toArray⟩]
  rw [← hY9]
  clear hY9
  have hgs8 := hb.size
  have hlt8x0 := hB0.lt
  have hcx := hcx.below hS9 hbb
  replace hbb := Nat.lt_of_lt_of_le hbb (hS9).size
  have hB0 := hB0.bel hS9
  have hb := bel_next hb hS9
  clear hS9
  generalize X3.heap.size = g8 at *
  rcases Nat.eq_zero_or_pos k with hk0 | hk0
  · have HLO : Hid (flowC0 l (x.1 - 1) = 0) := low_flow hc (by rw [← hk0, ← HX.out]; omega)
    refine jd ?_
    refine ja hB0 Tryd.underlying48 (by rfl) info_cv ?_
    refine jn (.pointer (some ⟨g8, 0, none⟩)) ?_
    refine jf (.int .i64 x.1) hD8 0 load_int ?_
    refine jc (rt (rN fx) (rP fx) (rD fx)) (fun X hX hF => mo (flowC (some ⟨b, off, none⟩) n c l x.1 X (HRX.out X (hb.trans (Below.mono hX hb.size))) hln hn1 hf) (by rw [HAX.out])) ?_
    refine jn (.pointer (some ⟨g8, 1, none⟩)) ?_
    refine jg (.agg #[.bool x.2.1, st x.2.2.1, st x.2.2.2]) (fun X hX hF => exec_inr 26 _ (by rfl) g8 1 [.bool x.2.1, .string ⟨x.2.2.1.toArray⟩, .string ⟨x.2.2.2.toArray⟩] (by rfl) Tryd.underlying26 rfl X (hD8.bel hX) (by rfl) info_rat) ?_
    refine jv (.bool false) (exec_ner _ _ (by rfl) (rN fx) (rP fx) (rD fx) x.2.1 x.2.2.1 x.2.2.2 (by rfl) (by rfl) false (rb_lit HVX.out HFX.out)) ?_
    refine jm (.bool false) ?_
    refine jm (.int .i64 (k : Int)) ?_
    refine jv (.bool true) (exec_eqi _ _ _ _ (by rfl) .i64 (k : Int) 0 (by rfl) (by rfl) true (decide_eq_true (by omega))) ?_
    refine jm (.bool true) ?_
    refine ja hB0 Tryd.underlying48 (by rfl) info_cv ?_
    refine jn (.pointer (some ⟨g8, 0, none⟩)) ?_
    refine jf (.int .i64 x.1) hD8 0 load_int ?_
    refine jv (.int .i64 (x.1 - 1)) (exec_sub _ _ _ _ (by rfl) x.1 1 (x.1 - 1) (by rfl) (by rfl) (by omega) (by omega) (by omega)) ?_
    refine jc (rt (rN 0) (rP 0) (rD 0)) (fun X hX hF => mo (flowC (some ⟨b, off, none⟩) n c l (x.1 - 1) X (HRX.out X (hb.trans (Below.mono hX hb.size))) hln hn1 hf) (by rw [HLO.out])) ?_
    refine jn (rz) ?_
    refine jv (.bool false) (exec_ner _ _ (by rfl) (rN 0) (rP 0) (rD 0) false [] [] (by rfl) (by rfl) false (rb_zt rfl)) ?_
    refine jm (.bool false) ?_
    refine jm (.bool false) ?_
    refine jz fun X4 hX4 => ?_
    have hB0 := hB0.bel hX4
    have hD8 := hD8.bel hX4
    have hb := bel_next hb hX4
    clear hX4
    go_upto_region 7 with (fail)
    refine jp ?_
    refine jm (.int .i64 (k : Int)) ?_
    refine jv (.int .i64 ((k + 1 : Nat) : Int)) (exec_add _ _ _ _ (by rfl) (k : Int) 1 ((k + 1 : Nat) : Int) (by rfl) (by rfl) (by omega) (by omega) (by omega)) ?_
    refine jn (.pointer (some ⟨w.heap.size, 0, none⟩)) ?_
    refine jf (.slice (some ⟨b, off, none⟩) n c) hB0 0 load_pts ?_
    refine jv (.int .i64 (n : Int)) (exec_lenv Tryd.underlying46 _ (by rfl) (some ⟨b, off, none⟩) n c (by rfl) _ rfl) ?_
    refine jv (.bool true) (exec_eqi _ _ _ _ (by rfl) .i64 ((k + 1 : Nat) : Int) (n : Int) (by rfl) (by rfl) true (decide_eq_true (by omega))) ?_
    refine jz fun X5 hX5 => ?_
    have hB0 := hB0.bel hX5
    have hD8 := hD8.bel hX5
    have hb := bel_next hb hX5
    clear hX5
    go_upto_region 8 with (fail)
    refine jd ?_
    refine jc (.bool true) (fun X hX hF => sanityC X) ?_
    refine jm (.bool true) ?_
    refine ja hB0 Tryd.underlying48 (by rfl) info_cv ?_
    refine jn (.pointer (some ⟨g8, 0, none⟩)) ?_
    refine jf (.int .i64 x.1) hD8 0 load_int ?_
    refine jm (.int .u16 m) ?_
    refine jv (.int .i64 m) (exec_cnv _ _ .u16 .i64 Tryd.underlying57 Tryd.underlying3 _ (by rfl) m m (by rfl) (by rw [IntWalk.i64_in _ (by omega)])) ?_
    refine jv (.int .i64 (x.1 + m)) (exec_add _ _ _ _ (by rfl) x.1 m (x.1 + m) (by rfl) (by rfl) (by omega) (by omega) (by omega)) ?_
    refine jc (rt (rN fx) (rP fx) (rD fx)) (fun X hX hF => mo (flowC (some ⟨b, off, none⟩) n c l (x.1 + m) X (HRX.out X (hb.trans (Below.mono hX hb.size))) hln hn1 hf) (by rw [HUP.out])) ?_
    refine jn (.pointer (some ⟨g8, 1, none⟩)) ?_
    refine jg (.agg #[.bool x.2.1, st x.2.2.1, st x.2.2.2]) (fun X hX hF => exec_inr 26 _ (by rfl) g8 1 [.bool x.2.1, .string ⟨x.2.2.1.toArray⟩, .string ⟨x.2.2.2.toArray⟩] (by rfl) Tryd.underlying26 rfl X (hD8.bel hX) (by rfl) info_rat) ?_
    refine jv (.bool true) (exec_eqr _ _ (by rfl) (rN fx) (rP fx) (rD fx) x.2.1 x.2.2.1 x.2.2.2 (by rfl) (by rfl) true (rb_lit HVX.out HFX.out)) ?_
    refine jm (.bool true) ?_
    refine jm (.bool true) ?_
    refine jz fun X6 hX6 => ?_
    have hB0 := hB0.bel hX6
    have hD8 := hD8.bel hX6
    have hb := bel_next hb hX6
    clear hX6
    go_wp2
    go_ret
    exact ⟨rfl, hb⟩
  · refine jd ?_
    refine ja hB0 Tryd.underlying48 (by rfl) info_cv ?_
    refine jn (.pointer (some ⟨g8, 0, none⟩)) ?_
    refine jf (.int .i64 x.1) hD8 0 load_int ?_
    refine jc (rt (rN fx) (rP fx) (rD fx)) (fun X hX hF => mo (flowC (some ⟨b, off, none⟩) n c l x.1 X (HRX.out X (hb.trans (Below.mono hX hb.size))) hln hn1 hf) (by rw [HAX.out])) ?_
    refine jn (.pointer (some ⟨g8, 1, none⟩)) ?_
    refine jg (.agg #[.bool x.2.1, st x.2.2.1, st x.2.2.2]) (fun X hX hF => exec_inr 26 _ (by rfl) g8 1 [.bool x.2.1, .string ⟨x.2.2.1.toArray⟩, .string ⟨x.2.2.2.toArray⟩] (by rfl) Tryd.underlying26 rfl X (hD8.bel hX) (by rfl) info_rat) ?_
    refine jv (.bool false) (exec_ner _ _ (by rfl) (rN fx) (rP fx) (rD fx) x.2.1 x.2.2.1 x.2.2.2 (by rfl) (by rfl) false (rb_lit HVX.out HFX.out)) ?_
    refine jm (.bool false) ?_
    refine jm (.int .i64 (k : Int)) ?_
    refine jv (.bool false) (exec_eqi _ _ _ _ (by rfl) .i64 (k : Int) 0 (by rfl) (by rfl) false (decide_eq_false (by omega))) ?_
    refine jm (.bool false) ?_
    refine js ?_
    refine js ?_
    refine js ?_
    refine js ?_
    refine js ?_
    refine js ?_
    refine js ?_
    refine jm (.bool false) ?_
    refine jm (.bool false) ?_
    refine jz fun X4 hX4 => ?_
    have hB0 := hB0.bel hX4
    have hD8 := hD8.bel hX4
    have hb := bel_next hb hX4
    clear hX4
    go_upto_region 7 with (fail)
    refine jp ?_
    refine jm (.int .i64 (k : Int)) ?_
    refine jv (.int .i64 ((k + 1 : Nat) : Int)) (exec_add _ _ _ _ (by rfl) (k : Int) 1 ((k + 1 : Nat) : Int) (by rfl) (by rfl) (by omega) (by omega) (by omega)) ?_
    refine jn (.pointer (some ⟨w.heap.size, 0, none⟩)) ?_
    refine jf (.slice (some ⟨b, off, none⟩) n c) hB0 0 load_pts ?_
    refine jv (.int .i64 (n : Int)) (exec_lenv Tryd.underlying46 _ (by rfl) (some ⟨b, off, none⟩) n c (by rfl) _ rfl) ?_
    refine jv (.bool true) (exec_eqi _ _ _ _ (by rfl) .i64 ((k + 1 : Nat) : Int) (n : Int) (by rfl) (by rfl) true (decide_eq_true (by omega))) ?_
    refine jz fun X5 hX5 => ?_
    have hB0 := hB0.bel hX5
    have hD8 := hD8.bel hX5
    have hb := bel_next hb hX5
    clear hX5
    go_upto_region 8 with (fail)
    refine jd ?_
    refine jc (.bool true) (fun X hX hF => sanityC X) ?_
    refine jm (.bool true) ?_
    refine ja hB0 Tryd.underlying48 (by rfl) info_cv ?_
    refine jn (.pointer (some ⟨g8, 0, none⟩)) ?_
    refine jf (.int .i64 x.1) hD8 0 load_int ?_
    refine jm (.int .u16 m) ?_
    refine jv (.int .i64 m) (exec_cnv _ _ .u16 .i64 Tryd.underlying57 Tryd.underlying3 _ (by rfl) m m (by rfl) (by rw [IntWalk.i64_in _ (by omega)])) ?_
    refine jv (.int .i64 (x.1 + m)) (exec_add _ _ _ _ (by rfl) x.1 m (x.1 + m) (by rfl) (by rfl) (by omega) (by omega) (by omega)) ?_
    refine jc (rt (rN fx) (rP fx) (rD fx)) (fun X hX hF => mo (flowC (some ⟨b, off, none⟩) n c l (x.1 + m) X (HRX.out X (hb.trans (Below.mono hX hb.size))) hln hn1 hf) (by rw [HUP.out])) ?_
    refine jn (.pointer (some ⟨g8, 1, none⟩)) ?_
    refine jg (.agg #[.bool x.2.1, st x.2.2.1, st x.2.2.2]) (fun X hX hF => exec_inr 26 _ (by rfl) g8 1 [.bool x.2.1, .string ⟨x.2.2.1.toArray⟩, .string ⟨x.2.2.2.toArray⟩] (by rfl) Tryd.underlying26 rfl X (hD8.bel hX) (by rfl) info_rat) ?_
    refine jv (.bool true) (exec_eqr _ _ (by rfl) (rN fx) (rP fx) (rD fx) x.2.1 x.2.2.1 x.2.2.2 (by rfl) (by rfl) true (rb_lit HVX.out HFX.out)) ?_
    refine jm (.bool true) ?_
    refine jm (.bool true) ?_
    refine jz fun X6 hX6 => ?_
    have hB0 := hB0.bel hX6
    have hD8 := hD8.bel hX6
    have hb := bel_next hb hX6
    clear hX6
    go_wp2
    go_ret
    exact ⟨rfl, hb⟩
theorem lineM (w : World) (b off : Nat) (n c : Nat) (l : List Pt) (hr : Rd w 4 (.slice (some ⟨b, off, none⟩) n c) n (fl ptc l)) (hln : l.length = n) (hn1 : n ≤ 9223372036854775807) (a m : Int) (a0 : 0 ≤ a) (a1 : a ≤ 255) (m0 : 0 ≤ m) (m1 : m ≤ 65535) (HF8 : Hid (fewB l 8 = true)) (hfw : fewP l 8) (hf : fewP l 1000) (hc : ck l = 0) (k : Nat) (HK : Hid ((k : Int) = a % (n : Int))) (hk : k < n) (x : Pt) (HX : Hid (x = pt l k)) (fx : Rat) (HFX : Hid (rq x.2.1 x.2.2.1 x.2.2.2 = fx)) (hkn : k + 1 < n) (y : Pt) (HY : Hid (y = pt l (k + 1))) (fy : Rat) (HFY : Hid (rq y.2.1 y.2.2.1 y.2.2.2 = fy)) (dd : Int) (HDD : Hid (dd = y.1 - x.1)) (nn : Int) (HNN : Hid (nn = m % dd)) (fz : Rat) (sfz : szR fz 10000) (HFZ : Hid (flowC0 l (x.1 + nn) = fz)) : Calls Tryd.prog 8 #[.agg #[.slice (some ⟨b, off, none⟩) n c], .int .u8 a, .int .u16 m] w fun e w' => e = .returned (.bool true) ∧ Since w w' := by
  have HRX : Hid (∀ X, Since w X → Rd X 4 (.slice (some ⟨b, off, none⟩) n c) n (fl ptc l)) := fun X h => hr.below h
  clear hr
  have hl16 := len_pt hc
  rw [hln] at hl16
  have HLN := Lib.hid hln
  have hkx : k < l.length := by omega
  have tx : tz x.2.2.1 x.2.2.2 8 := by rw [HX.out]; exact hfw k hkx
  have HVX : Hid (vd x.2.1 x.2.2.1 x.2.2.2 = true) := by show _ = _; rw [HX.out]; exact vd_pt hc hkx
  have hxr : -1000 ≤ x.1 ∧ x.1 ≤ 2000 := by rw [HX.out]; exact rng_pt hc hkx
  have HAX : Hid (flowC0 l x.1 = fx) := by
    show _ = _
    rw [← HFX.out, HX.out]
    exact at_flow hc hkx
  have hky : k + 1 < l.length := by omega
  have ty : tz y.2.2.1 y.2.2.2 8 := by rw [HY.out]; exact hfw (k + 1) hky
  have hyr : -1000 ≤ y.1 ∧ y.1 ≤ 2000 := by rw [HY.out]; exact rng_pt hc hky
  have hxy : x.1 < y.1 := by rw [HX.out, HY.out]; exact asc_pt hc hky
  have hdd : dd = y.1 - x.1 := HDD.out
  have hd1 : 0 < dd ∧ dd ≤ 3000 := by omega
  clear hdd
  have hnn : 0 ≤ nn ∧ nn < dd := by
    rw [HNN.out]
    exact ⟨Int.emod_nonneg _ (by omega), Int.emod_lt_of_pos _ hd1.1⟩
  have HI1 : Hid (insB dd = true) := insB_of (by omega) (by omega)
  have HI2 : Hid (insB nn = true) := insB_of (by omega) (by omega)
  have HI3 : Hid (insB (dd - nn) = true) := insB_of (by omega) (by omega)
  have HLIN : Hid ((ri dd) * fz = ((ri (dd - nn)) * fx) + ((ri nn) * fy)) := by
    show _ = _
    rw [← HFZ.out, ← HFX.out, ← HFY.out, HX.out, HY.out, HDD.out, HX.out, HY.out]
    exact seg_flow hc hky hnn.1 (by have := HDD.out; rw [← HX.out, ← HY.out]; omega)
  have LB0 : szR (ri (dd - nn)) 7 := szR_int (n := (dd - nn)) HI3.out
  have LB1 : szR (ri nn) 7 := szR_int (n := nn) HI2.out
  have LB6 : szR fx 8 := szR_tz HFX.out tx
  have LB2 : szR ((ri (dd - nn)) * fx) 15 := szR_mul LB0 LB6
  have LB7 : szR fy 8 := szR_tz HFY.out ty
  have LB3 : szR ((ri nn) * fy) 15 := szR_mul LB1 LB7
  have LB4 : szR (ri dd) 7 := szR_int (n := dd) HI1.out
  have LB5 : szR fz 10000 := sfz
  go_enter Tryd.func8, Tryd.ntmps8
  go_upto_region 1 with (fail)
  obtain ⟨W0, hW0, hB0, hb⟩ := start1 w 48 [.slice (some ⟨b, off, none⟩) n c]
  rw [← hW0]
  clear hW0
  refine jp ?_
  refine ja hB0 Tryd.underlying48 (by rfl) info_cv ?_
  refine jc (.bool true) (fun X hX hF => mo (few13L (some ⟨b, off, none⟩) n c l X (HRX.out X (hb.trans (Below.mono hX hb.size))) hln hn1) (by rw [HF8.out])) ?_
  refine jm (.bool false) ?_
  refine jm (.bool false) ?_
  refine ja hB0 Tryd.underlying48 (by rfl) info_cv ?_
  refine jc (.int .i64 0) (fun X hX hF => mo (checkC (some ⟨b, off, none⟩) n c l X (HRX.out X (hb.trans (Below.mono hX hb.size))) hln hn1 hf.mono) (by rw [hc])) ?_
  refine jv (.bool false) (exec_nei _ _ _ _ (by rfl) .i64 0 0 (by rfl) (by rfl) false (by rw [decide_eq_true (by omega)]; rfl)) ?_
  refine jm (.bool false) ?_
  refine jz fun X1 hX1 => ?_
  have hB0 := hB0.bel hX1
  have hb := bel_next hb hX1
  clear hX1
  go_upto_region 3 with (fail)
  refine jp ?_
  refine jm (.int .u8 a) ?_
  refine jv (.int .i64 a) (exec_cnv _ _ .u8 .i64 Tryd.underlying5 Tryd.underlying3 _ (by rfl) a a (by rfl) (by rw [IntWalk.i64_in _ (by omega)])) ?_
  refine jn (.pointer (some ⟨w.heap.size, 0, none⟩)) ?_
  refine jf (.slice (some ⟨b, off, none⟩) n c) hB0 0 load_pts ?_
  refine jv (.int .i64 (n : Int)) (exec_lenv Tryd.underlying46 _ (by rfl) (some ⟨b, off, none⟩) n c (by rfl) _ rfl) ?_
  refine jv (.int .i64 (k : Int)) (exec_rem _ _ _ _ (by rfl) .i64 a (n : Int) (k : Int) (by rfl) (by rfl) (by omega) (by omega) HK.out.symm) ?_
  refine jm (.int .i64 (k : Int)) ?_
  refine jz fun X2 hX2 => ?_
  have hB0 := hB0.bel hX2
  have hb := bel_next hb hX2
  clear hX2
  obtain ⟨hbb, hcx⟩ := (HRX.out _ hb).ptIn HLN.out (show k < n by omega)
  rw [← HX.out] at hcx
  go_upto_region 4 with (fail)
  refine jq 5 ?_
  refine jn (.pointer (some ⟨w.heap.size, 0, none⟩)) ?_
  refine jf (.slice (some ⟨b, off, none⟩) n c) hB0 0 load_pts ?_
  refine jm (.int .i64 (k : Int)) ?_
  refine jv (.pointer (some ⟨b, off + k * 4, none⟩)) (exec_ixv Tryd.underlying46 info_pt _ _ (by rfl) b (off) n c k (by omega) (by rfl) (by rfl) rfl) ?_
  refine jg (.agg #[.int .i64 x.1, .bool x.2.1, st x.2.2.1, st x.2.2.2]) (fun X hX hF => exec_ldc 54 _ (by rfl) b (off + k * 4) (by rfl) Tryd.underlying54 rfl [.int .i64 x.1, .bool x.2.1, .string ⟨x.2.2.1.toArray⟩, .string ⟨x.2.2.2.toArray⟩] X (Cl.part (hcx.below hX hbb) 0 _ (by rfl)) info_pt) ?_
  refine jz fun X3 hX3 => ?_
  have hB0 := hB0.bel hX3
  have hcx := hcx.below hX3 hbb
  replace hbb := Nat.lt_of_lt_of_le hbb (hX3).size
  have hb := bel_next hb hX3
  clear hX3
  go_upto_region 5 with (refine osn 54 8 32 #[.int .i64 x.1, .bool x.2.1, .string ⟨x.2.2.1.toArray⟩, .string ⟨x.2.2.2.toArray⟩] info_pt ?_)
  obtain ⟨Y3, hY9, hD8, hS9⟩ := start1 X3 54 [.int .i64 x.1, .bool x.2.1, .string ⟨x.2.2.1.toArray⟩, .string ⟨x.2.2.2.toArray⟩]
  rw [← hY9]
  clear hY9
  have hgs8 := hb.size
  have hlt8x0 := hB0.lt
  have hcx := hcx.below hS9 hbb
  replace hbb := Nat.lt_of_lt_of_le hbb (hS9).size
  have hB0 := hB0.bel hS9
  have hb := bel_next hb hS9
  clear hS9
  generalize X3.heap.size = g8 at *
  rcases Nat.eq_zero_or_pos k with hk0 | hk0
  · have HLO : Hid (flowC0 l (x.1 - 1) = 0) := low_flow hc (by rw [← hk0, ← HX.out]; omega)
    refine jd ?_
    refine ja hB0 Tryd.underlying48 (by rfl) info_cv ?_
    refine jn (.pointer (some ⟨g8, 0, none⟩)) ?_
    refine jf (.int .i64 x.1) hD8 0 load_int ?_
    refine jc (rt (rN fx) (rP fx) (rD fx)) (fun X hX hF => mo (flowC (some ⟨b, off, none⟩) n c l x.1 X (HRX.out X (hb.trans (Below.mono hX hb.size))) hln hn1 hf) (by rw [HAX.out])) ?_
    refine jn (.pointer (some ⟨g8, 1, none⟩)) ?_
    refine jg (.agg #[.bool x.2.1, st x.2.2.1, st x.2.2.2]) (fun X hX hF => exec_inr 26 _ (by rfl) g8 1 [.bool x.2.1, .string ⟨x.2.2.1.toArray⟩, .string ⟨x.2.2.2.toArray⟩] (by rfl) Tryd.underlying26 rfl X (hD8.bel hX) (by rfl) info_rat) ?_
    refine jv (.bool false) (exec_ner _ _ (by rfl) (rN fx) (rP fx) (rD fx) x.2.1 x.2.2.1 x.2.2.2 (by rfl) (by rfl) false (rb_lit HVX.out HFX.out)) ?_
    refine jm (.bool false) ?_
    refine jm (.int .i64 (k : Int)) ?_
    refine jv (.bool true) (exec_eqi _ _ _ _ (by rfl) .i64 (k : Int) 0 (by rfl) (by rfl) true (decide_eq_true (by omega))) ?_
    refine jm (.bool true) ?_
    refine ja hB0 Tryd.underlying48 (by rfl) info_cv ?_
    refine jn (.pointer (some ⟨g8, 0, none⟩)) ?_
    refine jf (.int .i64 x.1) hD8 0 load_int ?_
    refine jv (.int .i64 (x.1 - 1)) (exec_sub _ _ _ _ (by rfl) x.1 1 (x.1 - 1) (by rfl) (by rfl) (by omega) (by omega) (by omega)) ?_
    refine jc (rt (rN 0) (rP 0) (rD 0)) (fun X hX hF => mo (flowC (some ⟨b, off, none⟩) n c l (x.1 - 1) X (HRX.out X (hb.trans (Below.mono hX hb.size))) hln hn1 hf) (by rw [HLO.out])) ?_
    refine jn (rz) ?_
    refine jv (.bool false) (exec_ner _ _ (by rfl) (rN 0) (rP 0) (rD 0) false [] [] (by rfl) (by rfl) false (rb_zt rfl)) ?_
    refine jm (.bool false) ?_
    refine jm (.bool false) ?_
    refine jz fun X4 hX4 => ?_
    have hB0 := hB0.bel hX4
    have hD8 := hD8.bel hX4
    have hb := bel_next hb hX4
    clear hX4
    go_upto_region 7 with (fail)
    refine jp ?_
    refine jm (.int .i64 (k : Int)) ?_
    refine jv (.int .i64 ((k + 1 : Nat) : Int)) (exec_add _ _ _ _ (by rfl) (k : Int) 1 ((k + 1 : Nat) : Int) (by rfl) (by rfl) (by omega) (by omega) (by omega)) ?_
    refine jn (.pointer (some ⟨w.heap.size, 0, none⟩)) ?_
    refine jf (.slice (some ⟨b, off, none⟩) n c) hB0 0 load_pts ?_
    refine jv (.int .i64 (n : Int)) (exec_lenv Tryd.underlying46 _ (by rfl) (some ⟨b, off, none⟩) n c (by rfl) _ rfl) ?_
    refine jv (.bool false) (exec_eqi _ _ _ _ (by rfl) .i64 ((k + 1 : Nat) : Int) (n : Int) (by rfl) (by rfl) false (decide_eq_false (by omega))) ?_
    refine jz fun X5 hX5 => ?_
    have hB0 := hB0.bel hX5
    have hD8 := hD8.bel hX5
    have hb := bel_next hb hX5
    clear hX5
    obtain ⟨hbb, hcy⟩ := (HRX.out _ hb).ptIn HLN.out (show k + 1 < n by omega)
    rw [← HY.out] at hcy
    go_upto_region 9 with (fail)
    refine jq 6 ?_
    refine jn (.pointer (some ⟨w.heap.size, 0, none⟩)) ?_
    refine jf (.slice (some ⟨b, off, none⟩) n c) hB0 0 load_pts ?_
    refine jm (.int .i64 (k : Int)) ?_
    refine jv (.int .i64 ((k + 1 : Nat) : Int)) (exec_add _ _ _ _ (by rfl) (k : Int) 1 ((k + 1 : Nat) : Int) (by rfl) (by rfl) (by omega) (by omega) (by omega)) ?_
    refine jv (.pointer (some ⟨b, off + (k + 1) * 4, none⟩)) (exec_ixv Tryd.underlying46 info_pt _ _ (by rfl) b (off) n c (k + 1) (by omega) (by rfl) (by rfl) rfl) ?_
    refine jg (.agg #[.int .i64 y.1, .bool y.2.1, st y.2.2.1, st y.2.2.2]) (fun X hX hF => exec_ldc 54 _ (by rfl) b (off + (k + 1) * 4) (by rfl) Tryd.underlying54 rfl [.int .i64 y.1, .bool y.2.1, .string ⟨y.2.2.1.toArray⟩, .string ⟨y.2.2.2.toArray⟩] X (Cl.part (hcy.below hX hbb) 0 _ (by rfl)) info_pt) ?_
    refine jz fun X6 hX6 => ?_
    have hB0 := hB0.bel hX6
    have hD8 := hD8.bel hX6
    have hcy := hcy.below hX6 hbb
    replace hbb := Nat.lt_of_lt_of_le hbb (hX6).size
    have hb := bel_next hb hX6
    clear hX6
    go_upto_region 10 with (refine osn 54 9 77 #[.int .i64 y.1, .bool y.2.1, .string ⟨y.2.2.1.toArray⟩, .string ⟨y.2.2.2.toArray⟩] info_pt ?_)
    obtain ⟨Y6, hY9, hD9, hS9⟩ := start1 X6 54 [.int .i64 y.1, .bool y.2.1, .string ⟨y.2.2.1.toArray⟩, .string ⟨y.2.2.2.toArray⟩]
    rw [← hY9]
    clear hY9
    have hgs9 := hb.size
    have hlt9x0 := hB0.lt
    have hlt9x1 := hD8.lt
    have hcy := hcy.below hS9 hbb
    replace hbb := Nat.lt_of_lt_of_le hbb (hS9).size
    have hB0 := hB0.bel hS9
    have hD8 := hD8.bel hS9
    have hb := bel_next hb hS9
    clear hS9
    generalize X6.heap.size = g9 at *
    refine jp ?_
    refine jn (.pointer (some ⟨g9, 0, none⟩)) ?_
    refine jf (.int .i64 y.1) hD9 0 load_int ?_
    refine jn (.pointer (some ⟨g8, 0, none⟩)) ?_
    refine jf (.int .i64 x.1) hD8 0 load_int ?_
    refine jv (.int .i64 dd) (exec_sub _ _ _ _ (by rfl) y.1 x.1 dd (by rfl) (by rfl) (by have := HDD.out; omega) (by omega) (by omega)) ?_
    refine jm (.int .i64 dd) ?_
    refine jz fun X7 hX7 => ?_
    have hB0 := hB0.bel hX7
    have hD8 := hD8.bel hX7
    have hD9 := hD9.bel hX7
    have hb := bel_next hb hX7
    clear hX7
    go_upto_region 11 with (fail)
    refine jp ?_
    refine jm (.int .u16 m) ?_
    refine jv (.int .i64 m) (exec_cnv _ _ .u16 .i64 Tryd.underlying57 Tryd.underlying3 _ (by rfl) m m (by rfl) (by rw [IntWalk.i64_in _ (by omega)])) ?_
    refine jm (.int .i64 dd) ?_
    refine jv (.int .i64 nn) (exec_rem _ _ _ _ (by rfl) .i64 m dd nn (by rfl) (by rfl) (by omega) (by omega) HNN.out.symm) ?_
    refine jm (.int .i64 nn) ?_
    refine jz fun X8 hX8 => ?_
    have hB0 := hB0.bel hX8
    have hD8 := hD8.bel hX8
    have hD9 := hD9.bel hX8
    have hb := bel_next hb hX8
    clear hX8
    go_upto_region 12 with (fail)
    refine lh_region (fun i => if i = 13 then ⟨26, [.bool false, .string ⟨#[]⟩, .string ⟨#[]⟩], [.bool (rN (((ri (dd - nn)) * fx) + ((ri nn) * fy))), .string ⟨(rP (((ri (dd - nn)) * fx) + ((ri nn) * fy))).toArray⟩, .string ⟨(rD (((ri (dd - nn)) * fx) + ((ri nn) * fy))).toArray⟩]⟩ else ⟨0, [], []⟩) [none, none, none, none, none, none, none, none, none, none, none, none, none, some (Gat _ _ 13), some (fun u X => Gst _ 13 undef X)] (by kernel_rfl) (by kernel_rfl) (lh_none (lh_none (lh_none (lh_none (lh_none (lh_none (lh_none (lh_none (lh_none (lh_none (lh_none (lh_none (lh_none (lh_some (Gat.lasts) (lh_some ((fun _ _ _ h hR => Gst.lasts _ _ _ h hR)) (lh_nil)))))))))))))))) ?_
    simp only [iG, Nat.reduceAdd]
    refine km (.int .i64 dd) ?_
    refine km (.int .i64 nn) ?_
    refine kv (.int .i64 (dd - nn)) (exec_sub _ _ _ _ (by rfl) dd nn (dd - nn) (by rfl) (by rfl) (by omega) (by omega) (by omega)) ?_
    refine kc (rt (rN (ri (dd - nn))) (rP (ri (dd - nn))) (rD (ri (dd - nn)))) (fun X hX hF => rintQ (dd - nn) X HI3.out) ?_
    refine kn (.pointer (some ⟨g8, 1, none⟩)) ?_
    refine kg (.agg #[.bool x.2.1, st x.2.2.1, st x.2.2.2]) (fun X hX hF => exec_inr 26 _ (by rfl) g8 1 [.bool x.2.1, .string ⟨x.2.2.1.toArray⟩, .string ⟨x.2.2.2.toArray⟩] (by rfl) Tryd.underlying26 rfl X (hD8.bel hX) (by rfl) info_rat) ?_
    refine kc (.agg #[.bool (rN ((ri (dd - nn)) * fx)), st (rP ((ri (dd - nn)) * fx)), st (rD ((ri (dd - nn)) * fx))]) (fun X hX hF => mulG (rN (ri (dd - nn))) (rP (ri (dd - nn))) (rD (ri (dd - nn))) x.2.1 x.2.2.1 x.2.2.2 (rq_rb (ri (dd - nn))) HFX.out X (tzR LB0 (by omega)) (tx.mono (by omega))) ?_
    refine km (.int .i64 nn) ?_
    refine kc (rt (rN (ri nn)) (rP (ri nn)) (rD (ri nn))) (fun X hX hF => rintQ nn X HI2.out) ?_
    refine kn (.pointer (some ⟨g9, 1, none⟩)) ?_
    refine kg (.agg #[.bool y.2.1, st y.2.2.1, st y.2.2.2]) (fun X hX hF => exec_inr 26 _ (by rfl) g9 1 [.bool y.2.1, .string ⟨y.2.2.1.toArray⟩, .string ⟨y.2.2.2.toArray⟩] (by rfl) Tryd.underlying26 rfl X (hD9.bel hX) (by rfl) info_rat) ?_
    refine kc (rt (rN ((ri nn) * fy)) (rP ((ri nn) * fy)) (rD ((ri nn) * fy))) (fun X hX hF => mulG (rN (ri nn)) (rP (ri nn)) (rD (ri nn)) y.2.1 y.2.2.1 y.2.2.2 (rq_rb (ri nn)) HFY.out X (tzR LB1 (by omega)) (ty.mono (by omega))) ?_
    refine kc (.agg #[.bool (rN (((ri (dd - nn)) * fx) + ((ri nn) * fy))), st (rP (((ri (dd - nn)) * fx) + ((ri nn) * fy))), st (rD (((ri (dd - nn)) * fx) + ((ri nn) * fy)))]) (fun X hX hF => addG (rN ((ri (dd - nn)) * fx)) (rP ((ri (dd - nn)) * fx)) (rD ((ri (dd - nn)) * fx)) (rN ((ri nn) * fy)) (rP ((ri nn) * fy)) (rD ((ri nn) * fy)) (rq_rb ((ri (dd - nn)) * fx)) (rq_rb ((ri nn) * fy)) X (tzR LB2 (by omega)) (tzR LB3 (by omega))) ?_
    refine kl (fun X => exec_alloc_rat (by rfl) X) ?_
    intro v12
    refine kt 13 13 v12 List.mem_cons_self info_rat ?_
    refine kz ?_
    intro X9 s9 hX9 hF
    obtain ⟨g12, e12, hge12, hD12, tg12⟩ := Gst.at (hF _ _ (List.mem_cons_of_mem _ List.mem_cons_self)) (hF _ _ List.mem_cons_self)
    subst e12
    have hB0 := hB0.bel hX9
    have hD8 := hD8.bel hX9
    have hD9 := hD9.bel hX9
    have hgs12 := hge12
    have hb := bel_next hb hX9
    clear hF tg12 s9 hX9
    change Blk X9 g12 26 [.bool (rN (((ri (dd - nn)) * fx) + ((ri nn) * fy))), .string ⟨(rP (((ri (dd - nn)) * fx) + ((ri nn) * fy))).toArray⟩, .string ⟨(rD (((ri (dd - nn)) * fx) + ((ri nn) * fy))).toArray⟩] at hD12
    go_upto_region 13 with (fail)
    refine jd ?_
    refine jc (.bool true) (fun X hX hF => sanityC X) ?_
    refine jm (.bool true) ?_
    refine jm (.int .i64 dd) ?_
    refine jc (rt (rN (ri dd)) (rP (ri dd)) (rD (ri dd))) (fun X hX hF => rintQ dd X HI1.out) ?_
    refine ja hB0 Tryd.underlying48 (by rfl) info_cv ?_
    refine jn (.pointer (some ⟨g8, 0, none⟩)) ?_
    refine jf (.int .i64 x.1) hD8 0 load_int ?_
    refine jm (.int .i64 nn) ?_
    refine jv (.int .i64 (x.1 + nn)) (exec_add _ _ _ _ (by rfl) x.1 nn (x.1 + nn) (by rfl) (by rfl) (by omega) (by omega) (by omega)) ?_
    refine jc (rt (rN fz) (rP fz) (rD fz)) (fun X hX hF => mo (flowC (some ⟨b, off, none⟩) n c l (x.1 + nn) X (HRX.out X (hb.trans (Below.mono hX hb.size))) hln hn1 hf) (by rw [HFZ.out])) ?_
    refine jc (rt (rN ((ri dd) * fz)) (rP ((ri dd) * fz)) (rD ((ri dd) * fz))) (fun X hX hF => mulG (rN (ri dd)) (rP (ri dd)) (rD (ri dd)) (rN fz) (rP fz) (rD fz) (rq_rb (ri dd)) (rq_rb fz) X (tzR LB4 (by omega)) (tzR LB5 (by omega))) ?_
    refine ja hD12 Tryd.underlying26 (by rfl) info_rat ?_
    refine jv (.bool true) (exec_eqr _ _ (by rfl) (rN ((ri dd) * fz)) (rP ((ri dd) * fz)) (rD ((ri dd) * fz)) (rN (((ri (dd - nn)) * fx) + ((ri nn) * fy))) (rP (((ri (dd - nn)) * fx) + ((ri nn) * fy))) (rD (((ri (dd - nn)) * fx) + ((ri nn) * fy))) (by rfl) (by rfl) true (rb_eqt HLIN.out)) ?_
    refine jm (.bool true) ?_
    refine jm (.bool true) ?_
    refine jz fun X10 hX10 => ?_
    have hB0 := hB0.bel hX10
    have hD8 := hD8.bel hX10
    have hD9 := hD9.bel hX10
    have hD12 := hD12.bel hX10
    have hb := bel_next hb hX10
    clear hX10
    go_wp2
    go_ret
    exact ⟨rfl, hb⟩
  · refine jd ?_
    refine ja hB0 Tryd.underlying48 (by rfl) info_cv ?_
    refine jn (.pointer (some ⟨g8, 0, none⟩)) ?_
    refine jf (.int .i64 x.1) hD8 0 load_int ?_
    refine jc (rt (rN fx) (rP fx) (rD fx)) (fun X hX hF => mo (flowC (some ⟨b, off, none⟩) n c l x.1 X (HRX.out X (hb.trans (Below.mono hX hb.size))) hln hn1 hf) (by rw [HAX.out])) ?_
    refine jn (.pointer (some ⟨g8, 1, none⟩)) ?_
    refine jg (.agg #[.bool x.2.1, st x.2.2.1, st x.2.2.2]) (fun X hX hF => exec_inr 26 _ (by rfl) g8 1 [.bool x.2.1, .string ⟨x.2.2.1.toArray⟩, .string ⟨x.2.2.2.toArray⟩] (by rfl) Tryd.underlying26 rfl X (hD8.bel hX) (by rfl) info_rat) ?_
    refine jv (.bool false) (exec_ner _ _ (by rfl) (rN fx) (rP fx) (rD fx) x.2.1 x.2.2.1 x.2.2.2 (by rfl) (by rfl) false (rb_lit HVX.out HFX.out)) ?_
    refine jm (.bool false) ?_
    refine jm (.int .i64 (k : Int)) ?_
    refine jv (.bool false) (exec_eqi _ _ _ _ (by rfl) .i64 (k : Int) 0 (by rfl) (by rfl) false (decide_eq_false (by omega))) ?_
    refine jm (.bool false) ?_
    refine js ?_
    refine js ?_
    refine js ?_
    refine js ?_
    refine js ?_
    refine js ?_
    refine js ?_
    refine jm (.bool false) ?_
    refine jm (.bool false) ?_
    refine jz fun X4 hX4 => ?_
    have hB0 := hB0.bel hX4
    have hD8 := hD8.bel hX4
    have hb := bel_next hb hX4
    clear hX4
    go_upto_region 7 with (fail)
    refine jp ?_
    refine jm (.int .i64 (k : Int)) ?_
    refine jv (.int .i64 ((k + 1 : Nat) : Int)) (exec_add _ _ _ _ (by rfl) (k : Int) 1 ((k + 1 : Nat) : Int) (by rfl) (by rfl) (by omega) (by omega) (by omega)) ?_
    refine jn (.pointer (some ⟨w.heap.size, 0, none⟩)) ?_
    refine jf (.slice (some ⟨b, off, none⟩) n c) hB0 0 load_pts ?_
    refine jv (.int .i64 (n : Int)) (exec_lenv Tryd.underlying46 _ (by rfl) (some ⟨b, off, none⟩) n c (by rfl) _ rfl) ?_
    refine jv (.bool false) (exec_eqi _ _ _ _ (by rfl) .i64 ((k + 1 : Nat) : Int) (n : Int) (by rfl) (by rfl) false (decide_eq_false (by omega))) ?_
    refine jz fun X5 hX5 => ?_
    have hB0 := hB0.bel hX5
    have hD8 := hD8.bel hX5
    have hb := bel_next hb hX5
    clear hX5
    obtain ⟨hbb, hcy⟩ := (HRX.out _ hb).ptIn HLN.out (show k + 1 < n by omega)
    rw [← HY.out] at hcy
    go_upto_region 9 with (fail)
    refine jq 6 ?_
    refine jn (.pointer (some ⟨w.heap.size, 0, none⟩)) ?_
    refine jf (.slice (some ⟨b, off, none⟩) n c) hB0 0 load_pts ?_
    refine jm (.int .i64 (k : Int)) ?_
    refine jv (.int .i64 ((k + 1 : Nat) : Int)) (exec_add _ _ _ _ (by rfl) (k : Int) 1 ((k + 1 : Nat) : Int) (by rfl) (by rfl) (by omega) (by omega) (by omega)) ?_
    refine jv (.pointer (some ⟨b, off + (k + 1) * 4, none⟩)) (exec_ixv Tryd.underlying46 info_pt _ _ (by rfl) b (off) n c (k + 1) (by omega) (by rfl) (by rfl) rfl) ?_
    refine jg (.agg #[.int .i64 y.1, .bool y.2.1, st y.2.2.1, st y.2.2.2]) (fun X hX hF => exec_ldc 54 _ (by rfl) b (off + (k + 1) * 4) (by rfl) Tryd.underlying54 rfl [.int .i64 y.1, .bool y.2.1, .string ⟨y.2.2.1.toArray⟩, .string ⟨y.2.2.2.toArray⟩] X (Cl.part (hcy.below hX hbb) 0 _ (by rfl)) info_pt) ?_
    refine jz fun X6 hX6 => ?_
    have hB0 := hB0.bel hX6
    have hD8 := hD8.bel hX6
    have hcy := hcy.below hX6 hbb
    replace hbb := Nat.lt_of_lt_of_le hbb (hX6).size
    have hb := bel_next hb hX6
    clear hX6
    go_upto_region 10 with (refine osn 54 9 77 #[.int .i64 y.1, .bool y.2.1, .string ⟨y.2.2.1.toArray⟩, .string ⟨y.2.2.2.toArray⟩] info_pt ?_)
    obtain ⟨Y6, hY9, hD9, hS9⟩ := start1 X6 54 [.int .i64 y.1, .bool y.2.1, .string ⟨y.2.2.1.toArray⟩, .string ⟨y.2.2.2.toArray⟩]
    rw [← hY9]
    clear hY9
    have hgs9 := hb.size
    have hlt9x0 := hB0.lt
    have hlt9x1 := hD8.lt
    have hcy := hcy.below hS9 hbb
    replace hbb := Nat.lt_of_lt_of_le hbb (hS9).size
    have hB0 := hB0.bel hS9
    have hD8 := hD8.bel hS9
    have hb := bel_next hb hS9
    clear hS9
    generalize X6.heap.size = g9 at *
    refine jp ?_
    refine jn (.pointer (some ⟨g9, 0, none⟩)) ?_
    refine jf (.int .i64 y.1) hD9 0 load_int ?_
    refine jn (.pointer (some ⟨g8, 0, none⟩)) ?_
    refine jf (.int .i64 x.1) hD8 0 load_int ?_
    refine jv (.int .i64 dd) (exec_sub _ _ _ _ (by rfl) y.1 x.1 dd (by rfl) (by rfl) (by have := HDD.out; omega) (by omega) (by omega)) ?_
    refine jm (.int .i64 dd) ?_
    refine jz fun X7 hX7 => ?_
    have hB0 := hB0.bel hX7
    have hD8 := hD8.bel hX7
    have hD9 := hD9.bel hX7
    have hb := bel_next hb hX7
    clear hX7
    go_upto_region 11 with (fail)
    refine jp ?_
    refine jm (.int .u16 m) ?_
    refine jv (.int .i64 m) (exec_cnv _ _ .u16 .i64 Tryd.underlying57 Tryd.underlying3 _ (by rfl) m m (by rfl) (by rw [IntWalk.i64_in _ (by omega)])) ?_
    refine jm (.int .i64 dd) ?_
    refine jv (.int .i64 nn) (exec_rem _ _ _ _ (by rfl) .i64 m dd nn (by rfl) (by rfl) (by omega) (by omega) HNN.out.symm) ?_
    refine jm (.int .i64 nn) ?_
    refine jz fun X8 hX8 => ?_
    have hB0 := hB0.bel hX8
    have hD8 := hD8.bel hX8
    have hD9 := hD9.bel hX8
    have hb := bel_next hb hX8
    clear hX8
    go_upto_region 12 with (fail)
    refine lh_region (fun i => if i = 13 then ⟨26, [.bool false, .string ⟨#[]⟩, .string ⟨#[]⟩], [.bool (rN (((ri (dd - nn)) * fx) + ((ri nn) * fy))), .string ⟨(rP (((ri (dd - nn)) * fx) + ((ri nn) * fy))).toArray⟩, .string ⟨(rD (((ri (dd - nn)) * fx) + ((ri nn) * fy))).toArray⟩]⟩ else ⟨0, [], []⟩) [none, none, none, none, none, none, none, none, none, none, none, none, none, some (Gat _ _ 13), some (fun u X => Gst _ 13 undef X)] (by kernel_rfl) (by kernel_rfl) (lh_none (lh_none (lh_none (lh_none (lh_none (lh_none (lh_none (lh_none (lh_none (lh_none (lh_none (lh_none (lh_none (lh_some (Gat.lasts) (lh_some ((fun _ _ _ h hR => Gst.lasts _ _ _ h hR)) (lh_nil)))))))))))))))) ?_
    simp only [iG, Nat.reduceAdd]
    refine km (.int .i64 dd) ?_
    refine km (.int .i64 nn) ?_
    refine kv (.int .i64 (dd - nn)) (exec_sub _ _ _ _ (by rfl) dd nn (dd - nn) (by rfl) (by rfl) (by omega) (by omega) (by omega)) ?_
    refine kc (rt (rN (ri (dd - nn))) (rP (ri (dd - nn))) (rD (ri (dd - nn)))) (fun X hX hF => rintQ (dd - nn) X HI3.out) ?_
    refine kn (.pointer (some ⟨g8, 1, none⟩)) ?_
    refine kg (.agg #[.bool x.2.1, st x.2.2.1, st x.2.2.2]) (fun X hX hF => exec_inr 26 _ (by rfl) g8 1 [.bool x.2.1, .string ⟨x.2.2.1.toArray⟩, .string ⟨x.2.2.2.toArray⟩] (by rfl) Tryd.underlying26 rfl X (hD8.bel hX) (by rfl) info_rat) ?_
    refine kc (.agg #[.bool (rN ((ri (dd - nn)) * fx)), st (rP ((ri (dd - nn)) * fx)), st (rD ((ri (dd - nn)) * fx))]) (fun X hX hF => mulG (rN (ri (dd - nn))) (rP (ri (dd - nn))) (rD (ri (dd - nn))) x.2.1 x.2.2.1 x.2.2.2 (rq_rb (ri (dd - nn))) HFX.out X (tzR LB0 (by omega)) (tx.mono (by omega))) ?_
    refine km (.int .i64 nn) ?_
    refine kc (rt (rN (ri nn)) (rP (ri nn)) (rD (ri nn))) (fun X hX hF => rintQ nn X HI2.out) ?_
    refine kn (.pointer (some ⟨g9, 1, none⟩)) ?_
    refine kg (.agg #[.bool y.2.1, st y.2.2.1, st y.2.2.2]) (fun X hX hF => exec_inr 26 _ (by rfl) g9 1 [.bool y.2.1, .string ⟨y.2.2.1.toArray⟩, .string ⟨y.2.2.2.toArray⟩] (by rfl) Tryd.underlying26 rfl X (hD9.bel hX) (by rfl) info_rat) ?_
    refine kc (rt (rN ((ri nn) * fy)) (rP ((ri nn) * fy)) (rD ((ri nn) * fy))) (fun X hX hF => mulG (rN (ri nn)) (rP (ri nn)) (rD (ri nn)) y.2.1 y.2.2.1 y.2.2.2 (rq_rb (ri nn)) HFY.out X (tzR LB1 (by omega)) (ty.mono (by omega))) ?_
    refine kc (.agg #[.bool (rN (((ri (dd - nn)) * fx) + ((ri nn) * fy))), st (rP (((ri (dd - nn)) * fx) + ((ri nn) * fy))), st (rD (((ri (dd - nn)) * fx) + ((ri nn) * fy)))]) (fun X hX hF => addG (rN ((ri (dd - nn)) * fx)) (rP ((ri (dd - nn)) * fx)) (rD ((ri (dd - nn)) * fx)) (rN ((ri nn) * fy)) (rP ((ri nn) * fy)) (rD ((ri nn) * fy)) (rq_rb ((ri (dd - nn)) * fx)) (rq_rb ((ri nn) * fy)) X (tzR LB2 (by omega)) (tzR LB3 (by omega))) ?_
    refine kl (fun X => exec_alloc_rat (by rfl) X) ?_
    intro v12
    refine kt 13 13 v12 List.mem_cons_self info_rat ?_
    refine kz ?_
    intro X9 s9 hX9 hF
    obtain ⟨g12, e12, hge12, hD12, tg12⟩ := Gst.at (hF _ _ (List.mem_cons_of_mem _ List.mem_cons_self)) (hF _ _ List.mem_cons_self)
    subst e12
    have hB0 := hB0.bel hX9
    have hD8 := hD8.bel hX9
    have hD9 := hD9.bel hX9
    have hgs12 := hge12
    have hb := bel_next hb hX9
    clear hF tg12 s9 hX9
    change Blk X9 g12 26 [.bool (rN (((ri (dd - nn)) * fx) + ((ri nn) * fy))), .string ⟨(rP (((ri (dd - nn)) * fx) + ((ri nn) * fy))).toArray⟩, .string ⟨(rD (((ri (dd - nn)) * fx) + ((ri nn) * fy))).toArray⟩] at hD12
    go_upto_region 13 with (fail)
    refine jd ?_
    refine jc (.bool true) (fun X hX hF => sanityC X) ?_
    refine jm (.bool true) ?_
    refine jm (.int .i64 dd) ?_
    refine jc (rt (rN (ri dd)) (rP (ri dd)) (rD (ri dd))) (fun X hX hF => rintQ dd X HI1.out) ?_
    refine ja hB0 Tryd.underlying48 (by rfl) info_cv ?_
    refine jn (.pointer (some ⟨g8, 0, none⟩)) ?_
    refine jf (.int .i64 x.1) hD8 0 load_int ?_
    refine jm (.int .i64 nn) ?_
    refine jv (.int .i64 (x.1 + nn)) (exec_add _ _ _ _ (by rfl) x.1 nn (x.1 + nn) (by rfl) (by rfl) (by omega) (by omega) (by omega)) ?_
    refine jc (rt (rN fz) (rP fz) (rD fz)) (fun X hX hF => mo (flowC (some ⟨b, off, none⟩) n c l (x.1 + nn) X (HRX.out X (hb.trans (Below.mono hX hb.size))) hln hn1 hf) (by rw [HFZ.out])) ?_
    refine jc (rt (rN ((ri dd) * fz)) (rP ((ri dd) * fz)) (rD ((ri dd) * fz))) (fun X hX hF => mulG (rN (ri dd)) (rP (ri dd)) (rD (ri dd)) (rN fz) (rP fz) (rD fz) (rq_rb (ri dd)) (rq_rb fz) X (tzR LB4 (by omega)) (tzR LB5 (by omega))) ?_
    refine ja hD12 Tryd.underlying26 (by rfl) info_rat ?_
    refine jv (.bool true) (exec_eqr _ _ (by rfl) (rN ((ri dd) * fz)) (rP ((ri dd) * fz)) (rD ((ri dd) * fz)) (rN (((ri (dd - nn)) * fx) + ((ri nn) * fy))) (rP (((ri (dd - nn)) * fx) + ((ri nn) * fy))) (rD (((ri (dd - nn)) * fx) + ((ri nn) * fy))) (by rfl) (by rfl) true (rb_eqt HLIN.out)) ?_
    refine jm (.bool true) ?_
    refine jm (.bool true) ?_
    refine jz fun X10 hX10 => ?_
    have hB0 := hB0.bel hX10
    have hD8 := hD8.bel hX10
    have hD9 := hD9.bel hX10
    have hD12 := hD12.bel hX10
    have hb := bel_next hb hX10
    clear hX10
    go_wp2
    go_ret
    exact ⟨rfl, hb⟩
theorem lineW (w : World) (A : Option Addr) (n c : Nat) (l : List Pt) (hr : Rd w 4 (.slice A n c) n (fl ptc l)) (hln : l.length = n) (hn1 : n ≤ 9223372036854775807) (a m : Int) (a0 : 0 ≤ a) (a1 : a ≤ 255) (m0 : 0 ≤ m) (m1 : m ≤ 65535) : Calls Tryd.prog 8 #[.agg #[.slice A n c], .int .u8 a, .int .u16 m] w fun e w' => e = .returned (.bool true) ∧ Since w w' := by
  rcases h0 : fewB l 8 with _ | _
  · exact line0 w A n c l hr hln hn1 a m a0 a1 m0 m1 h0
  · have hfw := (fewB_of h0).2
    have hf : fewP l 1000 := hfw.mono
    by_cases hc : ck l = 0
    · obtain ⟨b, off, rfl⟩ := some_addr hr hln hc
      have hl := len_pt hc
      have hpos : (0 : Int) < (n : Int) := by omega
      have e1 := Int.emod_nonneg a (show (n : Int) ≠ 0 by omega)
      have e2 := Int.emod_lt_of_pos a hpos
      obtain ⟨k, hk⟩ : ∃ k : Nat, (k : Int) = a % (n : Int) := ⟨(a % (n : Int)).toNat, by omega⟩
      have hkn : k < n := by omega
      rcases Nat.lt_or_ge (k + 1) n with h | h
      · exact lineM w b off n c l hr hln hn1 a m a0 a1 m0 m1 h0 hfw hf hc k hk hkn _ rfl _ rfl h _ rfl _ rfl _ rfl _ rfl _ (flow0_sz hf _) rfl
      · exact lineL w b off n c l hr hln hn1 a m a0 a1 m0 m1 h0 hfw hf hc k hk hkn _ rfl _ rfl (by omega)
    · exact line1 w A n c l hr hln hn1 a m a0 a1 m0 m1 h0 hf hc
end Go.Proofs.YtchhlgcakjjncaaDoor
