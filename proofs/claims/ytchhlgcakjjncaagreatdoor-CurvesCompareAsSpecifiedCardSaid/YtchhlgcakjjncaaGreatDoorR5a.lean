/-
  The reference of layer 5: clean, lowest, parts, Add.
-/
import Derived.Test.YtchhlgcakjjncaaGreatDoorQr
import Derived.Test.YtchhlgcakjjncaaGreatDoorL5a
set_option linter.unusedSimpArgs false
set_option linter.unusedVariables false
set_option maxRecDepth 100000
set_option maxHeartbeats 1600000
namespace Go.Proofs.YtchhlgcakjjncaaGreatDoor
open Go.RowKit
theorem rbv_n {x : Rat} {m : Bool} (h : rN x = m) : rbv x = .agg #[.bool m, .string ⟨(rP x).toArray⟩, .string ⟨(rD x).toArray⟩] := by rw [← h]
theorem tz_b {p q : List UInt8} {m : Nat} (h : tz p q m) (hm : m ≤ 4194300 := by omega) : p.length ≤ 4194300 ∧ q.length ≤ 4194300 := ⟨Nat.le_trans h.1 hm, Nat.le_trans h.2 hm⟩
theorem clean_true (n : Bool) (p q : List UInt8) {x : Rat} (HX : Hid (rq n p q = x)) (w : World) (h : tz p q 1000000) (HV : Hid (vd n p q = true)) : Calls Tryz.prog 63 #[.agg #[.bool n, .string ⟨p.toArray⟩, .string ⟨q.toArray⟩]] w fun e w' => e = .returned (rbv x) ∧ Since w w' := by
  go_enter Tryz.func63, Tryz.ntmps63
  go_upto_region 1 with (fail)
  obtain ⟨W0, hW0, hB0, hB1, hb⟩ := start2 w 23 23 [.bool n, .string ⟨p.toArray⟩, .string ⟨q.toArray⟩] [.bool false, .string ⟨#[]⟩, .string ⟨#[]⟩]
  rw [← hW0]
  clear hW0
  refine jp ?_
  refine ja hB0 Tryz.underlying23 (by rfl) info_rat ?_
  refine jc (.bool true) (fun X hX hF => mo (rvQ5 n p q X (tz_b h).1 (tz_b h).2) (by rw [HV.out])) ?_
  refine jm (.bool true) ?_
  refine jz fun X1 hX1 => ?_
  have hB0 := hB0.bel hX1
  have hB1 := hB1.bel hX1
  have hb := bel_next hb hX1
  clear hX1
  go_upto_region 2 with (fail)
  refine jp ?_
  refine jm (.bool true) ?_
  refine jz fun X2 hX2 => ?_
  have hB0 := hB0.bel hX2
  have hB1 := hB1.bel hX2
  have hb := bel_next hb hX2
  clear hX2
  go_upto_region 3 with (fail)
  refine jq 1 ?_
  refine ja hB0 Tryz.underlying23 (by rfl) info_rat ?_
  refine jz fun X3 hX3 => ?_
  have hB0 := hB0.bel hX3
  have hB1 := hB1.bel hX3
  have hb := bel_next hb hX3
  clear hX3
  refine osb 23 2 7 (w.heap.size + 1) 23 hB1 [.bool n, .string ⟨p.toArray⟩, .string ⟨q.toArray⟩] info_rat ?_
  intro w9 hR9 hO9 hB9 hs9
  have hb9 := hB9 _ _ hb (by omega)
  clear hO9 hB9
  go_wp2
  refine post_cell rfl rfl (by rfl) Tryz.underlying23 rfl hR9 info_rat ⟨by rw [rbv_lit HV.out HX.out], hb9⟩
theorem clean_false (n : Bool) (p q : List UInt8) {x : Rat} (HX : Hid (rq n p q = x)) (w : World) (h : tz p q 1000000) (HV : Hid (vd n p q = false)) : Calls Tryz.prog 63 #[.agg #[.bool n, .string ⟨p.toArray⟩, .string ⟨q.toArray⟩]] w fun e w' => e = .returned (rbv x) ∧ Since w w' := by
  go_enter Tryz.func63, Tryz.ntmps63
  go_upto_region 1 with (fail)
  obtain ⟨W0, hW0, hB0, hB1, hb⟩ := start2 w 23 23 [.bool n, .string ⟨p.toArray⟩, .string ⟨q.toArray⟩] [.bool false, .string ⟨#[]⟩, .string ⟨#[]⟩]
  rw [← hW0]
  clear hW0
  refine jp ?_
  refine ja hB0 Tryz.underlying23 (by rfl) info_rat ?_
  refine jc (.bool false) (fun X hX hF => mo (rvQ5 n p q X (tz_b h).1 (tz_b h).2) (by rw [HV.out])) ?_
  refine jm (.bool false) ?_
  refine jz fun X1 hX1 => ?_
  have hB0 := hB0.bel hX1
  have hB1 := hB1.bel hX1
  have hb := bel_next hb hX1
  clear hX1
  go_upto_region 2 with (fail)
  refine jp ?_
  refine jm (.bool false) ?_
  refine jz fun X2 hX2 => ?_
  have hB0 := hB0.bel hX2
  have hB1 := hB1.bel hX2
  have hb := bel_next hb hX2
  clear hX2
  go_upto_region 4 with (fail)
  refine jq 1 ?_
  refine jn (rz) ?_
  refine jz fun X3 hX3 => ?_
  have hB0 := hB0.bel hX3
  have hB1 := hB1.bel hX3
  have hb := bel_next hb hX3
  clear hX3
  refine osb 23 2 8 (w.heap.size + 1) 23 hB1 [.bool false, .string ⟨#[]⟩, .string ⟨#[]⟩] info_rat ?_
  intro w9 hR9 hO9 hB9 hs9
  have hb9 := hB9 _ _ hb (by omega)
  clear hO9 hB9
  go_wp2
  refine post_cell rfl rfl (by rfl) Tryz.underlying23 rfl hR9 info_rat ⟨by rw [show x = 0 from HX.out.symm.trans (vd_not HV.out)]; rfl, hb9⟩
theorem cleanS (n : Bool) (p q : List UInt8) {x : Rat} (hx : rq n p q = x) (w : World) (h : tz p q 1000000) : Calls Tryz.prog 63 #[.agg #[.bool n, .string ⟨p.toArray⟩, .string ⟨q.toArray⟩]] w fun e w' => e = .returned (rbv x) ∧ Since w w' := by
  rcases hv : vd n p q with _ | _
  · exact clean_false n p q hx w h hv
  · exact clean_true n p q hx w h hv
theorem low5_1 (b : Bool) (P D : Nat) (w : World) (hd : 0 < D) (hP : (be P).length ≤ 4194300) (hD : (be D).length ≤ 4194300) (h0 : P = 0) : Calls Tryz.prog 59 #[.bool b, .string ⟨(be P).toArray⟩, .string ⟨(be D).toArray⟩] w fun e w' => e = .returned (rbv (mkRat (sg b P) D)) ∧ Since w w' := by
  have HE : Hid (be P = []) := be_nil.2 h0
  have HX : Hid (mkRat (sg b P) D = 0) := by show _ = _; rw [h0, low_zero]
  clear h0
  go_enter Tryz.func59, Tryz.ntmps59
  go_upto_region 1 with (fail)
  obtain ⟨W0, hW0, hB0, hb⟩ := start1 w 23 [.bool false, .string ⟨#[]⟩, .string ⟨#[]⟩]
  rw [← hW0]
  clear hW0
  refine jp ?_
  refine jm (st (be P)) ?_
  refine jc (st (be P)) (fun X hX hF => mo (rcleanC (be P) X (by omega)) (by rw [val_be])) ?_
  refine jm (st (be P)) ?_
  refine jz fun X1 hX1 => ?_
  have hB0 := hB0.bel hX1
  have hb := bel_next hb hX1
  clear hX1
  go_upto_region 2 with (fail)
  refine jp ?_
  refine jm (st (be P)) ?_
  refine jv (.bool true) (exec_eqsB _ _ _ _ (by rfl) (be P) ([] : List UInt8) (by rfl) (by rfl) true (eqs_t HE.out)) ?_
  refine jz fun X2 hX2 => ?_
  have hB0 := hB0.bel hX2
  have hb := bel_next hb hX2
  clear hX2
  go_upto_region 3 with (fail)
  refine jq 1 ?_
  refine jn (rz) ?_
  refine jz fun X3 hX3 => ?_
  have hB0 := hB0.bel hX3
  have hb := bel_next hb hX3
  clear hX3
  refine osb 23 6 12 w.heap.size 23 hB0 [.bool false, .string ⟨#[]⟩, .string ⟨#[]⟩] info_rat ?_
  intro w9 hR9 hO9 hB9 hs9
  have hb9 := hB9 _ _ hb (by omega)
  clear hO9 hB9
  go_wp2
  refine post_cell rfl rfl (by rfl) Tryz.underlying23 rfl hR9 info_rat ⟨by rw [HX.out]; rfl, hb9⟩
theorem low5_0 (b : Bool) (P D : Nat) (w : World) (hd : 0 < D) (hP : (be P).length ≤ 4194300) (hD : (be D).length ≤ 4194300) (h0 : 0 < P) : Calls Tryz.prog 59 #[.bool b, .string ⟨(be P).toArray⟩, .string ⟨(be D).toArray⟩] w fun e w' => e = .returned (rbv (mkRat (sg b P) D)) ∧ Since w w' := by
  have HE : Hid (be P ≠ []) := be_ne h0
  have HX := Lib.hid (low_parts b h0 hd)
  have HGP : Hid (0 < (Nat.gcd P D)) := Nat.gcd_pos_of_pos_left D h0
  have hgl := be_mono (Nat.gcd_le_left D h0)
  clear h0
  go_enter Tryz.func59, Tryz.ntmps59
  go_upto_region 1 with (fail)
  obtain ⟨W0, hW0, hB0, hb⟩ := start1 w 23 [.bool false, .string ⟨#[]⟩, .string ⟨#[]⟩]
  rw [← hW0]
  clear hW0
  refine jp ?_
  refine jm (st (be P)) ?_
  refine jc (st (be P)) (fun X hX hF => mo (rcleanC (be P) X (by omega)) (by rw [val_be])) ?_
  refine jm (st (be P)) ?_
  refine jz fun X1 hX1 => ?_
  have hB0 := hB0.bel hX1
  have hb := bel_next hb hX1
  clear hX1
  go_upto_region 2 with (fail)
  refine jp ?_
  refine jm (st (be P)) ?_
  refine jv (.bool false) (exec_eqsB _ _ _ _ (by rfl) (be P) ([] : List UInt8) (by rfl) (by rfl) false (eqs_f HE.out)) ?_
  refine jz fun X2 hX2 => ?_
  have hB0 := hB0.bel hX2
  have hb := bel_next hb hX2
  clear hX2
  go_upto_region 4 with (fail)
  refine jp ?_
  refine jm (st (be P)) ?_
  refine jm (st (be D)) ?_
  refine jc (st (be (Nat.gcd P D))) (fun X hX hF => mo (rgcdC (be P) (be D) X (by omega) (by omega)) (by rw [val_be, val_be])) ?_
  refine jm (st (be (Nat.gcd P D))) ?_
  refine jz fun X3 hX3 => ?_
  have hB0 := hB0.bel hX3
  have hb := bel_next hb hX3
  clear hX3
  go_upto_region 5 with (fail)
  refine jq 10 ?_
  refine jm (.bool b) ?_
  refine jm (st (be P)) ?_
  refine jm (st (be (Nat.gcd P D))) ?_
  refine jc (.agg #[st (be (P / (Nat.gcd P D))), st (be (P % (Nat.gcd P D))), .int .i64 0]) (fun X hX hF => mo (rdivC (be P) (be (Nat.gcd P D)) X (by omega) (by omega) (by rw [val_be]; exact HGP.out)) (by simp only [val_be])) ?_
  refine jm (st (be (P / (Nat.gcd P D)))) ?_
  refine jm (st (be D)) ?_
  refine jm (st (be (Nat.gcd P D))) ?_
  refine jc (.agg #[st (be (D / (Nat.gcd P D))), st (be (D % (Nat.gcd P D))), .int .i64 0]) (fun X hX hF => mo (rdivC (be D) (be (Nat.gcd P D)) X (by omega) (by omega) (by rw [val_be]; exact HGP.out)) (by simp only [val_be])) ?_
  refine jm (st (be (D / (Nat.gcd P D)))) ?_
  refine jn (rt b (be (P / (Nat.gcd P D))) (be (D / (Nat.gcd P D)))) ?_
  refine jz fun X4 hX4 => ?_
  have hB0 := hB0.bel hX4
  have hb := bel_next hb hX4
  clear hX4
  refine osb 23 6 25 w.heap.size 23 hB0 [.bool b, .string ⟨(be (P / (Nat.gcd P D))).toArray⟩, .string ⟨(be (D / (Nat.gcd P D))).toArray⟩] info_rat ?_
  intro w9 hR9 hO9 hB9 hs9
  have hb9 := hB9 _ _ hb (by omega)
  clear hO9 hB9
  go_wp2
  refine post_cell rfl rfl (by rfl) Tryz.underlying23 rfl hR9 info_rat ⟨by rw [rbv_of HX.out], hb9⟩
theorem lowS (b : Bool) (P D : Nat) (w : World) (hd : 0 < D) (hP : (be P).length ≤ 4194300) (hD : (be D).length ≤ 4194300) : Calls Tryz.prog 59 #[.bool b, .string ⟨(be P).toArray⟩, .string ⟨(be D).toArray⟩] w fun e w' => e = .returned (rbv (mkRat (sg b P) D)) ∧ Since w w' := by
  rcases Nat.eq_zero_or_pos P with h0 | h0
  · exact low5_1 b P D w hd hP hD h0
  · exact low5_0 b P D w hd hP hD h0
theorem parts5_1 (x : Rat) (w : World) (h0 : x = 0) : Calls Tryz.prog 67 #[.agg #[.bool (rN x), .string ⟨(rP x).toArray⟩, .string ⟨(rD x).toArray⟩]] w fun e w' => e = .returned (.tuple #[.string ⟨(be x.num.natAbs).toArray⟩, .string ⟨(be x.den).toArray⟩]) ∧ Since w w' := by
  have HE : Hid (rP x = []) := by subst h0; rfl
  have HA : Hid (be x.num.natAbs = []) := HE
  have HB : Hid (be x.den = [1]) := by show _ = _; rw [h0]; exact be_one
  clear h0
  go_enter Tryz.func67, Tryz.ntmps67
  go_upto_region 1 with (fail)
  obtain ⟨W0, hW0, hB0, hb⟩ := start1 w 23 [.bool (rN x), .string ⟨(rP x).toArray⟩, .string ⟨(rD x).toArray⟩]
  rw [← hW0]
  clear hW0
  refine jp ?_
  refine jn (.pointer (some ⟨w.heap.size, 1, none⟩)) ?_
  refine jf (st (rP x)) hB0 1 load_str ?_
  refine jv (.bool true) (exec_eqsB _ _ _ _ (by rfl) (rP x) ([] : List UInt8) (by rfl) (by rfl) true (eqs_t HE.out)) ?_
  refine jz fun X1 hX1 => ?_
  have hB0 := hB0.bel hX1
  have hb := bel_next hb hX1
  clear hX1
  go_upto_region 2 with (fail)
  refine jp ?_
  refine jm (st []) ?_
  refine jm (st ([1] : List UInt8)) ?_
  refine jz fun X2 hX2 => ?_
  have hB0 := hB0.bel hX2
  have hb := bel_next hb hX2
  clear hX2
  go_wp2
  go_ret2
  exact ⟨by rw [HA.out, HB.out]; rfl, hb⟩
theorem parts5_0 (x : Rat) (w : World) (h0 : x ≠ 0) : Calls Tryz.prog 67 #[.agg #[.bool (rN x), .string ⟨(rP x).toArray⟩, .string ⟨(rD x).toArray⟩]] w fun e w' => e = .returned (.tuple #[.string ⟨(be x.num.natAbs).toArray⟩, .string ⟨(be x.den).toArray⟩]) ∧ Since w w' := by
  have HE : Hid (rP x ≠ []) := fun h9 => h0 ((num_zero x).1 (be_nil.1 h9))
  have HB : Hid (rD x = be x.den) := by
    show _ = _
    unfold rD
    rw [if_neg (fun h9 => h0 ((num_zero x).1 (by rw [h9]; rfl)))]
  clear h0
  go_enter Tryz.func67, Tryz.ntmps67
  go_upto_region 1 with (fail)
  obtain ⟨W0, hW0, hB0, hb⟩ := start1 w 23 [.bool (rN x), .string ⟨(rP x).toArray⟩, .string ⟨(rD x).toArray⟩]
  rw [← hW0]
  clear hW0
  refine jp ?_
  refine jn (.pointer (some ⟨w.heap.size, 1, none⟩)) ?_
  refine jf (st (rP x)) hB0 1 load_str ?_
  refine jv (.bool false) (exec_eqsB _ _ _ _ (by rfl) (rP x) ([] : List UInt8) (by rfl) (by rfl) false (eqs_f HE.out)) ?_
  refine jz fun X1 hX1 => ?_
  have hB0 := hB0.bel hX1
  have hb := bel_next hb hX1
  clear hX1
  go_upto_region 3 with (fail)
  refine jd ?_
  refine jn (.pointer (some ⟨w.heap.size, 1, none⟩)) ?_
  refine jf (st (rP x)) hB0 1 load_str ?_
  refine jn (.pointer (some ⟨w.heap.size, 2, none⟩)) ?_
  refine jf (st (rD x)) hB0 2 load_str ?_
  refine jm (st (rP x)) ?_
  refine jm (st (rD x)) ?_
  refine jz fun X2 hX2 => ?_
  have hB0 := hB0.bel hX2
  have hb := bel_next hb hX2
  clear hX2
  go_wp2
  go_ret2
  exact ⟨by rw [← HB.out]; rfl, hb⟩
theorem partsS (x : Rat) (w : World) : Calls Tryz.prog 67 #[.agg #[.bool (rN x), .string ⟨(rP x).toArray⟩, .string ⟨(rD x).toArray⟩]] w fun e w' => e = .returned (.tuple #[.string ⟨(be x.num.natAbs).toArray⟩, .string ⟨(be x.den).toArray⟩]) ∧ Since w w' := by
  by_cases h0 : x = 0
  · exact parts5_1 x w h0
  · exact parts5_0 x w h0
theorem partsN {x : Rat} {m : Bool} (h : rN x = m) (w : World) : Calls Tryz.prog 67 #[.agg #[.bool m, .string ⟨(rP x).toArray⟩, .string ⟨(rD x).toArray⟩]] w fun e w' => e = .returned (.tuple #[.string ⟨(be x.num.natAbs).toArray⟩, .string ⟨(be x.den).toArray⟩]) ∧ Since w w' := rbv_n h ▸ partsS x w
theorem add5_true_true_same (n : Bool) (p q : List UInt8) (n' : Bool) (p' q' : List UInt8) (x y : Rat) (HX : Hid (rq n p q = x)) (HY : Hid (rq n' p' q' = y)) (w : World) (h : tz p q 1000000) (h' : tz p' q' 1000000) (sx : szR x 1000000) (sy : szR y 1000000) (HM : Hid (rN x = true)) (HN : Hid (rN y = true)) (HK : Hid (mkRat (sg true ((x.num.natAbs * y.den) + (y.num.natAbs * x.den))) (x.den * y.den) = x + y)) : Calls Tryz.prog 23 #[.agg #[.bool n, .string ⟨p.toArray⟩, .string ⟨q.toArray⟩], .agg #[.bool n', .string ⟨p'.toArray⟩, .string ⟨q'.toArray⟩]] w fun e w' => e = .returned (rbv (x + y)) ∧ Since w w' := by
  have lpe := be_mulL sx.1 sy.2
  have lqd := be_mulL sy.1 sx.2
  have lde := be_mulL sx.2 sy.2
  have lsum := be_addL lpe lqd
  have l2 := be_leL (Nat.sub_le (x.num.natAbs * y.den) (y.num.natAbs * x.den)) lpe
  have l3 := be_leL (Nat.sub_le (y.num.natAbs * x.den) (x.num.natAbs * y.den)) lqd
  have l4 := sx.1
  have l5 := sx.2
  have l6 := sy.1
  have l7 := sy.2
  have HDP : Hid (0 < (x.den * y.den)) := Nat.mul_pos (Nat.pos_of_ne_zero x.den_nz) (Nat.pos_of_ne_zero y.den_nz)
  go_enter Tryz.func23, Tryz.ntmps23
  go_upto_region 1 with (fail)
  obtain ⟨W0, hW0, hB0, hB1, hB2, hb⟩ := start3 w 23 23 23 [.bool n, .string ⟨p.toArray⟩, .string ⟨q.toArray⟩] [.bool n', .string ⟨p'.toArray⟩, .string ⟨q'.toArray⟩] [.bool false, .string ⟨#[]⟩, .string ⟨#[]⟩]
  rw [← hW0]
  clear hW0
  refine jq 2 ?_
  refine ja hB0 Tryz.underlying23 (by rfl) info_rat ?_
  refine jc (rt true (rP x) (rD x)) (fun X hX hF => mo (cleanS n p q HX.out X h) (by rw [rbv_n HM.out])) ?_
  refine jz fun X1 hX1 => ?_
  have hB0 := hB0.bel hX1
  have hB1 := hB1.bel hX1
  have hB2 := hB2.bel hX1
  have hb := bel_next hb hX1
  clear hX1
  go_upto_region 2 with (refine osn 23 5 15 #[.bool true, .string ⟨(rP x).toArray⟩, .string ⟨(rD x).toArray⟩] info_rat ?_)
  obtain ⟨Y1, hY9, hD5, hS9⟩ := start1 X1 23 [.bool true, .string ⟨(rP x).toArray⟩, .string ⟨(rD x).toArray⟩]
  rw [← hY9]
  clear hY9
  have hgs5 := hb.size
  have hlt5x0 := hB0.lt
  have hlt5x1 := hB1.lt
  have hlt5x2 := hB2.lt
  have hB0 := hB0.bel hS9
  have hB1 := hB1.bel hS9
  have hB2 := hB2.bel hS9
  have hb := bel_next hb hS9
  clear hS9
  generalize X1.heap.size = g5 at *
  refine jq 2 ?_
  refine ja hB1 Tryz.underlying23 (by rfl) info_rat ?_
  refine jc (rt true (rP y) (rD y)) (fun X hX hF => mo (cleanS n' p' q' HY.out X h') (by rw [rbv_n HN.out])) ?_
  refine jz fun X2 hX2 => ?_
  have hB0 := hB0.bel hX2
  have hB1 := hB1.bel hX2
  have hB2 := hB2.bel hX2
  have hD5 := hD5.bel hX2
  have hb := bel_next hb hX2
  clear hX2
  go_upto_region 3 with (refine osn 23 6 17 #[.bool true, .string ⟨(rP y).toArray⟩, .string ⟨(rD y).toArray⟩] info_rat ?_)
  obtain ⟨Y2, hY9, hD6, hS9⟩ := start1 X2 23 [.bool true, .string ⟨(rP y).toArray⟩, .string ⟨(rD y).toArray⟩]
  rw [← hY9]
  clear hY9
  have hgs6 := hb.size
  have hlt6x0 := hB0.lt
  have hlt6x1 := hB1.lt
  have hlt6x2 := hB2.lt
  have hlt6x3 := hD5.lt
  have hB0 := hB0.bel hS9
  have hB1 := hB1.bel hS9
  have hB2 := hB2.bel hS9
  have hD5 := hD5.bel hS9
  have hb := bel_next hb hS9
  clear hS9
  generalize X2.heap.size = g6 at *
  refine jp ?_
  refine ja hD5 Tryz.underlying23 (by rfl) info_rat ?_
  refine jc (.tuple #[st (be x.num.natAbs), st (be x.den)]) (fun X hX hF => partsN HM.out X) ?_
  refine jm (.tuple #[st (be x.num.natAbs), st (be x.den)]) ?_
  refine jm (st (be x.num.natAbs)) ?_
  refine jm (st (be x.den)) ?_
  refine jm (st (be x.num.natAbs)) ?_
  refine jm (st (be x.den)) ?_
  refine jz fun X3 hX3 => ?_
  have hB0 := hB0.bel hX3
  have hB1 := hB1.bel hX3
  have hB2 := hB2.bel hX3
  have hD5 := hD5.bel hX3
  have hD6 := hD6.bel hX3
  have hb := bel_next hb hX3
  clear hX3
  go_upto_region 4 with (fail)
  refine jp ?_
  refine ja hD6 Tryz.underlying23 (by rfl) info_rat ?_
  refine jc (.tuple #[st (be y.num.natAbs), st (be y.den)]) (fun X hX hF => partsN HN.out X) ?_
  refine jm (.tuple #[st (be y.num.natAbs), st (be y.den)]) ?_
  refine jm (st (be y.num.natAbs)) ?_
  refine jm (st (be y.den)) ?_
  refine jm (st (be y.num.natAbs)) ?_
  refine jm (st (be y.den)) ?_
  refine jz fun X4 hX4 => ?_
  have hB0 := hB0.bel hX4
  have hB1 := hB1.bel hX4
  have hB2 := hB2.bel hX4
  have hD5 := hD5.bel hX4
  have hD6 := hD6.bel hX4
  have hb := bel_next hb hX4
  clear hX4
  go_upto_region 5 with (fail)
  refine jp ?_
  refine jm (st (be x.num.natAbs)) ?_
  refine jm (st (be y.den)) ?_
  refine jc (st (be (x.num.natAbs * y.den))) (fun X hX hF => mo (rmulC (be x.num.natAbs) (be y.den) X (by first | omega | decide) (by first | omega | decide)) (by rw [val_be, val_be])) ?_
  refine jm (st (be (x.num.natAbs * y.den))) ?_
  refine jz fun X5 hX5 => ?_
  have hB0 := hB0.bel hX5
  have hB1 := hB1.bel hX5
  have hB2 := hB2.bel hX5
  have hD5 := hD5.bel hX5
  have hD6 := hD6.bel hX5
  have hb := bel_next hb hX5
  clear hX5
  go_upto_region 6 with (fail)
  refine jp ?_
  refine jm (st (be y.num.natAbs)) ?_
  refine jm (st (be x.den)) ?_
  refine jc (st (be (y.num.natAbs * x.den))) (fun X hX hF => mo (rmulC (be y.num.natAbs) (be x.den) X (by first | omega | decide) (by first | omega | decide)) (by rw [val_be, val_be])) ?_
  refine jm (st (be (y.num.natAbs * x.den))) ?_
  refine jz fun X6 hX6 => ?_
  have hB0 := hB0.bel hX6
  have hB1 := hB1.bel hX6
  have hB2 := hB2.bel hX6
  have hD5 := hD5.bel hX6
  have hD6 := hD6.bel hX6
  have hb := bel_next hb hX6
  clear hX6
  go_upto_region 7 with (fail)
  refine jp ?_
  refine jm (st (be x.den)) ?_
  refine jm (st (be y.den)) ?_
  refine jc (st (be (x.den * y.den))) (fun X hX hF => mo (rmulC (be x.den) (be y.den) X (by first | omega | decide) (by first | omega | decide)) (by rw [val_be, val_be])) ?_
  refine jm (st (be (x.den * y.den))) ?_
  refine jz fun X7 hX7 => ?_
  have hB0 := hB0.bel hX7
  have hB1 := hB1.bel hX7
  have hB2 := hB2.bel hX7
  have hD5 := hD5.bel hX7
  have hD6 := hD6.bel hX7
  have hb := bel_next hb hX7
  clear hX7
  go_upto_region 8 with (fail)
  refine jp ?_
  refine jn (.pointer (some ⟨g5, 0, none⟩)) ?_
  refine jf (.bool true) hD5 0 load_bool ?_
  refine jn (.pointer (some ⟨g6, 0, none⟩)) ?_
  refine jf (.bool true) hD6 0 load_bool ?_
  refine jm (.bool true) ?_
  refine jz fun X8 hX8 => ?_
  have hB0 := hB0.bel hX8
  have hB1 := hB1.bel hX8
  have hB2 := hB2.bel hX8
  have hD5 := hD5.bel hX8
  have hD6 := hD6.bel hX8
  have hb := bel_next hb hX8
  clear hX8
  go_upto_region 9 with (fail)
  refine lx_region_tail [] (by kernel_rfl) (by kernel_rfl) (by kernel_rfl) rfl (lasts_nil) ?_
  simp only [its, List.dropLast, Nat.zero_add, Nat.reduceAdd]
  refine jn (.pointer (some ⟨g5, 0, none⟩)) ?_
  refine jf (.bool true) hD5 0 load_bool ?_
  refine jm (st (be (x.num.natAbs * y.den))) ?_
  refine jm (st (be (y.num.natAbs * x.den))) ?_
  refine jc (st (be ((x.num.natAbs * y.den) + (y.num.natAbs * x.den)))) (fun X hX hF => mo (raddC (be (x.num.natAbs * y.den)) (be (y.num.natAbs * x.den)) X (by first | omega | decide) (by first | omega | decide)) (by rw [val_be, val_be])) ?_
  refine jm (st (be (x.den * y.den))) ?_
  refine jc (.agg #[.bool (rN (mkRat (sg true ((x.num.natAbs * y.den) + (y.num.natAbs * x.den))) (x.den * y.den))), st (rP (mkRat (sg true ((x.num.natAbs * y.den) + (y.num.natAbs * x.den))) (x.den * y.den))), st (rD (mkRat (sg true ((x.num.natAbs * y.den) + (y.num.natAbs * x.den))) (x.den * y.den)))]) (fun X hX hF => lowS true ((x.num.natAbs * y.den) + (y.num.natAbs * x.den)) (x.den * y.den) X HDP.out (by first | omega | decide) (by first | omega | decide)) ?_
  refine jz fun X9 hX9 => ?_
  have hB0 := hB0.bel hX9
  have hB1 := hB1.bel hX9
  have hB2 := hB2.bel hX9
  have hD5 := hD5.bel hX9
  have hD6 := hD6.bel hX9
  have hb := bel_next hb hX9
  clear hX9
  refine osb 23 4 48 (w.heap.size + 2) 23 hB2 [.bool (rN (mkRat (sg true ((x.num.natAbs * y.den) + (y.num.natAbs * x.den))) (x.den * y.den))), .string ⟨(rP (mkRat (sg true ((x.num.natAbs * y.den) + (y.num.natAbs * x.den))) (x.den * y.den))).toArray⟩, .string ⟨(rD (mkRat (sg true ((x.num.natAbs * y.den) + (y.num.natAbs * x.den))) (x.den * y.den))).toArray⟩] info_rat ?_
  intro w9 hR9 hO9 hB9 hs9
  have hb9 := hB9 _ _ hb (by omega)
  clear hO9 hB9
  go_wp2
  refine post_cell rfl rfl (by rfl) Tryz.underlying23 rfl hR9 info_rat ⟨by rw [HK.out], hb9⟩
theorem add5_true_false_ge (n : Bool) (p q : List UInt8) (n' : Bool) (p' q' : List UInt8) (x y : Rat) (HX : Hid (rq n p q = x)) (HY : Hid (rq n' p' q' = y)) (w : World) (h : tz p q 1000000) (h' : tz p' q' 1000000) (sx : szR x 1000000) (sy : szR y 1000000) (HM : Hid (rN x = true)) (HN : Hid (rN y = false)) (HK : Hid (mkRat (sg true ((x.num.natAbs * y.den) - (y.num.natAbs * x.den))) (x.den * y.den) = x + y)) (hc : (y.num.natAbs * x.den) ≤ (x.num.natAbs * y.den)) : Calls Tryz.prog 23 #[.agg #[.bool n, .string ⟨p.toArray⟩, .string ⟨q.toArray⟩], .agg #[.bool n', .string ⟨p'.toArray⟩, .string ⟨q'.toArray⟩]] w fun e w' => e = .returned (rbv (x + y)) ∧ Since w w' := by
  have lpe := be_mulL sx.1 sy.2
  have lqd := be_mulL sy.1 sx.2
  have lde := be_mulL sx.2 sy.2
  have lsum := be_addL lpe lqd
  have l2 := be_leL (Nat.sub_le (x.num.natAbs * y.den) (y.num.natAbs * x.den)) lpe
  have l3 := be_leL (Nat.sub_le (y.num.natAbs * x.den) (x.num.natAbs * y.den)) lqd
  have l4 := sx.1
  have l5 := sx.2
  have l6 := sy.1
  have l7 := sy.2
  have HDP : Hid (0 < (x.den * y.den)) := Nat.mul_pos (Nat.pos_of_ne_zero x.den_nz) (Nat.pos_of_ne_zero y.den_nz)
  go_enter Tryz.func23, Tryz.ntmps23
  go_upto_region 1 with (fail)
  obtain ⟨W0, hW0, hB0, hB1, hB2, hb⟩ := start3 w 23 23 23 [.bool n, .string ⟨p.toArray⟩, .string ⟨q.toArray⟩] [.bool n', .string ⟨p'.toArray⟩, .string ⟨q'.toArray⟩] [.bool false, .string ⟨#[]⟩, .string ⟨#[]⟩]
  rw [← hW0]
  clear hW0
  refine jq 2 ?_
  refine ja hB0 Tryz.underlying23 (by rfl) info_rat ?_
  refine jc (rt true (rP x) (rD x)) (fun X hX hF => mo (cleanS n p q HX.out X h) (by rw [rbv_n HM.out])) ?_
  refine jz fun X1 hX1 => ?_
  have hB0 := hB0.bel hX1
  have hB1 := hB1.bel hX1
  have hB2 := hB2.bel hX1
  have hb := bel_next hb hX1
  clear hX1
  go_upto_region 2 with (refine osn 23 5 15 #[.bool true, .string ⟨(rP x).toArray⟩, .string ⟨(rD x).toArray⟩] info_rat ?_)
  obtain ⟨Y1, hY9, hD5, hS9⟩ := start1 X1 23 [.bool true, .string ⟨(rP x).toArray⟩, .string ⟨(rD x).toArray⟩]
  rw [← hY9]
  clear hY9
  have hgs5 := hb.size
  have hlt5x0 := hB0.lt
  have hlt5x1 := hB1.lt
  have hlt5x2 := hB2.lt
  have hB0 := hB0.bel hS9
  have hB1 := hB1.bel hS9
  have hB2 := hB2.bel hS9
  have hb := bel_next hb hS9
  clear hS9
  generalize X1.heap.size = g5 at *
  refine jq 2 ?_
  refine ja hB1 Tryz.underlying23 (by rfl) info_rat ?_
  refine jc (rt false (rP y) (rD y)) (fun X hX hF => mo (cleanS n' p' q' HY.out X h') (by rw [rbv_n HN.out])) ?_
  refine jz fun X2 hX2 => ?_
  have hB0 := hB0.bel hX2
  have hB1 := hB1.bel hX2
  have hB2 := hB2.bel hX2
  have hD5 := hD5.bel hX2
  have hb := bel_next hb hX2
  clear hX2
  go_upto_region 3 with (refine osn 23 6 17 #[.bool false, .string ⟨(rP y).toArray⟩, .string ⟨(rD y).toArray⟩] info_rat ?_)
  obtain ⟨Y2, hY9, hD6, hS9⟩ := start1 X2 23 [.bool false, .string ⟨(rP y).toArray⟩, .string ⟨(rD y).toArray⟩]
  rw [← hY9]
  clear hY9
  have hgs6 := hb.size
  have hlt6x0 := hB0.lt
  have hlt6x1 := hB1.lt
  have hlt6x2 := hB2.lt
  have hlt6x3 := hD5.lt
  have hB0 := hB0.bel hS9
  have hB1 := hB1.bel hS9
  have hB2 := hB2.bel hS9
  have hD5 := hD5.bel hS9
  have hb := bel_next hb hS9
  clear hS9
  generalize X2.heap.size = g6 at *
  refine jp ?_
  refine ja hD5 Tryz.underlying23 (by rfl) info_rat ?_
  refine jc (.tuple #[st (be x.num.natAbs), st (be x.den)]) (fun X hX hF => partsN HM.out X) ?_
  refine jm (.tuple #[st (be x.num.natAbs), st (be x.den)]) ?_
  refine jm (st (be x.num.natAbs)) ?_
  refine jm (st (be x.den)) ?_
  refine jm (st (be x.num.natAbs)) ?_
  refine jm (st (be x.den)) ?_
  refine jz fun X3 hX3 => ?_
  have hB0 := hB0.bel hX3
  have hB1 := hB1.bel hX3
  have hB2 := hB2.bel hX3
  have hD5 := hD5.bel hX3
  have hD6 := hD6.bel hX3
  have hb := bel_next hb hX3
  clear hX3
  go_upto_region 4 with (fail)
  refine jp ?_
  refine ja hD6 Tryz.underlying23 (by rfl) info_rat ?_
  refine jc (.tuple #[st (be y.num.natAbs), st (be y.den)]) (fun X hX hF => partsN HN.out X) ?_
  refine jm (.tuple #[st (be y.num.natAbs), st (be y.den)]) ?_
  refine jm (st (be y.num.natAbs)) ?_
  refine jm (st (be y.den)) ?_
  refine jm (st (be y.num.natAbs)) ?_
  refine jm (st (be y.den)) ?_
  refine jz fun X4 hX4 => ?_
  have hB0 := hB0.bel hX4
  have hB1 := hB1.bel hX4
  have hB2 := hB2.bel hX4
  have hD5 := hD5.bel hX4
  have hD6 := hD6.bel hX4
  have hb := bel_next hb hX4
  clear hX4
  go_upto_region 5 with (fail)
  refine jp ?_
  refine jm (st (be x.num.natAbs)) ?_
  refine jm (st (be y.den)) ?_
  refine jc (st (be (x.num.natAbs * y.den))) (fun X hX hF => mo (rmulC (be x.num.natAbs) (be y.den) X (by first | omega | decide) (by first | omega | decide)) (by rw [val_be, val_be])) ?_
  refine jm (st (be (x.num.natAbs * y.den))) ?_
  refine jz fun X5 hX5 => ?_
  have hB0 := hB0.bel hX5
  have hB1 := hB1.bel hX5
  have hB2 := hB2.bel hX5
  have hD5 := hD5.bel hX5
  have hD6 := hD6.bel hX5
  have hb := bel_next hb hX5
  clear hX5
  go_upto_region 6 with (fail)
  refine jp ?_
  refine jm (st (be y.num.natAbs)) ?_
  refine jm (st (be x.den)) ?_
  refine jc (st (be (y.num.natAbs * x.den))) (fun X hX hF => mo (rmulC (be y.num.natAbs) (be x.den) X (by first | omega | decide) (by first | omega | decide)) (by rw [val_be, val_be])) ?_
  refine jm (st (be (y.num.natAbs * x.den))) ?_
  refine jz fun X6 hX6 => ?_
  have hB0 := hB0.bel hX6
  have hB1 := hB1.bel hX6
  have hB2 := hB2.bel hX6
  have hD5 := hD5.bel hX6
  have hD6 := hD6.bel hX6
  have hb := bel_next hb hX6
  clear hX6
  go_upto_region 7 with (fail)
  refine jp ?_
  refine jm (st (be x.den)) ?_
  refine jm (st (be y.den)) ?_
  refine jc (st (be (x.den * y.den))) (fun X hX hF => mo (rmulC (be x.den) (be y.den) X (by first | omega | decide) (by first | omega | decide)) (by rw [val_be, val_be])) ?_
  refine jm (st (be (x.den * y.den))) ?_
  refine jz fun X7 hX7 => ?_
  have hB0 := hB0.bel hX7
  have hB1 := hB1.bel hX7
  have hB2 := hB2.bel hX7
  have hD5 := hD5.bel hX7
  have hD6 := hD6.bel hX7
  have hb := bel_next hb hX7
  clear hX7
  go_upto_region 8 with (fail)
  refine jp ?_
  refine jn (.pointer (some ⟨g5, 0, none⟩)) ?_
  refine jf (.bool true) hD5 0 load_bool ?_
  refine jn (.pointer (some ⟨g6, 0, none⟩)) ?_
  refine jf (.bool false) hD6 0 load_bool ?_
  refine jm (.bool false) ?_
  refine jz fun X8 hX8 => ?_
  have hB0 := hB0.bel hX8
  have hB1 := hB1.bel hX8
  have hB2 := hB2.bel hX8
  have hD5 := hD5.bel hX8
  have hD6 := hD6.bel hX8
  have hb := bel_next hb hX8
  clear hX8
  go_upto_region 10 with (fail)
  refine jp ?_
  refine jm (st (be (x.num.natAbs * y.den))) ?_
  refine jm (st (be (y.num.natAbs * x.den))) ?_
  refine jc (.int .i64 (cmpI (((x.num.natAbs * y.den) : Nat) : Int) (((y.num.natAbs * x.den) : Nat) : Int))) (fun X hX hF => mo (rcmpC (be (x.num.natAbs * y.den)) (be (y.num.natAbs * x.den)) X (by first | omega | decide) (by first | omega | decide)) (by rw [val_be, val_be])) ?_
  refine jv (.bool true) (exec_geq _ _ _ _ (by rfl) .i64 (cmpI (((x.num.natAbs * y.den) : Nat) : Int) (((y.num.natAbs * x.den) : Nat) : Int)) 0 (by rfl) (by rfl) true (decide_eq_true (by unfold cmpI; split; omega; split <;> omega))) ?_
  refine jz fun X9 hX9 => ?_
  have hB0 := hB0.bel hX9
  have hB1 := hB1.bel hX9
  have hB2 := hB2.bel hX9
  have hD5 := hD5.bel hX9
  have hD6 := hD6.bel hX9
  have hb := bel_next hb hX9
  clear hX9
  go_upto_region 11 with (fail)
  refine lx_region_tail [] (by kernel_rfl) (by kernel_rfl) (by kernel_rfl) rfl (lasts_nil) ?_
  simp only [its, List.dropLast, Nat.zero_add, Nat.reduceAdd]
  refine jn (.pointer (some ⟨g5, 0, none⟩)) ?_
  refine jf (.bool true) hD5 0 load_bool ?_
  refine jm (st (be (x.num.natAbs * y.den))) ?_
  refine jm (st (be (y.num.natAbs * x.den))) ?_
  refine jc (.agg #[st (be ((x.num.natAbs * y.den) - (y.num.natAbs * x.den))), .int .i64 0]) (fun X hX hF => mo (rsubC (be (x.num.natAbs * y.den)) (be (y.num.natAbs * x.den)) X (by first | omega | decide) (by first | omega | decide) (by rw [val_be, val_be]; omega)) (by rw [val_be, val_be])) ?_
  refine jm (st (be ((x.num.natAbs * y.den) - (y.num.natAbs * x.den)))) ?_
  refine jm (st (be (x.den * y.den))) ?_
  refine jc (.agg #[.bool (rN (mkRat (sg true ((x.num.natAbs * y.den) - (y.num.natAbs * x.den))) (x.den * y.den))), st (rP (mkRat (sg true ((x.num.natAbs * y.den) - (y.num.natAbs * x.den))) (x.den * y.den))), st (rD (mkRat (sg true ((x.num.natAbs * y.den) - (y.num.natAbs * x.den))) (x.den * y.den)))]) (fun X hX hF => lowS true ((x.num.natAbs * y.den) - (y.num.natAbs * x.den)) (x.den * y.den) X HDP.out (by first | omega | decide) (by first | omega | decide)) ?_
  refine jz fun X10 hX10 => ?_
  have hB0 := hB0.bel hX10
  have hB1 := hB1.bel hX10
  have hB2 := hB2.bel hX10
  have hD5 := hD5.bel hX10
  have hD6 := hD6.bel hX10
  have hb := bel_next hb hX10
  clear hX10
  refine osb 23 4 60 (w.heap.size + 2) 23 hB2 [.bool (rN (mkRat (sg true ((x.num.natAbs * y.den) - (y.num.natAbs * x.den))) (x.den * y.den))), .string ⟨(rP (mkRat (sg true ((x.num.natAbs * y.den) - (y.num.natAbs * x.den))) (x.den * y.den))).toArray⟩, .string ⟨(rD (mkRat (sg true ((x.num.natAbs * y.den) - (y.num.natAbs * x.den))) (x.den * y.den))).toArray⟩] info_rat ?_
  intro w9 hR9 hO9 hB9 hs9
  have hb9 := hB9 _ _ hb (by omega)
  clear hO9 hB9
  go_wp2
  refine post_cell rfl rfl (by rfl) Tryz.underlying23 rfl hR9 info_rat ⟨by rw [HK.out], hb9⟩
theorem add5_true_false_lt (n : Bool) (p q : List UInt8) (n' : Bool) (p' q' : List UInt8) (x y : Rat) (HX : Hid (rq n p q = x)) (HY : Hid (rq n' p' q' = y)) (w : World) (h : tz p q 1000000) (h' : tz p' q' 1000000) (sx : szR x 1000000) (sy : szR y 1000000) (HM : Hid (rN x = true)) (HN : Hid (rN y = false)) (HK : Hid (mkRat (sg false ((y.num.natAbs * x.den) - (x.num.natAbs * y.den))) (x.den * y.den) = x + y)) (hc : (x.num.natAbs * y.den) < (y.num.natAbs * x.den)) : Calls Tryz.prog 23 #[.agg #[.bool n, .string ⟨p.toArray⟩, .string ⟨q.toArray⟩], .agg #[.bool n', .string ⟨p'.toArray⟩, .string ⟨q'.toArray⟩]] w fun e w' => e = .returned (rbv (x + y)) ∧ Since w w' := by
  have lpe := be_mulL sx.1 sy.2
  have lqd := be_mulL sy.1 sx.2
  have lde := be_mulL sx.2 sy.2
  have lsum := be_addL lpe lqd
  have l2 := be_leL (Nat.sub_le (x.num.natAbs * y.den) (y.num.natAbs * x.den)) lpe
  have l3 := be_leL (Nat.sub_le (y.num.natAbs * x.den) (x.num.natAbs * y.den)) lqd
  have l4 := sx.1
  have l5 := sx.2
  have l6 := sy.1
  have l7 := sy.2
  have HDP : Hid (0 < (x.den * y.den)) := Nat.mul_pos (Nat.pos_of_ne_zero x.den_nz) (Nat.pos_of_ne_zero y.den_nz)
  go_enter Tryz.func23, Tryz.ntmps23
  go_upto_region 1 with (fail)
  obtain ⟨W0, hW0, hB0, hB1, hB2, hb⟩ := start3 w 23 23 23 [.bool n, .string ⟨p.toArray⟩, .string ⟨q.toArray⟩] [.bool n', .string ⟨p'.toArray⟩, .string ⟨q'.toArray⟩] [.bool false, .string ⟨#[]⟩, .string ⟨#[]⟩]
  rw [← hW0]
  clear hW0
  refine jq 2 ?_
  refine ja hB0 Tryz.underlying23 (by rfl) info_rat ?_
  refine jc (rt true (rP x) (rD x)) (fun X hX hF => mo (cleanS n p q HX.out X h) (by rw [rbv_n HM.out])) ?_
  refine jz fun X1 hX1 => ?_
  have hB0 := hB0.bel hX1
  have hB1 := hB1.bel hX1
  have hB2 := hB2.bel hX1
  have hb := bel_next hb hX1
  clear hX1
  go_upto_region 2 with (refine osn 23 5 15 #[.bool true, .string ⟨(rP x).toArray⟩, .string ⟨(rD x).toArray⟩] info_rat ?_)
  obtain ⟨Y1, hY9, hD5, hS9⟩ := start1 X1 23 [.bool true, .string ⟨(rP x).toArray⟩, .string ⟨(rD x).toArray⟩]
  rw [← hY9]
  clear hY9
  have hgs5 := hb.size
  have hlt5x0 := hB0.lt
  have hlt5x1 := hB1.lt
  have hlt5x2 := hB2.lt
  have hB0 := hB0.bel hS9
  have hB1 := hB1.bel hS9
  have hB2 := hB2.bel hS9
  have hb := bel_next hb hS9
  clear hS9
  generalize X1.heap.size = g5 at *
  refine jq 2 ?_
  refine ja hB1 Tryz.underlying23 (by rfl) info_rat ?_
  refine jc (rt false (rP y) (rD y)) (fun X hX hF => mo (cleanS n' p' q' HY.out X h') (by rw [rbv_n HN.out])) ?_
  refine jz fun X2 hX2 => ?_
  have hB0 := hB0.bel hX2
  have hB1 := hB1.bel hX2
  have hB2 := hB2.bel hX2
  have hD5 := hD5.bel hX2
  have hb := bel_next hb hX2
  clear hX2
  go_upto_region 3 with (refine osn 23 6 17 #[.bool false, .string ⟨(rP y).toArray⟩, .string ⟨(rD y).toArray⟩] info_rat ?_)
  obtain ⟨Y2, hY9, hD6, hS9⟩ := start1 X2 23 [.bool false, .string ⟨(rP y).toArray⟩, .string ⟨(rD y).toArray⟩]
  rw [← hY9]
  clear hY9
  have hgs6 := hb.size
  have hlt6x0 := hB0.lt
  have hlt6x1 := hB1.lt
  have hlt6x2 := hB2.lt
  have hlt6x3 := hD5.lt
  have hB0 := hB0.bel hS9
  have hB1 := hB1.bel hS9
  have hB2 := hB2.bel hS9
  have hD5 := hD5.bel hS9
  have hb := bel_next hb hS9
  clear hS9
  generalize X2.heap.size = g6 at *
  refine jp ?_
  refine ja hD5 Tryz.underlying23 (by rfl) info_rat ?_
  refine jc (.tuple #[st (be x.num.natAbs), st (be x.den)]) (fun X hX hF => partsN HM.out X) ?_
  refine jm (.tuple #[st (be x.num.natAbs), st (be x.den)]) ?_
  refine jm (st (be x.num.natAbs)) ?_
  refine jm (st (be x.den)) ?_
  refine jm (st (be x.num.natAbs)) ?_
  refine jm (st (be x.den)) ?_
  refine jz fun X3 hX3 => ?_
  have hB0 := hB0.bel hX3
  have hB1 := hB1.bel hX3
  have hB2 := hB2.bel hX3
  have hD5 := hD5.bel hX3
  have hD6 := hD6.bel hX3
  have hb := bel_next hb hX3
  clear hX3
  go_upto_region 4 with (fail)
  refine jp ?_
  refine ja hD6 Tryz.underlying23 (by rfl) info_rat ?_
  refine jc (.tuple #[st (be y.num.natAbs), st (be y.den)]) (fun X hX hF => partsN HN.out X) ?_
  refine jm (.tuple #[st (be y.num.natAbs), st (be y.den)]) ?_
  refine jm (st (be y.num.natAbs)) ?_
  refine jm (st (be y.den)) ?_
  refine jm (st (be y.num.natAbs)) ?_
  refine jm (st (be y.den)) ?_
  refine jz fun X4 hX4 => ?_
  have hB0 := hB0.bel hX4
  have hB1 := hB1.bel hX4
  have hB2 := hB2.bel hX4
  have hD5 := hD5.bel hX4
  have hD6 := hD6.bel hX4
  have hb := bel_next hb hX4
  clear hX4
  go_upto_region 5 with (fail)
  refine jp ?_
  refine jm (st (be x.num.natAbs)) ?_
  refine jm (st (be y.den)) ?_
  refine jc (st (be (x.num.natAbs * y.den))) (fun X hX hF => mo (rmulC (be x.num.natAbs) (be y.den) X (by first | omega | decide) (by first | omega | decide)) (by rw [val_be, val_be])) ?_
  refine jm (st (be (x.num.natAbs * y.den))) ?_
  refine jz fun X5 hX5 => ?_
  have hB0 := hB0.bel hX5
  have hB1 := hB1.bel hX5
  have hB2 := hB2.bel hX5
  have hD5 := hD5.bel hX5
  have hD6 := hD6.bel hX5
  have hb := bel_next hb hX5
  clear hX5
  go_upto_region 6 with (fail)
  refine jp ?_
  refine jm (st (be y.num.natAbs)) ?_
  refine jm (st (be x.den)) ?_
  refine jc (st (be (y.num.natAbs * x.den))) (fun X hX hF => mo (rmulC (be y.num.natAbs) (be x.den) X (by first | omega | decide) (by first | omega | decide)) (by rw [val_be, val_be])) ?_
  refine jm (st (be (y.num.natAbs * x.den))) ?_
  refine jz fun X6 hX6 => ?_
  have hB0 := hB0.bel hX6
  have hB1 := hB1.bel hX6
  have hB2 := hB2.bel hX6
  have hD5 := hD5.bel hX6
  have hD6 := hD6.bel hX6
  have hb := bel_next hb hX6
  clear hX6
  go_upto_region 7 with (fail)
  refine jp ?_
  refine jm (st (be x.den)) ?_
  refine jm (st (be y.den)) ?_
  refine jc (st (be (x.den * y.den))) (fun X hX hF => mo (rmulC (be x.den) (be y.den) X (by first | omega | decide) (by first | omega | decide)) (by rw [val_be, val_be])) ?_
  refine jm (st (be (x.den * y.den))) ?_
  refine jz fun X7 hX7 => ?_
  have hB0 := hB0.bel hX7
  have hB1 := hB1.bel hX7
  have hB2 := hB2.bel hX7
  have hD5 := hD5.bel hX7
  have hD6 := hD6.bel hX7
  have hb := bel_next hb hX7
  clear hX7
  go_upto_region 8 with (fail)
  refine jp ?_
  refine jn (.pointer (some ⟨g5, 0, none⟩)) ?_
  refine jf (.bool true) hD5 0 load_bool ?_
  refine jn (.pointer (some ⟨g6, 0, none⟩)) ?_
  refine jf (.bool false) hD6 0 load_bool ?_
  refine jm (.bool false) ?_
  refine jz fun X8 hX8 => ?_
  have hB0 := hB0.bel hX8
  have hB1 := hB1.bel hX8
  have hB2 := hB2.bel hX8
  have hD5 := hD5.bel hX8
  have hD6 := hD6.bel hX8
  have hb := bel_next hb hX8
  clear hX8
  go_upto_region 10 with (fail)
  refine jp ?_
  refine jm (st (be (x.num.natAbs * y.den))) ?_
  refine jm (st (be (y.num.natAbs * x.den))) ?_
  refine jc (.int .i64 (cmpI (((x.num.natAbs * y.den) : Nat) : Int) (((y.num.natAbs * x.den) : Nat) : Int))) (fun X hX hF => mo (rcmpC (be (x.num.natAbs * y.den)) (be (y.num.natAbs * x.den)) X (by first | omega | decide) (by first | omega | decide)) (by rw [val_be, val_be])) ?_
  refine jv (.bool false) (exec_geq _ _ _ _ (by rfl) .i64 (cmpI (((x.num.natAbs * y.den) : Nat) : Int) (((y.num.natAbs * x.den) : Nat) : Int)) 0 (by rfl) (by rfl) false (by rw [cmpI_lt (by omega)]; rfl)) ?_
  refine jz fun X9 hX9 => ?_
  have hB0 := hB0.bel hX9
  have hB1 := hB1.bel hX9
  have hB2 := hB2.bel hX9
  have hD5 := hD5.bel hX9
  have hD6 := hD6.bel hX9
  have hb := bel_next hb hX9
  clear hX9
  go_upto_region 12 with (fail)
  refine lx_region_tail [] (by kernel_rfl) (by kernel_rfl) (by kernel_rfl) rfl (lasts_nil) ?_
  simp only [its, List.dropLast, Nat.zero_add, Nat.reduceAdd]
  refine jn (.pointer (some ⟨g6, 0, none⟩)) ?_
  refine jf (.bool false) hD6 0 load_bool ?_
  refine jm (st (be (y.num.natAbs * x.den))) ?_
  refine jm (st (be (x.num.natAbs * y.den))) ?_
  refine jc (.agg #[st (be ((y.num.natAbs * x.den) - (x.num.natAbs * y.den))), .int .i64 0]) (fun X hX hF => mo (rsubC (be (y.num.natAbs * x.den)) (be (x.num.natAbs * y.den)) X (by first | omega | decide) (by first | omega | decide) (by rw [val_be, val_be]; omega)) (by rw [val_be, val_be])) ?_
  refine jm (st (be ((y.num.natAbs * x.den) - (x.num.natAbs * y.den)))) ?_
  refine jm (st (be (x.den * y.den))) ?_
  refine jc (.agg #[.bool (rN (mkRat (sg false ((y.num.natAbs * x.den) - (x.num.natAbs * y.den))) (x.den * y.den))), st (rP (mkRat (sg false ((y.num.natAbs * x.den) - (x.num.natAbs * y.den))) (x.den * y.den))), st (rD (mkRat (sg false ((y.num.natAbs * x.den) - (x.num.natAbs * y.den))) (x.den * y.den)))]) (fun X hX hF => lowS false ((y.num.natAbs * x.den) - (x.num.natAbs * y.den)) (x.den * y.den) X HDP.out (by first | omega | decide) (by first | omega | decide)) ?_
  refine jz fun X10 hX10 => ?_
  have hB0 := hB0.bel hX10
  have hB1 := hB1.bel hX10
  have hB2 := hB2.bel hX10
  have hD5 := hD5.bel hX10
  have hD6 := hD6.bel hX10
  have hb := bel_next hb hX10
  clear hX10
  refine osb 23 4 68 (w.heap.size + 2) 23 hB2 [.bool (rN (mkRat (sg false ((y.num.natAbs * x.den) - (x.num.natAbs * y.den))) (x.den * y.den))), .string ⟨(rP (mkRat (sg false ((y.num.natAbs * x.den) - (x.num.natAbs * y.den))) (x.den * y.den))).toArray⟩, .string ⟨(rD (mkRat (sg false ((y.num.natAbs * x.den) - (x.num.natAbs * y.den))) (x.den * y.den))).toArray⟩] info_rat ?_
  intro w9 hR9 hO9 hB9 hs9
  have hb9 := hB9 _ _ hb (by omega)
  clear hO9 hB9
  go_wp2
  refine post_cell rfl rfl (by rfl) Tryz.underlying23 rfl hR9 info_rat ⟨by rw [HK.out], hb9⟩
theorem add5_false_true_ge (n : Bool) (p q : List UInt8) (n' : Bool) (p' q' : List UInt8) (x y : Rat) (HX : Hid (rq n p q = x)) (HY : Hid (rq n' p' q' = y)) (w : World) (h : tz p q 1000000) (h' : tz p' q' 1000000) (sx : szR x 1000000) (sy : szR y 1000000) (HM : Hid (rN x = false)) (HN : Hid (rN y = true)) (HK : Hid (mkRat (sg false ((x.num.natAbs * y.den) - (y.num.natAbs * x.den))) (x.den * y.den) = x + y)) (hc : (y.num.natAbs * x.den) ≤ (x.num.natAbs * y.den)) : Calls Tryz.prog 23 #[.agg #[.bool n, .string ⟨p.toArray⟩, .string ⟨q.toArray⟩], .agg #[.bool n', .string ⟨p'.toArray⟩, .string ⟨q'.toArray⟩]] w fun e w' => e = .returned (rbv (x + y)) ∧ Since w w' := by
  have lpe := be_mulL sx.1 sy.2
  have lqd := be_mulL sy.1 sx.2
  have lde := be_mulL sx.2 sy.2
  have lsum := be_addL lpe lqd
  have l2 := be_leL (Nat.sub_le (x.num.natAbs * y.den) (y.num.natAbs * x.den)) lpe
  have l3 := be_leL (Nat.sub_le (y.num.natAbs * x.den) (x.num.natAbs * y.den)) lqd
  have l4 := sx.1
  have l5 := sx.2
  have l6 := sy.1
  have l7 := sy.2
  have HDP : Hid (0 < (x.den * y.den)) := Nat.mul_pos (Nat.pos_of_ne_zero x.den_nz) (Nat.pos_of_ne_zero y.den_nz)
  go_enter Tryz.func23, Tryz.ntmps23
  go_upto_region 1 with (fail)
  obtain ⟨W0, hW0, hB0, hB1, hB2, hb⟩ := start3 w 23 23 23 [.bool n, .string ⟨p.toArray⟩, .string ⟨q.toArray⟩] [.bool n', .string ⟨p'.toArray⟩, .string ⟨q'.toArray⟩] [.bool false, .string ⟨#[]⟩, .string ⟨#[]⟩]
  rw [← hW0]
  clear hW0
  refine jq 2 ?_
  refine ja hB0 Tryz.underlying23 (by rfl) info_rat ?_
  refine jc (rt false (rP x) (rD x)) (fun X hX hF => mo (cleanS n p q HX.out X h) (by rw [rbv_n HM.out])) ?_
  refine jz fun X1 hX1 => ?_
  have hB0 := hB0.bel hX1
  have hB1 := hB1.bel hX1
  have hB2 := hB2.bel hX1
  have hb := bel_next hb hX1
  clear hX1
  go_upto_region 2 with (refine osn 23 5 15 #[.bool false, .string ⟨(rP x).toArray⟩, .string ⟨(rD x).toArray⟩] info_rat ?_)
  obtain ⟨Y1, hY9, hD5, hS9⟩ := start1 X1 23 [.bool false, .string ⟨(rP x).toArray⟩, .string ⟨(rD x).toArray⟩]
  rw [← hY9]
  clear hY9
  have hgs5 := hb.size
  have hlt5x0 := hB0.lt
  have hlt5x1 := hB1.lt
  have hlt5x2 := hB2.lt
  have hB0 := hB0.bel hS9
  have hB1 := hB1.bel hS9
  have hB2 := hB2.bel hS9
  have hb := bel_next hb hS9
  clear hS9
  generalize X1.heap.size = g5 at *
  refine jq 2 ?_
  refine ja hB1 Tryz.underlying23 (by rfl) info_rat ?_
  refine jc (rt true (rP y) (rD y)) (fun X hX hF => mo (cleanS n' p' q' HY.out X h') (by rw [rbv_n HN.out])) ?_
  refine jz fun X2 hX2 => ?_
  have hB0 := hB0.bel hX2
  have hB1 := hB1.bel hX2
  have hB2 := hB2.bel hX2
  have hD5 := hD5.bel hX2
  have hb := bel_next hb hX2
  clear hX2
  go_upto_region 3 with (refine osn 23 6 17 #[.bool true, .string ⟨(rP y).toArray⟩, .string ⟨(rD y).toArray⟩] info_rat ?_)
  obtain ⟨Y2, hY9, hD6, hS9⟩ := start1 X2 23 [.bool true, .string ⟨(rP y).toArray⟩, .string ⟨(rD y).toArray⟩]
  rw [← hY9]
  clear hY9
  have hgs6 := hb.size
  have hlt6x0 := hB0.lt
  have hlt6x1 := hB1.lt
  have hlt6x2 := hB2.lt
  have hlt6x3 := hD5.lt
  have hB0 := hB0.bel hS9
  have hB1 := hB1.bel hS9
  have hB2 := hB2.bel hS9
  have hD5 := hD5.bel hS9
  have hb := bel_next hb hS9
  clear hS9
  generalize X2.heap.size = g6 at *
  refine jp ?_
  refine ja hD5 Tryz.underlying23 (by rfl) info_rat ?_
  refine jc (.tuple #[st (be x.num.natAbs), st (be x.den)]) (fun X hX hF => partsN HM.out X) ?_
  refine jm (.tuple #[st (be x.num.natAbs), st (be x.den)]) ?_
  refine jm (st (be x.num.natAbs)) ?_
  refine jm (st (be x.den)) ?_
  refine jm (st (be x.num.natAbs)) ?_
  refine jm (st (be x.den)) ?_
  refine jz fun X3 hX3 => ?_
  have hB0 := hB0.bel hX3
  have hB1 := hB1.bel hX3
  have hB2 := hB2.bel hX3
  have hD5 := hD5.bel hX3
  have hD6 := hD6.bel hX3
  have hb := bel_next hb hX3
  clear hX3
  go_upto_region 4 with (fail)
  refine jp ?_
  refine ja hD6 Tryz.underlying23 (by rfl) info_rat ?_
  refine jc (.tuple #[st (be y.num.natAbs), st (be y.den)]) (fun X hX hF => partsN HN.out X) ?_
  refine jm (.tuple #[st (be y.num.natAbs), st (be y.den)]) ?_
  refine jm (st (be y.num.natAbs)) ?_
  refine jm (st (be y.den)) ?_
  refine jm (st (be y.num.natAbs)) ?_
  refine jm (st (be y.den)) ?_
  refine jz fun X4 hX4 => ?_
  have hB0 := hB0.bel hX4
  have hB1 := hB1.bel hX4
  have hB2 := hB2.bel hX4
  have hD5 := hD5.bel hX4
  have hD6 := hD6.bel hX4
  have hb := bel_next hb hX4
  clear hX4
  go_upto_region 5 with (fail)
  refine jp ?_
  refine jm (st (be x.num.natAbs)) ?_
  refine jm (st (be y.den)) ?_
  refine jc (st (be (x.num.natAbs * y.den))) (fun X hX hF => mo (rmulC (be x.num.natAbs) (be y.den) X (by first | omega | decide) (by first | omega | decide)) (by rw [val_be, val_be])) ?_
  refine jm (st (be (x.num.natAbs * y.den))) ?_
  refine jz fun X5 hX5 => ?_
  have hB0 := hB0.bel hX5
  have hB1 := hB1.bel hX5
  have hB2 := hB2.bel hX5
  have hD5 := hD5.bel hX5
  have hD6 := hD6.bel hX5
  have hb := bel_next hb hX5
  clear hX5
  go_upto_region 6 with (fail)
  refine jp ?_
  refine jm (st (be y.num.natAbs)) ?_
  refine jm (st (be x.den)) ?_
  refine jc (st (be (y.num.natAbs * x.den))) (fun X hX hF => mo (rmulC (be y.num.natAbs) (be x.den) X (by first | omega | decide) (by first | omega | decide)) (by rw [val_be, val_be])) ?_
  refine jm (st (be (y.num.natAbs * x.den))) ?_
  refine jz fun X6 hX6 => ?_
  have hB0 := hB0.bel hX6
  have hB1 := hB1.bel hX6
  have hB2 := hB2.bel hX6
  have hD5 := hD5.bel hX6
  have hD6 := hD6.bel hX6
  have hb := bel_next hb hX6
  clear hX6
  go_upto_region 7 with (fail)
  refine jp ?_
  refine jm (st (be x.den)) ?_
  refine jm (st (be y.den)) ?_
  refine jc (st (be (x.den * y.den))) (fun X hX hF => mo (rmulC (be x.den) (be y.den) X (by first | omega | decide) (by first | omega | decide)) (by rw [val_be, val_be])) ?_
  refine jm (st (be (x.den * y.den))) ?_
  refine jz fun X7 hX7 => ?_
  have hB0 := hB0.bel hX7
  have hB1 := hB1.bel hX7
  have hB2 := hB2.bel hX7
  have hD5 := hD5.bel hX7
  have hD6 := hD6.bel hX7
  have hb := bel_next hb hX7
  clear hX7
  go_upto_region 8 with (fail)
  refine jp ?_
  refine jn (.pointer (some ⟨g5, 0, none⟩)) ?_
  refine jf (.bool false) hD5 0 load_bool ?_
  refine jn (.pointer (some ⟨g6, 0, none⟩)) ?_
  refine jf (.bool true) hD6 0 load_bool ?_
  refine jm (.bool false) ?_
  refine jz fun X8 hX8 => ?_
  have hB0 := hB0.bel hX8
  have hB1 := hB1.bel hX8
  have hB2 := hB2.bel hX8
  have hD5 := hD5.bel hX8
  have hD6 := hD6.bel hX8
  have hb := bel_next hb hX8
  clear hX8
  go_upto_region 10 with (fail)
  refine jp ?_
  refine jm (st (be (x.num.natAbs * y.den))) ?_
  refine jm (st (be (y.num.natAbs * x.den))) ?_
  refine jc (.int .i64 (cmpI (((x.num.natAbs * y.den) : Nat) : Int) (((y.num.natAbs * x.den) : Nat) : Int))) (fun X hX hF => mo (rcmpC (be (x.num.natAbs * y.den)) (be (y.num.natAbs * x.den)) X (by first | omega | decide) (by first | omega | decide)) (by rw [val_be, val_be])) ?_
  refine jv (.bool true) (exec_geq _ _ _ _ (by rfl) .i64 (cmpI (((x.num.natAbs * y.den) : Nat) : Int) (((y.num.natAbs * x.den) : Nat) : Int)) 0 (by rfl) (by rfl) true (decide_eq_true (by unfold cmpI; split; omega; split <;> omega))) ?_
  refine jz fun X9 hX9 => ?_
  have hB0 := hB0.bel hX9
  have hB1 := hB1.bel hX9
  have hB2 := hB2.bel hX9
  have hD5 := hD5.bel hX9
  have hD6 := hD6.bel hX9
  have hb := bel_next hb hX9
  clear hX9
  go_upto_region 11 with (fail)
  refine lx_region_tail [] (by kernel_rfl) (by kernel_rfl) (by kernel_rfl) rfl (lasts_nil) ?_
  simp only [its, List.dropLast, Nat.zero_add, Nat.reduceAdd]
  refine jn (.pointer (some ⟨g5, 0, none⟩)) ?_
  refine jf (.bool false) hD5 0 load_bool ?_
  refine jm (st (be (x.num.natAbs * y.den))) ?_
  refine jm (st (be (y.num.natAbs * x.den))) ?_
  refine jc (.agg #[st (be ((x.num.natAbs * y.den) - (y.num.natAbs * x.den))), .int .i64 0]) (fun X hX hF => mo (rsubC (be (x.num.natAbs * y.den)) (be (y.num.natAbs * x.den)) X (by first | omega | decide) (by first | omega | decide) (by rw [val_be, val_be]; omega)) (by rw [val_be, val_be])) ?_
  refine jm (st (be ((x.num.natAbs * y.den) - (y.num.natAbs * x.den)))) ?_
  refine jm (st (be (x.den * y.den))) ?_
  refine jc (.agg #[.bool (rN (mkRat (sg false ((x.num.natAbs * y.den) - (y.num.natAbs * x.den))) (x.den * y.den))), st (rP (mkRat (sg false ((x.num.natAbs * y.den) - (y.num.natAbs * x.den))) (x.den * y.den))), st (rD (mkRat (sg false ((x.num.natAbs * y.den) - (y.num.natAbs * x.den))) (x.den * y.den)))]) (fun X hX hF => lowS false ((x.num.natAbs * y.den) - (y.num.natAbs * x.den)) (x.den * y.den) X HDP.out (by first | omega | decide) (by first | omega | decide)) ?_
  refine jz fun X10 hX10 => ?_
  have hB0 := hB0.bel hX10
  have hB1 := hB1.bel hX10
  have hB2 := hB2.bel hX10
  have hD5 := hD5.bel hX10
  have hD6 := hD6.bel hX10
  have hb := bel_next hb hX10
  clear hX10
  refine osb 23 4 60 (w.heap.size + 2) 23 hB2 [.bool (rN (mkRat (sg false ((x.num.natAbs * y.den) - (y.num.natAbs * x.den))) (x.den * y.den))), .string ⟨(rP (mkRat (sg false ((x.num.natAbs * y.den) - (y.num.natAbs * x.den))) (x.den * y.den))).toArray⟩, .string ⟨(rD (mkRat (sg false ((x.num.natAbs * y.den) - (y.num.natAbs * x.den))) (x.den * y.den))).toArray⟩] info_rat ?_
  intro w9 hR9 hO9 hB9 hs9
  have hb9 := hB9 _ _ hb (by omega)
  clear hO9 hB9
  go_wp2
  refine post_cell rfl rfl (by rfl) Tryz.underlying23 rfl hR9 info_rat ⟨by rw [HK.out], hb9⟩
theorem add5_false_true_lt (n : Bool) (p q : List UInt8) (n' : Bool) (p' q' : List UInt8) (x y : Rat) (HX : Hid (rq n p q = x)) (HY : Hid (rq n' p' q' = y)) (w : World) (h : tz p q 1000000) (h' : tz p' q' 1000000) (sx : szR x 1000000) (sy : szR y 1000000) (HM : Hid (rN x = false)) (HN : Hid (rN y = true)) (HK : Hid (mkRat (sg true ((y.num.natAbs * x.den) - (x.num.natAbs * y.den))) (x.den * y.den) = x + y)) (hc : (x.num.natAbs * y.den) < (y.num.natAbs * x.den)) : Calls Tryz.prog 23 #[.agg #[.bool n, .string ⟨p.toArray⟩, .string ⟨q.toArray⟩], .agg #[.bool n', .string ⟨p'.toArray⟩, .string ⟨q'.toArray⟩]] w fun e w' => e = .returned (rbv (x + y)) ∧ Since w w' := by
  have lpe := be_mulL sx.1 sy.2
  have lqd := be_mulL sy.1 sx.2
  have lde := be_mulL sx.2 sy.2
  have lsum := be_addL lpe lqd
  have l2 := be_leL (Nat.sub_le (x.num.natAbs * y.den) (y.num.natAbs * x.den)) lpe
  have l3 := be_leL (Nat.sub_le (y.num.natAbs * x.den) (x.num.natAbs * y.den)) lqd
  have l4 := sx.1
  have l5 := sx.2
  have l6 := sy.1
  have l7 := sy.2
  have HDP : Hid (0 < (x.den * y.den)) := Nat.mul_pos (Nat.pos_of_ne_zero x.den_nz) (Nat.pos_of_ne_zero y.den_nz)
  go_enter Tryz.func23, Tryz.ntmps23
  go_upto_region 1 with (fail)
  obtain ⟨W0, hW0, hB0, hB1, hB2, hb⟩ := start3 w 23 23 23 [.bool n, .string ⟨p.toArray⟩, .string ⟨q.toArray⟩] [.bool n', .string ⟨p'.toArray⟩, .string ⟨q'.toArray⟩] [.bool false, .string ⟨#[]⟩, .string ⟨#[]⟩]
  rw [← hW0]
  clear hW0
  refine jq 2 ?_
  refine ja hB0 Tryz.underlying23 (by rfl) info_rat ?_
  refine jc (rt false (rP x) (rD x)) (fun X hX hF => mo (cleanS n p q HX.out X h) (by rw [rbv_n HM.out])) ?_
  refine jz fun X1 hX1 => ?_
  have hB0 := hB0.bel hX1
  have hB1 := hB1.bel hX1
  have hB2 := hB2.bel hX1
  have hb := bel_next hb hX1
  clear hX1
  go_upto_region 2 with (refine osn 23 5 15 #[.bool false, .string ⟨(rP x).toArray⟩, .string ⟨(rD x).toArray⟩] info_rat ?_)
  obtain ⟨Y1, hY9, hD5, hS9⟩ := start1 X1 23 [.bool false, .string ⟨(rP x).toArray⟩, .string ⟨(rD x).toArray⟩]
  rw [← hY9]
  clear hY9
  have hgs5 := hb.size
  have hlt5x0 := hB0.lt
  have hlt5x1 := hB1.lt
  have hlt5x2 := hB2.lt
  have hB0 := hB0.bel hS9
  have hB1 := hB1.bel hS9
  have hB2 := hB2.bel hS9
  have hb := bel_next hb hS9
  clear hS9
  generalize X1.heap.size = g5 at *
  refine jq 2 ?_
  refine ja hB1 Tryz.underlying23 (by rfl) info_rat ?_
  refine jc (rt true (rP y) (rD y)) (fun X hX hF => mo (cleanS n' p' q' HY.out X h') (by rw [rbv_n HN.out])) ?_
  refine jz fun X2 hX2 => ?_
  have hB0 := hB0.bel hX2
  have hB1 := hB1.bel hX2
  have hB2 := hB2.bel hX2
  have hD5 := hD5.bel hX2
  have hb := bel_next hb hX2
  clear hX2
  go_upto_region 3 with (refine osn 23 6 17 #[.bool true, .string ⟨(rP y).toArray⟩, .string ⟨(rD y).toArray⟩] info_rat ?_)
  obtain ⟨Y2, hY9, hD6, hS9⟩ := start1 X2 23 [.bool true, .string ⟨(rP y).toArray⟩, .string ⟨(rD y).toArray⟩]
  rw [← hY9]
  clear hY9
  have hgs6 := hb.size
  have hlt6x0 := hB0.lt
  have hlt6x1 := hB1.lt
  have hlt6x2 := hB2.lt
  have hlt6x3 := hD5.lt
  have hB0 := hB0.bel hS9
  have hB1 := hB1.bel hS9
  have hB2 := hB2.bel hS9
  have hD5 := hD5.bel hS9
  have hb := bel_next hb hS9
  clear hS9
  generalize X2.heap.size = g6 at *
  refine jp ?_
  refine ja hD5 Tryz.underlying23 (by rfl) info_rat ?_
  refine jc (.tuple #[st (be x.num.natAbs), st (be x.den)]) (fun X hX hF => partsN HM.out X) ?_
  refine jm (.tuple #[st (be x.num.natAbs), st (be x.den)]) ?_
  refine jm (st (be x.num.natAbs)) ?_
  refine jm (st (be x.den)) ?_
  refine jm (st (be x.num.natAbs)) ?_
  refine jm (st (be x.den)) ?_
  refine jz fun X3 hX3 => ?_
  have hB0 := hB0.bel hX3
  have hB1 := hB1.bel hX3
  have hB2 := hB2.bel hX3
  have hD5 := hD5.bel hX3
  have hD6 := hD6.bel hX3
  have hb := bel_next hb hX3
  clear hX3
  go_upto_region 4 with (fail)
  refine jp ?_
  refine ja hD6 Tryz.underlying23 (by rfl) info_rat ?_
  refine jc (.tuple #[st (be y.num.natAbs), st (be y.den)]) (fun X hX hF => partsN HN.out X) ?_
  refine jm (.tuple #[st (be y.num.natAbs), st (be y.den)]) ?_
  refine jm (st (be y.num.natAbs)) ?_
  refine jm (st (be y.den)) ?_
  refine jm (st (be y.num.natAbs)) ?_
  refine jm (st (be y.den)) ?_
  refine jz fun X4 hX4 => ?_
  have hB0 := hB0.bel hX4
  have hB1 := hB1.bel hX4
  have hB2 := hB2.bel hX4
  have hD5 := hD5.bel hX4
  have hD6 := hD6.bel hX4
  have hb := bel_next hb hX4
  clear hX4
  go_upto_region 5 with (fail)
  refine jp ?_
  refine jm (st (be x.num.natAbs)) ?_
  refine jm (st (be y.den)) ?_
  refine jc (st (be (x.num.natAbs * y.den))) (fun X hX hF => mo (rmulC (be x.num.natAbs) (be y.den) X (by first | omega | decide) (by first | omega | decide)) (by rw [val_be, val_be])) ?_
  refine jm (st (be (x.num.natAbs * y.den))) ?_
  refine jz fun X5 hX5 => ?_
  have hB0 := hB0.bel hX5
  have hB1 := hB1.bel hX5
  have hB2 := hB2.bel hX5
  have hD5 := hD5.bel hX5
  have hD6 := hD6.bel hX5
  have hb := bel_next hb hX5
  clear hX5
  go_upto_region 6 with (fail)
  refine jp ?_
  refine jm (st (be y.num.natAbs)) ?_
  refine jm (st (be x.den)) ?_
  refine jc (st (be (y.num.natAbs * x.den))) (fun X hX hF => mo (rmulC (be y.num.natAbs) (be x.den) X (by first | omega | decide) (by first | omega | decide)) (by rw [val_be, val_be])) ?_
  refine jm (st (be (y.num.natAbs * x.den))) ?_
  refine jz fun X6 hX6 => ?_
  have hB0 := hB0.bel hX6
  have hB1 := hB1.bel hX6
  have hB2 := hB2.bel hX6
  have hD5 := hD5.bel hX6
  have hD6 := hD6.bel hX6
  have hb := bel_next hb hX6
  clear hX6
  go_upto_region 7 with (fail)
  refine jp ?_
  refine jm (st (be x.den)) ?_
  refine jm (st (be y.den)) ?_
  refine jc (st (be (x.den * y.den))) (fun X hX hF => mo (rmulC (be x.den) (be y.den) X (by first | omega | decide) (by first | omega | decide)) (by rw [val_be, val_be])) ?_
  refine jm (st (be (x.den * y.den))) ?_
  refine jz fun X7 hX7 => ?_
  have hB0 := hB0.bel hX7
  have hB1 := hB1.bel hX7
  have hB2 := hB2.bel hX7
  have hD5 := hD5.bel hX7
  have hD6 := hD6.bel hX7
  have hb := bel_next hb hX7
  clear hX7
  go_upto_region 8 with (fail)
  refine jp ?_
  refine jn (.pointer (some ⟨g5, 0, none⟩)) ?_
  refine jf (.bool false) hD5 0 load_bool ?_
  refine jn (.pointer (some ⟨g6, 0, none⟩)) ?_
  refine jf (.bool true) hD6 0 load_bool ?_
  refine jm (.bool false) ?_
  refine jz fun X8 hX8 => ?_
  have hB0 := hB0.bel hX8
  have hB1 := hB1.bel hX8
  have hB2 := hB2.bel hX8
  have hD5 := hD5.bel hX8
  have hD6 := hD6.bel hX8
  have hb := bel_next hb hX8
  clear hX8
  go_upto_region 10 with (fail)
  refine jp ?_
  refine jm (st (be (x.num.natAbs * y.den))) ?_
  refine jm (st (be (y.num.natAbs * x.den))) ?_
  refine jc (.int .i64 (cmpI (((x.num.natAbs * y.den) : Nat) : Int) (((y.num.natAbs * x.den) : Nat) : Int))) (fun X hX hF => mo (rcmpC (be (x.num.natAbs * y.den)) (be (y.num.natAbs * x.den)) X (by first | omega | decide) (by first | omega | decide)) (by rw [val_be, val_be])) ?_
  refine jv (.bool false) (exec_geq _ _ _ _ (by rfl) .i64 (cmpI (((x.num.natAbs * y.den) : Nat) : Int) (((y.num.natAbs * x.den) : Nat) : Int)) 0 (by rfl) (by rfl) false (by rw [cmpI_lt (by omega)]; rfl)) ?_
  refine jz fun X9 hX9 => ?_
  have hB0 := hB0.bel hX9
  have hB1 := hB1.bel hX9
  have hB2 := hB2.bel hX9
  have hD5 := hD5.bel hX9
  have hD6 := hD6.bel hX9
  have hb := bel_next hb hX9
  clear hX9
  go_upto_region 12 with (fail)
  refine lx_region_tail [] (by kernel_rfl) (by kernel_rfl) (by kernel_rfl) rfl (lasts_nil) ?_
  simp only [its, List.dropLast, Nat.zero_add, Nat.reduceAdd]
  refine jn (.pointer (some ⟨g6, 0, none⟩)) ?_
  refine jf (.bool true) hD6 0 load_bool ?_
  refine jm (st (be (y.num.natAbs * x.den))) ?_
  refine jm (st (be (x.num.natAbs * y.den))) ?_
  refine jc (.agg #[st (be ((y.num.natAbs * x.den) - (x.num.natAbs * y.den))), .int .i64 0]) (fun X hX hF => mo (rsubC (be (y.num.natAbs * x.den)) (be (x.num.natAbs * y.den)) X (by first | omega | decide) (by first | omega | decide) (by rw [val_be, val_be]; omega)) (by rw [val_be, val_be])) ?_
  refine jm (st (be ((y.num.natAbs * x.den) - (x.num.natAbs * y.den)))) ?_
  refine jm (st (be (x.den * y.den))) ?_
  refine jc (.agg #[.bool (rN (mkRat (sg true ((y.num.natAbs * x.den) - (x.num.natAbs * y.den))) (x.den * y.den))), st (rP (mkRat (sg true ((y.num.natAbs * x.den) - (x.num.natAbs * y.den))) (x.den * y.den))), st (rD (mkRat (sg true ((y.num.natAbs * x.den) - (x.num.natAbs * y.den))) (x.den * y.den)))]) (fun X hX hF => lowS true ((y.num.natAbs * x.den) - (x.num.natAbs * y.den)) (x.den * y.den) X HDP.out (by first | omega | decide) (by first | omega | decide)) ?_
  refine jz fun X10 hX10 => ?_
  have hB0 := hB0.bel hX10
  have hB1 := hB1.bel hX10
  have hB2 := hB2.bel hX10
  have hD5 := hD5.bel hX10
  have hD6 := hD6.bel hX10
  have hb := bel_next hb hX10
  clear hX10
  refine osb 23 4 68 (w.heap.size + 2) 23 hB2 [.bool (rN (mkRat (sg true ((y.num.natAbs * x.den) - (x.num.natAbs * y.den))) (x.den * y.den))), .string ⟨(rP (mkRat (sg true ((y.num.natAbs * x.den) - (x.num.natAbs * y.den))) (x.den * y.den))).toArray⟩, .string ⟨(rD (mkRat (sg true ((y.num.natAbs * x.den) - (x.num.natAbs * y.den))) (x.den * y.den))).toArray⟩] info_rat ?_
  intro w9 hR9 hO9 hB9 hs9
  have hb9 := hB9 _ _ hb (by omega)
  clear hO9 hB9
  go_wp2
  refine post_cell rfl rfl (by rfl) Tryz.underlying23 rfl hR9 info_rat ⟨by rw [HK.out], hb9⟩
theorem add5_false_false_same (n : Bool) (p q : List UInt8) (n' : Bool) (p' q' : List UInt8) (x y : Rat) (HX : Hid (rq n p q = x)) (HY : Hid (rq n' p' q' = y)) (w : World) (h : tz p q 1000000) (h' : tz p' q' 1000000) (sx : szR x 1000000) (sy : szR y 1000000) (HM : Hid (rN x = false)) (HN : Hid (rN y = false)) (HK : Hid (mkRat (sg false ((x.num.natAbs * y.den) + (y.num.natAbs * x.den))) (x.den * y.den) = x + y)) : Calls Tryz.prog 23 #[.agg #[.bool n, .string ⟨p.toArray⟩, .string ⟨q.toArray⟩], .agg #[.bool n', .string ⟨p'.toArray⟩, .string ⟨q'.toArray⟩]] w fun e w' => e = .returned (rbv (x + y)) ∧ Since w w' := by
  have lpe := be_mulL sx.1 sy.2
  have lqd := be_mulL sy.1 sx.2
  have lde := be_mulL sx.2 sy.2
  have lsum := be_addL lpe lqd
  have l2 := be_leL (Nat.sub_le (x.num.natAbs * y.den) (y.num.natAbs * x.den)) lpe
  have l3 := be_leL (Nat.sub_le (y.num.natAbs * x.den) (x.num.natAbs * y.den)) lqd
  have l4 := sx.1
  have l5 := sx.2
  have l6 := sy.1
  have l7 := sy.2
  have HDP : Hid (0 < (x.den * y.den)) := Nat.mul_pos (Nat.pos_of_ne_zero x.den_nz) (Nat.pos_of_ne_zero y.den_nz)
  go_enter Tryz.func23, Tryz.ntmps23
  go_upto_region 1 with (fail)
  obtain ⟨W0, hW0, hB0, hB1, hB2, hb⟩ := start3 w 23 23 23 [.bool n, .string ⟨p.toArray⟩, .string ⟨q.toArray⟩] [.bool n', .string ⟨p'.toArray⟩, .string ⟨q'.toArray⟩] [.bool false, .string ⟨#[]⟩, .string ⟨#[]⟩]
  rw [← hW0]
  clear hW0
  refine jq 2 ?_
  refine ja hB0 Tryz.underlying23 (by rfl) info_rat ?_
  refine jc (rt false (rP x) (rD x)) (fun X hX hF => mo (cleanS n p q HX.out X h) (by rw [rbv_n HM.out])) ?_
  refine jz fun X1 hX1 => ?_
  have hB0 := hB0.bel hX1
  have hB1 := hB1.bel hX1
  have hB2 := hB2.bel hX1
  have hb := bel_next hb hX1
  clear hX1
  go_upto_region 2 with (refine osn 23 5 15 #[.bool false, .string ⟨(rP x).toArray⟩, .string ⟨(rD x).toArray⟩] info_rat ?_)
  obtain ⟨Y1, hY9, hD5, hS9⟩ := start1 X1 23 [.bool false, .string ⟨(rP x).toArray⟩, .string ⟨(rD x).toArray⟩]
  rw [← hY9]
  clear hY9
  have hgs5 := hb.size
  have hlt5x0 := hB0.lt
  have hlt5x1 := hB1.lt
  have hlt5x2 := hB2.lt
  have hB0 := hB0.bel hS9
  have hB1 := hB1.bel hS9
  have hB2 := hB2.bel hS9
  have hb := bel_next hb hS9
  clear hS9
  generalize X1.heap.size = g5 at *
  refine jq 2 ?_
  refine ja hB1 Tryz.underlying23 (by rfl) info_rat ?_
  refine jc (rt false (rP y) (rD y)) (fun X hX hF => mo (cleanS n' p' q' HY.out X h') (by rw [rbv_n HN.out])) ?_
  refine jz fun X2 hX2 => ?_
  have hB0 := hB0.bel hX2
  have hB1 := hB1.bel hX2
  have hB2 := hB2.bel hX2
  have hD5 := hD5.bel hX2
  have hb := bel_next hb hX2
  clear hX2
  go_upto_region 3 with (refine osn 23 6 17 #[.bool false, .string ⟨(rP y).toArray⟩, .string ⟨(rD y).toArray⟩] info_rat ?_)
  obtain ⟨Y2, hY9, hD6, hS9⟩ := start1 X2 23 [.bool false, .string ⟨(rP y).toArray⟩, .string ⟨(rD y).toArray⟩]
  rw [← hY9]
  clear hY9
  have hgs6 := hb.size
  have hlt6x0 := hB0.lt
  have hlt6x1 := hB1.lt
  have hlt6x2 := hB2.lt
  have hlt6x3 := hD5.lt
  have hB0 := hB0.bel hS9
  have hB1 := hB1.bel hS9
  have hB2 := hB2.bel hS9
  have hD5 := hD5.bel hS9
  have hb := bel_next hb hS9
  clear hS9
  generalize X2.heap.size = g6 at *
  refine jp ?_
  refine ja hD5 Tryz.underlying23 (by rfl) info_rat ?_
  refine jc (.tuple #[st (be x.num.natAbs), st (be x.den)]) (fun X hX hF => partsN HM.out X) ?_
  refine jm (.tuple #[st (be x.num.natAbs), st (be x.den)]) ?_
  refine jm (st (be x.num.natAbs)) ?_
  refine jm (st (be x.den)) ?_
  refine jm (st (be x.num.natAbs)) ?_
  refine jm (st (be x.den)) ?_
  refine jz fun X3 hX3 => ?_
  have hB0 := hB0.bel hX3
  have hB1 := hB1.bel hX3
  have hB2 := hB2.bel hX3
  have hD5 := hD5.bel hX3
  have hD6 := hD6.bel hX3
  have hb := bel_next hb hX3
  clear hX3
  go_upto_region 4 with (fail)
  refine jp ?_
  refine ja hD6 Tryz.underlying23 (by rfl) info_rat ?_
  refine jc (.tuple #[st (be y.num.natAbs), st (be y.den)]) (fun X hX hF => partsN HN.out X) ?_
  refine jm (.tuple #[st (be y.num.natAbs), st (be y.den)]) ?_
  refine jm (st (be y.num.natAbs)) ?_
  refine jm (st (be y.den)) ?_
  refine jm (st (be y.num.natAbs)) ?_
  refine jm (st (be y.den)) ?_
  refine jz fun X4 hX4 => ?_
  have hB0 := hB0.bel hX4
  have hB1 := hB1.bel hX4
  have hB2 := hB2.bel hX4
  have hD5 := hD5.bel hX4
  have hD6 := hD6.bel hX4
  have hb := bel_next hb hX4
  clear hX4
  go_upto_region 5 with (fail)
  refine jp ?_
  refine jm (st (be x.num.natAbs)) ?_
  refine jm (st (be y.den)) ?_
  refine jc (st (be (x.num.natAbs * y.den))) (fun X hX hF => mo (rmulC (be x.num.natAbs) (be y.den) X (by first | omega | decide) (by first | omega | decide)) (by rw [val_be, val_be])) ?_
  refine jm (st (be (x.num.natAbs * y.den))) ?_
  refine jz fun X5 hX5 => ?_
  have hB0 := hB0.bel hX5
  have hB1 := hB1.bel hX5
  have hB2 := hB2.bel hX5
  have hD5 := hD5.bel hX5
  have hD6 := hD6.bel hX5
  have hb := bel_next hb hX5
  clear hX5
  go_upto_region 6 with (fail)
  refine jp ?_
  refine jm (st (be y.num.natAbs)) ?_
  refine jm (st (be x.den)) ?_
  refine jc (st (be (y.num.natAbs * x.den))) (fun X hX hF => mo (rmulC (be y.num.natAbs) (be x.den) X (by first | omega | decide) (by first | omega | decide)) (by rw [val_be, val_be])) ?_
  refine jm (st (be (y.num.natAbs * x.den))) ?_
  refine jz fun X6 hX6 => ?_
  have hB0 := hB0.bel hX6
  have hB1 := hB1.bel hX6
  have hB2 := hB2.bel hX6
  have hD5 := hD5.bel hX6
  have hD6 := hD6.bel hX6
  have hb := bel_next hb hX6
  clear hX6
  go_upto_region 7 with (fail)
  refine jp ?_
  refine jm (st (be x.den)) ?_
  refine jm (st (be y.den)) ?_
  refine jc (st (be (x.den * y.den))) (fun X hX hF => mo (rmulC (be x.den) (be y.den) X (by first | omega | decide) (by first | omega | decide)) (by rw [val_be, val_be])) ?_
  refine jm (st (be (x.den * y.den))) ?_
  refine jz fun X7 hX7 => ?_
  have hB0 := hB0.bel hX7
  have hB1 := hB1.bel hX7
  have hB2 := hB2.bel hX7
  have hD5 := hD5.bel hX7
  have hD6 := hD6.bel hX7
  have hb := bel_next hb hX7
  clear hX7
  go_upto_region 8 with (fail)
  refine jp ?_
  refine jn (.pointer (some ⟨g5, 0, none⟩)) ?_
  refine jf (.bool false) hD5 0 load_bool ?_
  refine jn (.pointer (some ⟨g6, 0, none⟩)) ?_
  refine jf (.bool false) hD6 0 load_bool ?_
  refine jm (.bool true) ?_
  refine jz fun X8 hX8 => ?_
  have hB0 := hB0.bel hX8
  have hB1 := hB1.bel hX8
  have hB2 := hB2.bel hX8
  have hD5 := hD5.bel hX8
  have hD6 := hD6.bel hX8
  have hb := bel_next hb hX8
  clear hX8
  go_upto_region 9 with (fail)
  refine lx_region_tail [] (by kernel_rfl) (by kernel_rfl) (by kernel_rfl) rfl (lasts_nil) ?_
  simp only [its, List.dropLast, Nat.zero_add, Nat.reduceAdd]
  refine jn (.pointer (some ⟨g5, 0, none⟩)) ?_
  refine jf (.bool false) hD5 0 load_bool ?_
  refine jm (st (be (x.num.natAbs * y.den))) ?_
  refine jm (st (be (y.num.natAbs * x.den))) ?_
  refine jc (st (be ((x.num.natAbs * y.den) + (y.num.natAbs * x.den)))) (fun X hX hF => mo (raddC (be (x.num.natAbs * y.den)) (be (y.num.natAbs * x.den)) X (by first | omega | decide) (by first | omega | decide)) (by rw [val_be, val_be])) ?_
  refine jm (st (be (x.den * y.den))) ?_
  refine jc (.agg #[.bool (rN (mkRat (sg false ((x.num.natAbs * y.den) + (y.num.natAbs * x.den))) (x.den * y.den))), st (rP (mkRat (sg false ((x.num.natAbs * y.den) + (y.num.natAbs * x.den))) (x.den * y.den))), st (rD (mkRat (sg false ((x.num.natAbs * y.den) + (y.num.natAbs * x.den))) (x.den * y.den)))]) (fun X hX hF => lowS false ((x.num.natAbs * y.den) + (y.num.natAbs * x.den)) (x.den * y.den) X HDP.out (by first | omega | decide) (by first | omega | decide)) ?_
  refine jz fun X9 hX9 => ?_
  have hB0 := hB0.bel hX9
  have hB1 := hB1.bel hX9
  have hB2 := hB2.bel hX9
  have hD5 := hD5.bel hX9
  have hD6 := hD6.bel hX9
  have hb := bel_next hb hX9
  clear hX9
  refine osb 23 4 48 (w.heap.size + 2) 23 hB2 [.bool (rN (mkRat (sg false ((x.num.natAbs * y.den) + (y.num.natAbs * x.den))) (x.den * y.den))), .string ⟨(rP (mkRat (sg false ((x.num.natAbs * y.den) + (y.num.natAbs * x.den))) (x.den * y.den))).toArray⟩, .string ⟨(rD (mkRat (sg false ((x.num.natAbs * y.den) + (y.num.natAbs * x.den))) (x.den * y.den))).toArray⟩] info_rat ?_
  intro w9 hR9 hO9 hB9 hs9
  have hb9 := hB9 _ _ hb (by omega)
  clear hO9 hB9
  go_wp2
  refine post_cell rfl rfl (by rfl) Tryz.underlying23 rfl hR9 info_rat ⟨by rw [HK.out], hb9⟩
theorem addS (n : Bool) (p q : List UInt8) (n' : Bool) (p' q' : List UInt8) {x : Rat} (hx : rq n p q = x) {y : Rat} (hy : rq n' p' q' = y) (w : World) (h : tz p q 1000000) (h' : tz p' q' 1000000) : Calls Tryz.prog 23 #[.agg #[.bool n, .string ⟨p.toArray⟩, .string ⟨q.toArray⟩], .agg #[.bool n', .string ⟨p'.toArray⟩, .string ⟨q'.toArray⟩]] w fun e w' => e = .returned (rbv (x + y)) ∧ Since w w' := by
  have sx := szR_tz hx h
  have sy := szR_tz hy h'
  have key := add_fr (rN x) (rN y) x.num.natAbs y.num.natAbs (Nat.pos_of_ne_zero x.den_nz) (Nat.pos_of_ne_zero y.den_nz)
  rw [rb_mk, rb_mk] at key
  rcases hm : rN x with _ | _ <;> rcases hn : rN y with _ | _ <;> rw [hm, hn] at key
  · exact add5_false_false_same n p q n' p' q' x y hx hy w h h' sx sy hm hn (by rw [key]; exact congrArg (mkRat · _) (sg_add_same _ _ _).symm)
  · rcases Nat.lt_or_ge (x.num.natAbs * y.den) (y.num.natAbs * x.den) with hc | hc
    · exact add5_false_true_lt n p q n' p' q' x y hx hy w h h' sx sy hm hn (by rw [key]; exact congrArg (mkRat · _) (sg_add_lt (by decide) hc).symm) hc
    · exact add5_false_true_ge n p q n' p' q' x y hx hy w h h' sx sy hm hn (by rw [key]; exact congrArg (mkRat · _) (sg_add_ge (by decide) hc).symm) hc
  · rcases Nat.lt_or_ge (x.num.natAbs * y.den) (y.num.natAbs * x.den) with hc | hc
    · exact add5_true_false_lt n p q n' p' q' x y hx hy w h h' sx sy hm hn (by rw [key]; exact congrArg (mkRat · _) (sg_add_lt (by decide) hc).symm) hc
    · exact add5_true_false_ge n p q n' p' q' x y hx hy w h h' sx sy hm hn (by rw [key]; exact congrArg (mkRat · _) (sg_add_ge (by decide) hc).symm) hc
  · exact add5_true_true_same n p q n' p' q' x y hx hy w h h' sx sy hm hn (by rw [key]; exact congrArg (mkRat · _) (sg_add_same _ _ _).symm)
end Go.Proofs.YtchhlgcakjjncaaGreatDoor
