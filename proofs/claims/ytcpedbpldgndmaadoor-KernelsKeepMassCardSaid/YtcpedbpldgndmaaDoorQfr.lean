/-
  rat: fractions.
-/
import Derived.Test.YtcpedbpldgndmaaDoorQva
set_option linter.unusedSimpArgs false
set_option linter.unusedVariables false
set_option maxRecDepth 100000
set_option maxHeartbeats 1600000
namespace Go.Proofs.YtcpedbpldgndmaaDoor
open Go.RowKit
theorem low0 (n : Bool) (p d : Nat) (w : World) (hd : 0 < d) (hp : (be p).length ≤ 4194300) (hq : (be d).length ≤ 4194300) (h0 : p = 0) : Calls Tryd.prog 44 #[.agg #[.bool n, .string ⟨(be p).toArray⟩, .string ⟨(be d).toArray⟩]] w fun e w' => e = .returned (rbv (mkRat (sg n p) d)) ∧ Since w w' := by
  have HE : Hid (be p = []) := be_nil.2 h0
  have HX : Hid (rN (mkRat (sg n p) d) = false ∧ rP (mkRat (sg n p) d) = [] ∧ rD (mkRat (sg n p) d) = []) := by show _ ∧ _; rw [h0, low_zero]; exact parts_zero
  clear h0
  go_enter Tryd.func44, Tryd.ntmps44
  go_upto_region 1 with (fail)
  obtain ⟨W0, hW0, hB0, hB1, hb⟩ := start2 w 73 38 [.bool n, .string ⟨(be p).toArray⟩, .string ⟨(be d).toArray⟩] [.bool false, .string ⟨#[]⟩, .string ⟨#[]⟩]
  rw [← hW0]
  clear hW0
  refine jp ?_
  refine jn (.pointer (some ⟨w.heap.size, 1, none⟩)) ?_
  refine jf (st (be p)) hB0 1 load_str ?_
  refine jv (.bool true) (exec_eqsB _ _ _ _ (by rfl) (be p) ([] : List UInt8) (by rfl) (by rfl) true (eqs_t HE.out)) ?_
  refine jz fun X1 hX1 => ?_
  have hB0 := hB0.bel hX1
  have hB1 := hB1.bel hX1
  have hb := bel_next hb hX1
  clear hX1
  go_upto_region 2 with (fail)
  refine jq 1 ?_
  refine jn (rz) ?_
  refine jz fun X2 hX2 => ?_
  have hB0 := hB0.bel hX2
  have hB1 := hB1.bel hX2
  have hb := bel_next hb hX2
  clear hX2
  refine osb 38 2 13 (w.heap.size + 1) 38 hB1 [.bool false, .string ⟨#[]⟩, .string ⟨#[]⟩] info_rat ?_
  intro w9 hR9 hO9 hB9 hs9
  have hb9 := hB9 _ _ hb (by omega)
  clear hO9 hB9
  go_wp2
  refine post_cell rfl rfl (by rfl) Tryd.underlying38 rfl hR9 info_rat ⟨by rw [rbv_of HX.out], hb9⟩
theorem low1 (n : Bool) (p d : Nat) (w : World) (hd : 0 < d) (hp : (be p).length ≤ 4194300) (hq : (be d).length ≤ 4194300) (h0 : 0 < p) : Calls Tryd.prog 44 #[.agg #[.bool n, .string ⟨(be p).toArray⟩, .string ⟨(be d).toArray⟩]] w fun e w' => e = .returned (rbv (mkRat (sg n p) d)) ∧ Since w w' := by
  have HE : Hid (be p ≠ []) := be_ne h0
  have HX := Lib.hid (low_parts n h0 hd)
  have HGP : Hid (0 < Nat.gcd p d) := Nat.gcd_pos_of_pos_left d h0
  have hgl := be_mono (Nat.gcd_le_left d h0)
  clear h0
  go_enter Tryd.func44, Tryd.ntmps44
  go_upto_region 1 with (fail)
  obtain ⟨W0, hW0, hB0, hB1, hb⟩ := start2 w 73 38 [.bool n, .string ⟨(be p).toArray⟩, .string ⟨(be d).toArray⟩] [.bool false, .string ⟨#[]⟩, .string ⟨#[]⟩]
  rw [← hW0]
  clear hW0
  refine jp ?_
  refine jn (.pointer (some ⟨w.heap.size, 1, none⟩)) ?_
  refine jf (st (be p)) hB0 1 load_str ?_
  refine jv (.bool false) (exec_eqsB _ _ _ _ (by rfl) (be p) ([] : List UInt8) (by rfl) (by rfl) false (eqs_f HE.out)) ?_
  refine jz fun X1 hX1 => ?_
  have hB0 := hB0.bel hX1
  have hB1 := hB1.bel hX1
  have hb := bel_next hb hX1
  clear hX1
  go_upto_region 3 with (fail)
  refine jp ?_
  refine jn (.pointer (some ⟨w.heap.size, 1, none⟩)) ?_
  refine jf (st (be p)) hB0 1 load_str ?_
  refine jn (.pointer (some ⟨w.heap.size, 2, none⟩)) ?_
  refine jf (st (be d)) hB0 2 load_str ?_
  refine jc (st (be (Nat.gcd p d))) (fun X hX hF => mo (ngcdC (be p) (be d) X (by omega) (by omega)) (by rw [val_be, val_be])) ?_
  refine jm (st (be (Nat.gcd p d))) ?_
  refine jz fun X2 hX2 => ?_
  have hB0 := hB0.bel hX2
  have hB1 := hB1.bel hX2
  have hb := bel_next hb hX2
  clear hX2
  go_upto_region 4 with (fail)
  refine jp ?_
  refine jn (.pointer (some ⟨w.heap.size, 1, none⟩)) ?_
  refine jf (st (be p)) hB0 1 load_str ?_
  refine jm (st (be (Nat.gcd p d))) ?_
  refine jc (.tuple #[st (be (p / (Nat.gcd p d))), st (be (p % (Nat.gcd p d))), .int .i64 0]) (fun X hX hF => mo (ndivC (be p) (be (Nat.gcd p d)) X (by omega) (by omega) (by rw [val_be]; exact HGP.out)) (by simp only [val_be])) ?_
  refine jm (.tuple #[st (be (p / (Nat.gcd p d))), st (be (p % (Nat.gcd p d))), .int .i64 0]) ?_
  refine jm (st (be (p / (Nat.gcd p d)))) ?_
  refine jm (st (be (p % (Nat.gcd p d)))) ?_
  refine jm (.int .i64 0) ?_
  refine jm (st (be (p / (Nat.gcd p d)))) ?_
  refine jm (st (be (p % (Nat.gcd p d)))) ?_
  refine jm (.int .i64 0) ?_
  refine jz fun X3 hX3 => ?_
  have hB0 := hB0.bel hX3
  have hB1 := hB1.bel hX3
  have hb := bel_next hb hX3
  clear hX3
  go_upto_region 5 with (fail)
  refine jp ?_
  refine jn (.pointer (some ⟨w.heap.size, 2, none⟩)) ?_
  refine jf (st (be d)) hB0 2 load_str ?_
  refine jm (st (be (Nat.gcd p d))) ?_
  refine jc (.tuple #[st (be (d / (Nat.gcd p d))), st (be (d % (Nat.gcd p d))), .int .i64 0]) (fun X hX hF => mo (ndivC (be d) (be (Nat.gcd p d)) X (by omega) (by omega) (by rw [val_be]; exact HGP.out)) (by simp only [val_be])) ?_
  refine jm (.tuple #[st (be (d / (Nat.gcd p d))), st (be (d % (Nat.gcd p d))), .int .i64 0]) ?_
  refine jm (st (be (d / (Nat.gcd p d)))) ?_
  refine jm (st (be (d % (Nat.gcd p d)))) ?_
  refine jm (.int .i64 0) ?_
  refine jm (st (be (d / (Nat.gcd p d)))) ?_
  refine jm (st (be (d % (Nat.gcd p d)))) ?_
  refine jm (.int .i64 0) ?_
  refine jz fun X4 hX4 => ?_
  have hB0 := hB0.bel hX4
  have hB1 := hB1.bel hX4
  have hb := bel_next hb hX4
  clear hX4
  go_upto_region 6 with (fail)
  refine jq 5 ?_
  refine jn (.pointer (some ⟨w.heap.size, 0, none⟩)) ?_
  refine jf (.bool n) hB0 0 load_bool ?_
  refine jm (st (be (p / (Nat.gcd p d)))) ?_
  refine jm (st (be (d / (Nat.gcd p d)))) ?_
  refine jn (rt n (be (p / (Nat.gcd p d))) (be (d / (Nat.gcd p d)))) ?_
  refine jz fun X5 hX5 => ?_
  have hB0 := hB0.bel hX5
  have hB1 := hB1.bel hX5
  have hb := bel_next hb hX5
  clear hX5
  refine osb 38 2 39 (w.heap.size + 1) 38 hB1 [.bool n, .string ⟨(be (p / (Nat.gcd p d))).toArray⟩, .string ⟨(be (d / (Nat.gcd p d))).toArray⟩] info_rat ?_
  intro w9 hR9 hO9 hB9 hs9
  have hb9 := hB9 _ _ hb (by omega)
  clear hO9 hB9
  go_wp2
  refine post_cell rfl rfl (by rfl) Tryd.underlying38 rfl hR9 info_rat ⟨by rw [rbv_of HX.out], hb9⟩
theorem lowQ (x : Rat) (B : Nat) (v : Value) (w : World) (h : IsF x B v w) (hB : B ≤ 4194300) : Calls Tryd.prog 44 #[v] w fun e w' => e = .returned (rbv x) ∧ Since w w' := by
  obtain ⟨n, p, d, rfl, hd, rfl, hp, hq⟩ := h
  rcases Nat.eq_zero_or_pos p with h0 | h0
  · exact low0 n p d w hd (by omega) (by omega) h0
  · exact low1 n p d w hd (by omega) (by omega) h0
theorem plus_true (p d q c B B' : Nat) (w : World) (hp : (be p).length ≤ B) (hd : (be d).length ≤ B) (hq : (be q).length ≤ B') (he : (be c).length ≤ B') (hB : B + B' ≤ 4194200)  : Calls Tryd.prog 36 #[.agg #[.bool true, .string ⟨(be p).toArray⟩, .string ⟨(be d).toArray⟩], .agg #[.bool true, .string ⟨(be q).toArray⟩, .string ⟨(be c).toArray⟩]] w fun e w' => e = .returned (.agg #[.bool true, .string ⟨(be (p * c + q * d)).toArray⟩, .string ⟨(be (d * c)).toArray⟩]) ∧ Since w w' := by
  have lpe := be_mulL hp he
  have lqd := be_mulL hq hd
  have lde := be_mulL hd he
  have lsum := be_addL lpe lqd
  go_enter Tryd.func36, Tryd.ntmps36
  go_upto_region 1 with (fail)
  obtain ⟨W0, hW0, hB0, hB1, hB2, hb⟩ := start3 w 73 73 73 [.bool true, .string ⟨(be p).toArray⟩, .string ⟨(be d).toArray⟩] [.bool true, .string ⟨(be q).toArray⟩, .string ⟨(be c).toArray⟩] [.bool false, .string ⟨#[]⟩, .string ⟨#[]⟩]
  rw [← hW0]
  clear hW0
  refine jd ?_
  refine jn (.pointer (some ⟨w.heap.size, 1, none⟩)) ?_
  refine jf (st (be p)) hB0 1 load_str ?_
  refine jn (.pointer (some ⟨(w.heap.size + 1), 2, none⟩)) ?_
  refine jf (st (be c)) hB1 2 load_str ?_
  refine jc (st (be (p * c))) (fun X hX hF => mo (nmulC (be p) (be c) X (by omega) (by omega)) (by rw [val_be, val_be])) ?_
  refine jn (.pointer (some ⟨(w.heap.size + 1), 1, none⟩)) ?_
  refine jf (st (be q)) hB1 1 load_str ?_
  refine jn (.pointer (some ⟨w.heap.size, 2, none⟩)) ?_
  refine jf (st (be d)) hB0 2 load_str ?_
  refine jc (st (be (q * d))) (fun X hX hF => mo (nmulC (be q) (be d) X (by omega) (by omega)) (by rw [val_be, val_be])) ?_
  refine jn (.pointer (some ⟨w.heap.size, 2, none⟩)) ?_
  refine jf (st (be d)) hB0 2 load_str ?_
  refine jn (.pointer (some ⟨(w.heap.size + 1), 2, none⟩)) ?_
  refine jf (st (be c)) hB1 2 load_str ?_
  refine jc (st (be (d * c))) (fun X hX hF => mo (nmulC (be d) (be c) X (by omega) (by omega)) (by rw [val_be, val_be])) ?_
  refine jm (st (be (p * c))) ?_
  refine jm (st (be (q * d))) ?_
  refine jm (st (be (d * c))) ?_
  refine jz fun X1 hX1 => ?_
  have hB0 := hB0.bel hX1
  have hB1 := hB1.bel hX1
  have hB2 := hB2.bel hX1
  have hb := bel_next hb hX1
  clear hX1
  go_upto_region 2 with (fail)
  refine jp ?_
  refine jn (.pointer (some ⟨w.heap.size, 0, none⟩)) ?_
  refine jf (.bool true) hB0 0 load_bool ?_
  refine jn (.pointer (some ⟨(w.heap.size + 1), 0, none⟩)) ?_
  refine jf (.bool true) hB1 0 load_bool ?_
  refine jm (.bool true) ?_
  refine jz fun X2 hX2 => ?_
  have hB0 := hB0.bel hX2
  have hB1 := hB1.bel hX2
  have hB2 := hB2.bel hX2
  have hb := bel_next hb hX2
  clear hX2
  go_upto_region 3 with (fail)
  refine lx_region_tail [] (by kernel_rfl) (by kernel_rfl) (by kernel_rfl) rfl (lasts_nil) ?_
  simp only [its, List.dropLast, Nat.zero_add, Nat.reduceAdd]
  refine jn (.pointer (some ⟨w.heap.size, 0, none⟩)) ?_
  refine jf (.bool true) hB0 0 load_bool ?_
  refine jm (st (be (p * c))) ?_
  refine jm (st (be (q * d))) ?_
  refine jc (st (be (p * c + q * d))) (fun X hX hF => mo (naddC (be (p * c)) (be (q * d)) X (by omega) (by omega)) (by rw [val_be, val_be])) ?_
  refine jm (st (be (d * c))) ?_
  refine jn (rt true (be (p * c + q * d)) (be (d * c))) ?_
  refine jz fun X3 hX3 => ?_
  have hB0 := hB0.bel hX3
  have hB1 := hB1.bel hX3
  have hB2 := hB2.bel hX3
  have hb := bel_next hb hX3
  clear hX3
  refine osb 73 4 36 (w.heap.size + 2) 73 hB2 [.bool true, .string ⟨(be (p * c + q * d)).toArray⟩, .string ⟨(be (d * c)).toArray⟩] info_fr ?_
  intro w9 hR9 hO9 hB9 hs9
  have hb9 := hB9 _ _ hb (by omega)
  clear hO9 hB9
  go_wp2
  refine post_cell rfl rfl (by rfl) Tryd.underlying73 rfl hR9 info_fr ⟨rfl, hb9⟩
theorem plus_false (p d q c B B' : Nat) (w : World) (hp : (be p).length ≤ B) (hd : (be d).length ≤ B) (hq : (be q).length ≤ B') (he : (be c).length ≤ B') (hB : B + B' ≤ 4194200)  : Calls Tryd.prog 36 #[.agg #[.bool false, .string ⟨(be p).toArray⟩, .string ⟨(be d).toArray⟩], .agg #[.bool false, .string ⟨(be q).toArray⟩, .string ⟨(be c).toArray⟩]] w fun e w' => e = .returned (.agg #[.bool false, .string ⟨(be (p * c + q * d)).toArray⟩, .string ⟨(be (d * c)).toArray⟩]) ∧ Since w w' := by
  have lpe := be_mulL hp he
  have lqd := be_mulL hq hd
  have lde := be_mulL hd he
  have lsum := be_addL lpe lqd
  go_enter Tryd.func36, Tryd.ntmps36
  go_upto_region 1 with (fail)
  obtain ⟨W0, hW0, hB0, hB1, hB2, hb⟩ := start3 w 73 73 73 [.bool false, .string ⟨(be p).toArray⟩, .string ⟨(be d).toArray⟩] [.bool false, .string ⟨(be q).toArray⟩, .string ⟨(be c).toArray⟩] [.bool false, .string ⟨#[]⟩, .string ⟨#[]⟩]
  rw [← hW0]
  clear hW0
  refine jd ?_
  refine jn (.pointer (some ⟨w.heap.size, 1, none⟩)) ?_
  refine jf (st (be p)) hB0 1 load_str ?_
  refine jn (.pointer (some ⟨(w.heap.size + 1), 2, none⟩)) ?_
  refine jf (st (be c)) hB1 2 load_str ?_
  refine jc (st (be (p * c))) (fun X hX hF => mo (nmulC (be p) (be c) X (by omega) (by omega)) (by rw [val_be, val_be])) ?_
  refine jn (.pointer (some ⟨(w.heap.size + 1), 1, none⟩)) ?_
  refine jf (st (be q)) hB1 1 load_str ?_
  refine jn (.pointer (some ⟨w.heap.size, 2, none⟩)) ?_
  refine jf (st (be d)) hB0 2 load_str ?_
  refine jc (st (be (q * d))) (fun X hX hF => mo (nmulC (be q) (be d) X (by omega) (by omega)) (by rw [val_be, val_be])) ?_
  refine jn (.pointer (some ⟨w.heap.size, 2, none⟩)) ?_
  refine jf (st (be d)) hB0 2 load_str ?_
  refine jn (.pointer (some ⟨(w.heap.size + 1), 2, none⟩)) ?_
  refine jf (st (be c)) hB1 2 load_str ?_
  refine jc (st (be (d * c))) (fun X hX hF => mo (nmulC (be d) (be c) X (by omega) (by omega)) (by rw [val_be, val_be])) ?_
  refine jm (st (be (p * c))) ?_
  refine jm (st (be (q * d))) ?_
  refine jm (st (be (d * c))) ?_
  refine jz fun X1 hX1 => ?_
  have hB0 := hB0.bel hX1
  have hB1 := hB1.bel hX1
  have hB2 := hB2.bel hX1
  have hb := bel_next hb hX1
  clear hX1
  go_upto_region 2 with (fail)
  refine jp ?_
  refine jn (.pointer (some ⟨w.heap.size, 0, none⟩)) ?_
  refine jf (.bool false) hB0 0 load_bool ?_
  refine jn (.pointer (some ⟨(w.heap.size + 1), 0, none⟩)) ?_
  refine jf (.bool false) hB1 0 load_bool ?_
  refine jm (.bool true) ?_
  refine jz fun X2 hX2 => ?_
  have hB0 := hB0.bel hX2
  have hB1 := hB1.bel hX2
  have hB2 := hB2.bel hX2
  have hb := bel_next hb hX2
  clear hX2
  go_upto_region 3 with (fail)
  refine lx_region_tail [] (by kernel_rfl) (by kernel_rfl) (by kernel_rfl) rfl (lasts_nil) ?_
  simp only [its, List.dropLast, Nat.zero_add, Nat.reduceAdd]
  refine jn (.pointer (some ⟨w.heap.size, 0, none⟩)) ?_
  refine jf (.bool false) hB0 0 load_bool ?_
  refine jm (st (be (p * c))) ?_
  refine jm (st (be (q * d))) ?_
  refine jc (st (be (p * c + q * d))) (fun X hX hF => mo (naddC (be (p * c)) (be (q * d)) X (by omega) (by omega)) (by rw [val_be, val_be])) ?_
  refine jm (st (be (d * c))) ?_
  refine jn (rt false (be (p * c + q * d)) (be (d * c))) ?_
  refine jz fun X3 hX3 => ?_
  have hB0 := hB0.bel hX3
  have hB1 := hB1.bel hX3
  have hB2 := hB2.bel hX3
  have hb := bel_next hb hX3
  clear hX3
  refine osb 73 4 36 (w.heap.size + 2) 73 hB2 [.bool false, .string ⟨(be (p * c + q * d)).toArray⟩, .string ⟨(be (d * c)).toArray⟩] info_fr ?_
  intro w9 hR9 hO9 hB9 hs9
  have hb9 := hB9 _ _ hb (by omega)
  clear hO9 hB9
  go_wp2
  refine post_cell rfl rfl (by rfl) Tryd.underlying73 rfl hR9 info_fr ⟨rfl, hb9⟩
theorem plus_lt_true (p d q c B B' : Nat) (w : World) (hp : (be p).length ≤ B) (hd : (be d).length ≤ B) (hq : (be q).length ≤ B') (he : (be c).length ≤ B') (hB : B + B' ≤ 4194200) (hlt : p * c < q * d) : Calls Tryd.prog 36 #[.agg #[.bool true, .string ⟨(be p).toArray⟩, .string ⟨(be d).toArray⟩], .agg #[.bool false, .string ⟨(be q).toArray⟩, .string ⟨(be c).toArray⟩]] w fun e w' => e = .returned (.agg #[.bool false, .string ⟨(be (q * d - p * c)).toArray⟩, .string ⟨(be (d * c)).toArray⟩]) ∧ Since w w' := by
  have lpe := be_mulL hp he
  have lqd := be_mulL hq hd
  have lde := be_mulL hd he
  have lsum := be_addL lpe lqd
  have lsub := be_leL (Nat.sub_le (q * d) (p * c)) lqd
  go_enter Tryd.func36, Tryd.ntmps36
  go_upto_region 1 with (fail)
  obtain ⟨W0, hW0, hB0, hB1, hB2, hb⟩ := start3 w 73 73 73 [.bool true, .string ⟨(be p).toArray⟩, .string ⟨(be d).toArray⟩] [.bool false, .string ⟨(be q).toArray⟩, .string ⟨(be c).toArray⟩] [.bool false, .string ⟨#[]⟩, .string ⟨#[]⟩]
  rw [← hW0]
  clear hW0
  refine jd ?_
  refine jn (.pointer (some ⟨w.heap.size, 1, none⟩)) ?_
  refine jf (st (be p)) hB0 1 load_str ?_
  refine jn (.pointer (some ⟨(w.heap.size + 1), 2, none⟩)) ?_
  refine jf (st (be c)) hB1 2 load_str ?_
  refine jc (st (be (p * c))) (fun X hX hF => mo (nmulC (be p) (be c) X (by omega) (by omega)) (by rw [val_be, val_be])) ?_
  refine jn (.pointer (some ⟨(w.heap.size + 1), 1, none⟩)) ?_
  refine jf (st (be q)) hB1 1 load_str ?_
  refine jn (.pointer (some ⟨w.heap.size, 2, none⟩)) ?_
  refine jf (st (be d)) hB0 2 load_str ?_
  refine jc (st (be (q * d))) (fun X hX hF => mo (nmulC (be q) (be d) X (by omega) (by omega)) (by rw [val_be, val_be])) ?_
  refine jn (.pointer (some ⟨w.heap.size, 2, none⟩)) ?_
  refine jf (st (be d)) hB0 2 load_str ?_
  refine jn (.pointer (some ⟨(w.heap.size + 1), 2, none⟩)) ?_
  refine jf (st (be c)) hB1 2 load_str ?_
  refine jc (st (be (d * c))) (fun X hX hF => mo (nmulC (be d) (be c) X (by omega) (by omega)) (by rw [val_be, val_be])) ?_
  refine jm (st (be (p * c))) ?_
  refine jm (st (be (q * d))) ?_
  refine jm (st (be (d * c))) ?_
  refine jz fun X1 hX1 => ?_
  have hB0 := hB0.bel hX1
  have hB1 := hB1.bel hX1
  have hB2 := hB2.bel hX1
  have hb := bel_next hb hX1
  clear hX1
  go_upto_region 2 with (fail)
  refine jp ?_
  refine jn (.pointer (some ⟨w.heap.size, 0, none⟩)) ?_
  refine jf (.bool true) hB0 0 load_bool ?_
  refine jn (.pointer (some ⟨(w.heap.size + 1), 0, none⟩)) ?_
  refine jf (.bool false) hB1 0 load_bool ?_
  refine jm (.bool false) ?_
  refine jz fun X2 hX2 => ?_
  have hB0 := hB0.bel hX2
  have hB1 := hB1.bel hX2
  have hB2 := hB2.bel hX2
  have hb := bel_next hb hX2
  clear hX2
  go_upto_region 4 with (fail)
  refine jp ?_
  refine jm (st (be (p * c))) ?_
  refine jm (st (be (q * d))) ?_
  refine jc (.int .i64 (cmpI ((p * c : Nat) : Int) ((q * d : Nat) : Int))) (fun X hX hF => mo (ncmpC (be (p * c)) (be (q * d)) X (by omega) (by omega)) (by rw [val_be, val_be])) ?_
  refine jv (.bool true) (exec_lss _ _ _ _ (by rfl) .i64 (cmpI ((p * c : Nat) : Int) ((q * d : Nat) : Int)) 0 (by rfl) (by rfl) true (by rw [cmpI_lt (by omega)]; rfl)) ?_
  refine jz fun X3 hX3 => ?_
  have hB0 := hB0.bel hX3
  have hB1 := hB1.bel hX3
  have hB2 := hB2.bel hX3
  have hb := bel_next hb hX3
  clear hX3
  go_upto_region 5 with (fail)
  refine lx_region_tail [] (by kernel_rfl) (by kernel_rfl) (by kernel_rfl) rfl (lasts_nil) ?_
  simp only [its, List.dropLast, Nat.zero_add, Nat.reduceAdd]
  refine jm (st (be (q * d))) ?_
  refine jm (st (be (p * c))) ?_
  refine jn (.pointer (some ⟨(w.heap.size + 1), 0, none⟩)) ?_
  refine jf (.bool false) hB1 0 load_bool ?_
  refine jm (st (be (q * d))) ?_
  refine jm (st (be (p * c))) ?_
  refine jn (.pointer (some ⟨w.heap.size, 0, none⟩)) ?_
  refine jz fun X4 hX4 => ?_
  have hB0 := hB0.bel hX4
  have hB1 := hB1.bel hX4
  have hB2 := hB2.bel hX4
  have hb := bel_next hb hX4
  clear hX4
  refine op_store1 rfl w.heap.size 0 73 _ hB0 (.bool false) (by simp) (fun X u h1 h2 => exec_stb _ _ (by rfl) _ _ (by rfl) (by rfl) u X h1 h2) ?_
  intro w5 hR5 hO5 hB5
  have hb := hB5 _ _ hb (by omega)
  have hB1 := hO5 _ _ _ (by omega) hB1
  have hB2 := hO5 _ _ _ (by omega) hB2
  have hB0 := hR5
  clear hR5 hO5 hB5
  go_upto_region 6 with (fail)
  refine jp ?_
  refine jm (st (be (q * d))) ?_
  refine jm (st (be (p * c))) ?_
  refine jc (.tuple #[st (be (q * d - p * c)), .int .i64 0]) (fun X hX hF => mo (nsubC (be (q * d)) (be (p * c)) X (by omega) (by omega) (by rw [val_be, val_be]; omega)) (by rw [val_be, val_be])) ?_
  refine jm (.tuple #[st (be (q * d - p * c)), .int .i64 0]) ?_
  refine jm (st (be (q * d - p * c))) ?_
  refine jm (.int .i64 0) ?_
  refine jm (st (be (q * d - p * c))) ?_
  refine jm (.int .i64 0) ?_
  refine jz fun X5 hX5 => ?_
  have hB0 := hB0.bel hX5
  have hB1 := hB1.bel hX5
  have hB2 := hB2.bel hX5
  have hb := bel_next hb hX5
  clear hX5
  go_upto_region 7 with (fail)
  refine jq 5 ?_
  refine jn (.pointer (some ⟨w.heap.size, 0, none⟩)) ?_
  refine jf (.bool false) hB0 0 load_bool ?_
  refine jm (st (be (q * d - p * c))) ?_
  refine jm (st (be (d * c))) ?_
  refine jn (rt false (be (q * d - p * c)) (be (d * c))) ?_
  refine jz fun X6 hX6 => ?_
  have hB0 := hB0.bel hX6
  have hB1 := hB1.bel hX6
  have hB2 := hB2.bel hX6
  have hb := bel_next hb hX6
  clear hX6
  refine osb 73 4 56 (w.heap.size + 2) 73 hB2 [.bool false, .string ⟨(be (q * d - p * c)).toArray⟩, .string ⟨(be (d * c)).toArray⟩] info_fr ?_
  intro w9 hR9 hO9 hB9 hs9
  have hb9 := hB9 _ _ hb (by omega)
  clear hO9 hB9
  go_wp2
  refine post_cell rfl rfl (by rfl) Tryd.underlying73 rfl hR9 info_fr ⟨rfl, hb9⟩
theorem plus_ge_true (p d q c B B' : Nat) (w : World) (hp : (be p).length ≤ B) (hd : (be d).length ≤ B) (hq : (be q).length ≤ B') (he : (be c).length ≤ B') (hB : B + B' ≤ 4194200) (hge : q * d ≤ p * c) : Calls Tryd.prog 36 #[.agg #[.bool true, .string ⟨(be p).toArray⟩, .string ⟨(be d).toArray⟩], .agg #[.bool false, .string ⟨(be q).toArray⟩, .string ⟨(be c).toArray⟩]] w fun e w' => e = .returned (.agg #[.bool true, .string ⟨(be (p * c - q * d)).toArray⟩, .string ⟨(be (d * c)).toArray⟩]) ∧ Since w w' := by
  have lpe := be_mulL hp he
  have lqd := be_mulL hq hd
  have lde := be_mulL hd he
  have lsum := be_addL lpe lqd
  have lsub := be_leL (Nat.sub_le (p * c) (q * d)) lpe
  go_enter Tryd.func36, Tryd.ntmps36
  go_upto_region 1 with (fail)
  obtain ⟨W0, hW0, hB0, hB1, hB2, hb⟩ := start3 w 73 73 73 [.bool true, .string ⟨(be p).toArray⟩, .string ⟨(be d).toArray⟩] [.bool false, .string ⟨(be q).toArray⟩, .string ⟨(be c).toArray⟩] [.bool false, .string ⟨#[]⟩, .string ⟨#[]⟩]
  rw [← hW0]
  clear hW0
  refine jd ?_
  refine jn (.pointer (some ⟨w.heap.size, 1, none⟩)) ?_
  refine jf (st (be p)) hB0 1 load_str ?_
  refine jn (.pointer (some ⟨(w.heap.size + 1), 2, none⟩)) ?_
  refine jf (st (be c)) hB1 2 load_str ?_
  refine jc (st (be (p * c))) (fun X hX hF => mo (nmulC (be p) (be c) X (by omega) (by omega)) (by rw [val_be, val_be])) ?_
  refine jn (.pointer (some ⟨(w.heap.size + 1), 1, none⟩)) ?_
  refine jf (st (be q)) hB1 1 load_str ?_
  refine jn (.pointer (some ⟨w.heap.size, 2, none⟩)) ?_
  refine jf (st (be d)) hB0 2 load_str ?_
  refine jc (st (be (q * d))) (fun X hX hF => mo (nmulC (be q) (be d) X (by omega) (by omega)) (by rw [val_be, val_be])) ?_
  refine jn (.pointer (some ⟨w.heap.size, 2, none⟩)) ?_
  refine jf (st (be d)) hB0 2 load_str ?_
  refine jn (.pointer (some ⟨(w.heap.size + 1), 2, none⟩)) ?_
  refine jf (st (be c)) hB1 2 load_str ?_
  refine jc (st (be (d * c))) (fun X hX hF => mo (nmulC (be d) (be c) X (by omega) (by omega)) (by rw [val_be, val_be])) ?_
  refine jm (st (be (p * c))) ?_
  refine jm (st (be (q * d))) ?_
  refine jm (st (be (d * c))) ?_
  refine jz fun X1 hX1 => ?_
  have hB0 := hB0.bel hX1
  have hB1 := hB1.bel hX1
  have hB2 := hB2.bel hX1
  have hb := bel_next hb hX1
  clear hX1
  go_upto_region 2 with (fail)
  refine jp ?_
  refine jn (.pointer (some ⟨w.heap.size, 0, none⟩)) ?_
  refine jf (.bool true) hB0 0 load_bool ?_
  refine jn (.pointer (some ⟨(w.heap.size + 1), 0, none⟩)) ?_
  refine jf (.bool false) hB1 0 load_bool ?_
  refine jm (.bool false) ?_
  refine jz fun X2 hX2 => ?_
  have hB0 := hB0.bel hX2
  have hB1 := hB1.bel hX2
  have hB2 := hB2.bel hX2
  have hb := bel_next hb hX2
  clear hX2
  go_upto_region 4 with (fail)
  refine jp ?_
  refine jm (st (be (p * c))) ?_
  refine jm (st (be (q * d))) ?_
  refine jc (.int .i64 (cmpI ((p * c : Nat) : Int) ((q * d : Nat) : Int))) (fun X hX hF => mo (ncmpC (be (p * c)) (be (q * d)) X (by omega) (by omega)) (by rw [val_be, val_be])) ?_
  refine jv (.bool false) (exec_lss _ _ _ _ (by rfl) .i64 (cmpI ((p * c : Nat) : Int) ((q * d : Nat) : Int)) 0 (by rfl) (by rfl) false (decide_eq_false (by unfold cmpI; rw [if_neg (by omega)]; split <;> omega))) ?_
  refine jz fun X3 hX3 => ?_
  have hB0 := hB0.bel hX3
  have hB1 := hB1.bel hX3
  have hB2 := hB2.bel hX3
  have hb := bel_next hb hX3
  clear hX3
  go_upto_region 6 with (fail)
  refine jp ?_
  refine jm (st (be (p * c))) ?_
  refine jm (st (be (q * d))) ?_
  refine jc (.tuple #[st (be (p * c - q * d)), .int .i64 0]) (fun X hX hF => mo (nsubC (be (p * c)) (be (q * d)) X (by omega) (by omega) (by rw [val_be, val_be]; omega)) (by rw [val_be, val_be])) ?_
  refine jm (.tuple #[st (be (p * c - q * d)), .int .i64 0]) ?_
  refine jm (st (be (p * c - q * d))) ?_
  refine jm (.int .i64 0) ?_
  refine jm (st (be (p * c - q * d))) ?_
  refine jm (.int .i64 0) ?_
  refine jz fun X4 hX4 => ?_
  have hB0 := hB0.bel hX4
  have hB1 := hB1.bel hX4
  have hB2 := hB2.bel hX4
  have hb := bel_next hb hX4
  clear hX4
  go_upto_region 7 with (fail)
  refine jq 5 ?_
  refine jn (.pointer (some ⟨w.heap.size, 0, none⟩)) ?_
  refine jf (.bool true) hB0 0 load_bool ?_
  refine jm (st (be (p * c - q * d))) ?_
  refine jm (st (be (d * c))) ?_
  refine jn (rt true (be (p * c - q * d)) (be (d * c))) ?_
  refine jz fun X5 hX5 => ?_
  have hB0 := hB0.bel hX5
  have hB1 := hB1.bel hX5
  have hB2 := hB2.bel hX5
  have hb := bel_next hb hX5
  clear hX5
  refine osb 73 4 56 (w.heap.size + 2) 73 hB2 [.bool true, .string ⟨(be (p * c - q * d)).toArray⟩, .string ⟨(be (d * c)).toArray⟩] info_fr ?_
  intro w9 hR9 hO9 hB9 hs9
  have hb9 := hB9 _ _ hb (by omega)
  clear hO9 hB9
  go_wp2
  refine post_cell rfl rfl (by rfl) Tryd.underlying73 rfl hR9 info_fr ⟨rfl, hb9⟩
theorem plus_lt_false (p d q c B B' : Nat) (w : World) (hp : (be p).length ≤ B) (hd : (be d).length ≤ B) (hq : (be q).length ≤ B') (he : (be c).length ≤ B') (hB : B + B' ≤ 4194200) (hlt : p * c < q * d) : Calls Tryd.prog 36 #[.agg #[.bool false, .string ⟨(be p).toArray⟩, .string ⟨(be d).toArray⟩], .agg #[.bool true, .string ⟨(be q).toArray⟩, .string ⟨(be c).toArray⟩]] w fun e w' => e = .returned (.agg #[.bool true, .string ⟨(be (q * d - p * c)).toArray⟩, .string ⟨(be (d * c)).toArray⟩]) ∧ Since w w' := by
  have lpe := be_mulL hp he
  have lqd := be_mulL hq hd
  have lde := be_mulL hd he
  have lsum := be_addL lpe lqd
  have lsub := be_leL (Nat.sub_le (q * d) (p * c)) lqd
  go_enter Tryd.func36, Tryd.ntmps36
  go_upto_region 1 with (fail)
  obtain ⟨W0, hW0, hB0, hB1, hB2, hb⟩ := start3 w 73 73 73 [.bool false, .string ⟨(be p).toArray⟩, .string ⟨(be d).toArray⟩] [.bool true, .string ⟨(be q).toArray⟩, .string ⟨(be c).toArray⟩] [.bool false, .string ⟨#[]⟩, .string ⟨#[]⟩]
  rw [← hW0]
  clear hW0
  refine jd ?_
  refine jn (.pointer (some ⟨w.heap.size, 1, none⟩)) ?_
  refine jf (st (be p)) hB0 1 load_str ?_
  refine jn (.pointer (some ⟨(w.heap.size + 1), 2, none⟩)) ?_
  refine jf (st (be c)) hB1 2 load_str ?_
  refine jc (st (be (p * c))) (fun X hX hF => mo (nmulC (be p) (be c) X (by omega) (by omega)) (by rw [val_be, val_be])) ?_
  refine jn (.pointer (some ⟨(w.heap.size + 1), 1, none⟩)) ?_
  refine jf (st (be q)) hB1 1 load_str ?_
  refine jn (.pointer (some ⟨w.heap.size, 2, none⟩)) ?_
  refine jf (st (be d)) hB0 2 load_str ?_
  refine jc (st (be (q * d))) (fun X hX hF => mo (nmulC (be q) (be d) X (by omega) (by omega)) (by rw [val_be, val_be])) ?_
  refine jn (.pointer (some ⟨w.heap.size, 2, none⟩)) ?_
  refine jf (st (be d)) hB0 2 load_str ?_
  refine jn (.pointer (some ⟨(w.heap.size + 1), 2, none⟩)) ?_
  refine jf (st (be c)) hB1 2 load_str ?_
  refine jc (st (be (d * c))) (fun X hX hF => mo (nmulC (be d) (be c) X (by omega) (by omega)) (by rw [val_be, val_be])) ?_
  refine jm (st (be (p * c))) ?_
  refine jm (st (be (q * d))) ?_
  refine jm (st (be (d * c))) ?_
  refine jz fun X1 hX1 => ?_
  have hB0 := hB0.bel hX1
  have hB1 := hB1.bel hX1
  have hB2 := hB2.bel hX1
  have hb := bel_next hb hX1
  clear hX1
  go_upto_region 2 with (fail)
  refine jp ?_
  refine jn (.pointer (some ⟨w.heap.size, 0, none⟩)) ?_
  refine jf (.bool false) hB0 0 load_bool ?_
  refine jn (.pointer (some ⟨(w.heap.size + 1), 0, none⟩)) ?_
  refine jf (.bool true) hB1 0 load_bool ?_
  refine jm (.bool false) ?_
  refine jz fun X2 hX2 => ?_
  have hB0 := hB0.bel hX2
  have hB1 := hB1.bel hX2
  have hB2 := hB2.bel hX2
  have hb := bel_next hb hX2
  clear hX2
  go_upto_region 4 with (fail)
  refine jp ?_
  refine jm (st (be (p * c))) ?_
  refine jm (st (be (q * d))) ?_
  refine jc (.int .i64 (cmpI ((p * c : Nat) : Int) ((q * d : Nat) : Int))) (fun X hX hF => mo (ncmpC (be (p * c)) (be (q * d)) X (by omega) (by omega)) (by rw [val_be, val_be])) ?_
  refine jv (.bool true) (exec_lss _ _ _ _ (by rfl) .i64 (cmpI ((p * c : Nat) : Int) ((q * d : Nat) : Int)) 0 (by rfl) (by rfl) true (by rw [cmpI_lt (by omega)]; rfl)) ?_
  refine jz fun X3 hX3 => ?_
  have hB0 := hB0.bel hX3
  have hB1 := hB1.bel hX3
  have hB2 := hB2.bel hX3
  have hb := bel_next hb hX3
  clear hX3
  go_upto_region 5 with (fail)
  refine lx_region_tail [] (by kernel_rfl) (by kernel_rfl) (by kernel_rfl) rfl (lasts_nil) ?_
  simp only [its, List.dropLast, Nat.zero_add, Nat.reduceAdd]
  refine jm (st (be (q * d))) ?_
  refine jm (st (be (p * c))) ?_
  refine jn (.pointer (some ⟨(w.heap.size + 1), 0, none⟩)) ?_
  refine jf (.bool true) hB1 0 load_bool ?_
  refine jm (st (be (q * d))) ?_
  refine jm (st (be (p * c))) ?_
  refine jn (.pointer (some ⟨w.heap.size, 0, none⟩)) ?_
  refine jz fun X4 hX4 => ?_
  have hB0 := hB0.bel hX4
  have hB1 := hB1.bel hX4
  have hB2 := hB2.bel hX4
  have hb := bel_next hb hX4
  clear hX4
  refine op_store1 rfl w.heap.size 0 73 _ hB0 (.bool true) (by simp) (fun X u h1 h2 => exec_stb _ _ (by rfl) _ _ (by rfl) (by rfl) u X h1 h2) ?_
  intro w5 hR5 hO5 hB5
  have hb := hB5 _ _ hb (by omega)
  have hB1 := hO5 _ _ _ (by omega) hB1
  have hB2 := hO5 _ _ _ (by omega) hB2
  have hB0 := hR5
  clear hR5 hO5 hB5
  go_upto_region 6 with (fail)
  refine jp ?_
  refine jm (st (be (q * d))) ?_
  refine jm (st (be (p * c))) ?_
  refine jc (.tuple #[st (be (q * d - p * c)), .int .i64 0]) (fun X hX hF => mo (nsubC (be (q * d)) (be (p * c)) X (by omega) (by omega) (by rw [val_be, val_be]; omega)) (by rw [val_be, val_be])) ?_
  refine jm (.tuple #[st (be (q * d - p * c)), .int .i64 0]) ?_
  refine jm (st (be (q * d - p * c))) ?_
  refine jm (.int .i64 0) ?_
  refine jm (st (be (q * d - p * c))) ?_
  refine jm (.int .i64 0) ?_
  refine jz fun X5 hX5 => ?_
  have hB0 := hB0.bel hX5
  have hB1 := hB1.bel hX5
  have hB2 := hB2.bel hX5
  have hb := bel_next hb hX5
  clear hX5
  go_upto_region 7 with (fail)
  refine jq 5 ?_
  refine jn (.pointer (some ⟨w.heap.size, 0, none⟩)) ?_
  refine jf (.bool true) hB0 0 load_bool ?_
  refine jm (st (be (q * d - p * c))) ?_
  refine jm (st (be (d * c))) ?_
  refine jn (rt true (be (q * d - p * c)) (be (d * c))) ?_
  refine jz fun X6 hX6 => ?_
  have hB0 := hB0.bel hX6
  have hB1 := hB1.bel hX6
  have hB2 := hB2.bel hX6
  have hb := bel_next hb hX6
  clear hX6
  refine osb 73 4 56 (w.heap.size + 2) 73 hB2 [.bool true, .string ⟨(be (q * d - p * c)).toArray⟩, .string ⟨(be (d * c)).toArray⟩] info_fr ?_
  intro w9 hR9 hO9 hB9 hs9
  have hb9 := hB9 _ _ hb (by omega)
  clear hO9 hB9
  go_wp2
  refine post_cell rfl rfl (by rfl) Tryd.underlying73 rfl hR9 info_fr ⟨rfl, hb9⟩
theorem plus_ge_false (p d q c B B' : Nat) (w : World) (hp : (be p).length ≤ B) (hd : (be d).length ≤ B) (hq : (be q).length ≤ B') (he : (be c).length ≤ B') (hB : B + B' ≤ 4194200) (hge : q * d ≤ p * c) : Calls Tryd.prog 36 #[.agg #[.bool false, .string ⟨(be p).toArray⟩, .string ⟨(be d).toArray⟩], .agg #[.bool true, .string ⟨(be q).toArray⟩, .string ⟨(be c).toArray⟩]] w fun e w' => e = .returned (.agg #[.bool false, .string ⟨(be (p * c - q * d)).toArray⟩, .string ⟨(be (d * c)).toArray⟩]) ∧ Since w w' := by
  have lpe := be_mulL hp he
  have lqd := be_mulL hq hd
  have lde := be_mulL hd he
  have lsum := be_addL lpe lqd
  have lsub := be_leL (Nat.sub_le (p * c) (q * d)) lpe
  go_enter Tryd.func36, Tryd.ntmps36
  go_upto_region 1 with (fail)
  obtain ⟨W0, hW0, hB0, hB1, hB2, hb⟩ := start3 w 73 73 73 [.bool false, .string ⟨(be p).toArray⟩, .string ⟨(be d).toArray⟩] [.bool true, .string ⟨(be q).toArray⟩, .string ⟨(be c).toArray⟩] [.bool false, .string ⟨#[]⟩, .string ⟨#[]⟩]
  rw [← hW0]
  clear hW0
  refine jd ?_
  refine jn (.pointer (some ⟨w.heap.size, 1, none⟩)) ?_
  refine jf (st (be p)) hB0 1 load_str ?_
  refine jn (.pointer (some ⟨(w.heap.size + 1), 2, none⟩)) ?_
  refine jf (st (be c)) hB1 2 load_str ?_
  refine jc (st (be (p * c))) (fun X hX hF => mo (nmulC (be p) (be c) X (by omega) (by omega)) (by rw [val_be, val_be])) ?_
  refine jn (.pointer (some ⟨(w.heap.size + 1), 1, none⟩)) ?_
  refine jf (st (be q)) hB1 1 load_str ?_
  refine jn (.pointer (some ⟨w.heap.size, 2, none⟩)) ?_
  refine jf (st (be d)) hB0 2 load_str ?_
  refine jc (st (be (q * d))) (fun X hX hF => mo (nmulC (be q) (be d) X (by omega) (by omega)) (by rw [val_be, val_be])) ?_
  refine jn (.pointer (some ⟨w.heap.size, 2, none⟩)) ?_
  refine jf (st (be d)) hB0 2 load_str ?_
  refine jn (.pointer (some ⟨(w.heap.size + 1), 2, none⟩)) ?_
  refine jf (st (be c)) hB1 2 load_str ?_
  refine jc (st (be (d * c))) (fun X hX hF => mo (nmulC (be d) (be c) X (by omega) (by omega)) (by rw [val_be, val_be])) ?_
  refine jm (st (be (p * c))) ?_
  refine jm (st (be (q * d))) ?_
  refine jm (st (be (d * c))) ?_
  refine jz fun X1 hX1 => ?_
  have hB0 := hB0.bel hX1
  have hB1 := hB1.bel hX1
  have hB2 := hB2.bel hX1
  have hb := bel_next hb hX1
  clear hX1
  go_upto_region 2 with (fail)
  refine jp ?_
  refine jn (.pointer (some ⟨w.heap.size, 0, none⟩)) ?_
  refine jf (.bool false) hB0 0 load_bool ?_
  refine jn (.pointer (some ⟨(w.heap.size + 1), 0, none⟩)) ?_
  refine jf (.bool true) hB1 0 load_bool ?_
  refine jm (.bool false) ?_
  refine jz fun X2 hX2 => ?_
  have hB0 := hB0.bel hX2
  have hB1 := hB1.bel hX2
  have hB2 := hB2.bel hX2
  have hb := bel_next hb hX2
  clear hX2
  go_upto_region 4 with (fail)
  refine jp ?_
  refine jm (st (be (p * c))) ?_
  refine jm (st (be (q * d))) ?_
  refine jc (.int .i64 (cmpI ((p * c : Nat) : Int) ((q * d : Nat) : Int))) (fun X hX hF => mo (ncmpC (be (p * c)) (be (q * d)) X (by omega) (by omega)) (by rw [val_be, val_be])) ?_
  refine jv (.bool false) (exec_lss _ _ _ _ (by rfl) .i64 (cmpI ((p * c : Nat) : Int) ((q * d : Nat) : Int)) 0 (by rfl) (by rfl) false (decide_eq_false (by unfold cmpI; rw [if_neg (by omega)]; split <;> omega))) ?_
  refine jz fun X3 hX3 => ?_
  have hB0 := hB0.bel hX3
  have hB1 := hB1.bel hX3
  have hB2 := hB2.bel hX3
  have hb := bel_next hb hX3
  clear hX3
  go_upto_region 6 with (fail)
  refine jp ?_
  refine jm (st (be (p * c))) ?_
  refine jm (st (be (q * d))) ?_
  refine jc (.tuple #[st (be (p * c - q * d)), .int .i64 0]) (fun X hX hF => mo (nsubC (be (p * c)) (be (q * d)) X (by omega) (by omega) (by rw [val_be, val_be]; omega)) (by rw [val_be, val_be])) ?_
  refine jm (.tuple #[st (be (p * c - q * d)), .int .i64 0]) ?_
  refine jm (st (be (p * c - q * d))) ?_
  refine jm (.int .i64 0) ?_
  refine jm (st (be (p * c - q * d))) ?_
  refine jm (.int .i64 0) ?_
  refine jz fun X4 hX4 => ?_
  have hB0 := hB0.bel hX4
  have hB1 := hB1.bel hX4
  have hB2 := hB2.bel hX4
  have hb := bel_next hb hX4
  clear hX4
  go_upto_region 7 with (fail)
  refine jq 5 ?_
  refine jn (.pointer (some ⟨w.heap.size, 0, none⟩)) ?_
  refine jf (.bool false) hB0 0 load_bool ?_
  refine jm (st (be (p * c - q * d))) ?_
  refine jm (st (be (d * c))) ?_
  refine jn (rt false (be (p * c - q * d)) (be (d * c))) ?_
  refine jz fun X5 hX5 => ?_
  have hB0 := hB0.bel hX5
  have hB1 := hB1.bel hX5
  have hB2 := hB2.bel hX5
  have hb := bel_next hb hX5
  clear hX5
  refine osb 73 4 56 (w.heap.size + 2) 73 hB2 [.bool false, .string ⟨(be (p * c - q * d)).toArray⟩, .string ⟨(be (d * c)).toArray⟩] info_fr ?_
  intro w9 hR9 hO9 hB9 hs9
  have hb9 := hB9 _ _ hb (by omega)
  clear hO9 hB9
  go_wp2
  refine post_cell rfl rfl (by rfl) Tryd.underlying73 rfl hR9 info_fr ⟨rfl, hb9⟩
theorem plusQ (x y : Rat) (B B' : Nat) (v v' : Value) (w : World) (h : IsF x B v w) (h' : IsF y B' v' w) (hB : B + B' ≤ 4194200) : Calls Tryd.prog 36 #[v, v'] w fun e w' => ∃ u, e = .returned u ∧ IsF (x + y) (B + B' + 1) u w' ∧ Since w w' := by
  obtain ⟨m, p, d, rfl, hd, rfl, hp, hq⟩ := h
  obtain ⟨n, q, c, rfl, he, rfl, hp', hq'⟩ := h'
  have hde : 0 < d * c := Nat.mul_pos hd he
  have lpe := be_mulL hp hq'
  have lqd := be_mulL hp' hq
  have lde := be_mulL hq hq'
  have lsum := be_addL lpe lqd
  have key := add_fr m n p q hd he
  have mk : ∀ (s : Bool) (t : Nat), (be t).length ≤ B + B' + 1 → sg m (p * c) + sg n (q * d) = sg s t → IsF (mkRat (sg m p) d + mkRat (sg n q) c) (B + B' + 1) (fv s t (d * c)) w :=
    fun s t ht hs => ⟨s, t, d * c, rfl, hde, by rw [key, hs], ht, by omega⟩
  have fin : ∀ (s : Bool) (t : Nat), (be t).length ≤ B + B' + 1 → sg m (p * c) + sg n (q * d) = sg s t → Calls Tryd.prog 36 #[fv m p d, fv n q c] w (fun e' w' => e' = .returned (fv s t (d * c)) ∧ Since w w') →
      Calls Tryd.prog 36 #[fv m p d, fv n q c] w fun e' w' => ∃ u, e' = .returned u ∧ IsF (mkRat (sg m p) d + mkRat (sg n q) c) (B + B' + 1) u w' ∧ Since w w' :=
    fun s t ht hs hc => hc.mono fun e' w' ⟨h1, h2⟩ => ⟨_, h1, mk s t ht hs, h2⟩
  have l1 : (be (p * c + q * d)).length ≤ B + B' + 1 := by omega
  have l2 := be_leL (Nat.sub_le (p * c) (q * d)) lpe
  have l3 := be_leL (Nat.sub_le (q * d) (p * c)) lqd
  rcases m with _ | _ <;> rcases n with _ | _
  · exact fin false _ l1 (sg_add_same _ _ _) (plus_false p d q c B B' w hp hq hp' hq' hB)
  · rcases Nat.lt_or_ge (p * c) (q * d) with h | h
    · exact fin true _ (by omega) (sg_add_lt (by decide) h) (plus_lt_false p d q c B B' w hp hq hp' hq' hB h)
    · exact fin false _ (by omega) (sg_add_ge (by decide) h) (plus_ge_false p d q c B B' w hp hq hp' hq' hB h)
  · rcases Nat.lt_or_ge (p * c) (q * d) with h | h
    · exact fin false _ (by omega) (sg_add_lt (by decide) h) (plus_lt_true p d q c B B' w hp hq hp' hq' hB h)
    · exact fin true _ (by omega) (sg_add_ge (by decide) h) (plus_ge_true p d q c B B' w hp hq hp' hq' hB h)
  · exact fin true _ l1 (sg_add_same _ _ _) (plus_true p d q c B B' w hp hq hp' hq' hB)
end Go.Proofs.YtcpedbpldgndmaaDoor
