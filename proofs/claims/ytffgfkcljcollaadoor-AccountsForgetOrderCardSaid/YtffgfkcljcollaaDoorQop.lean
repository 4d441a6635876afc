/-
  rat: more on fractions.
-/
import Derived.Test.YtffgfkcljcollaaDoorQfr
set_option linter.unusedSimpArgs false
set_option linter.unusedVariables false
set_option maxRecDepth 100000
set_option maxHeartbeats 1600000
namespace Go.Proofs.YtffgfkcljcollaaDoor
open Go.RowKit
theorem lessQ (x y : Rat) (B B' : Nat) (v v' : Value) (w : World) (h : IsF x B v w) (h' : IsF y B' v' w) (hB : B + B' ≤ 4194200) : Calls Tryd.prog 35 #[v, v'] w fun e w' => ∃ u, e = .returned u ∧ IsF (x - y) (B + B' + 1) u w' ∧ Since w w' := by
 obtain ⟨m, p, d, rfl, hd, hx, hp, hq⟩ := h;obtain ⟨n, q, c, rfl, hc, hy, hp', hq'⟩ := h'
 have HI1 : Hid (∀ X, IsF x B (.agg #[.bool m, .string ⟨(be p).toArray⟩, .string ⟨(be d).toArray⟩]) X) := fun X => ⟨m, p, d, rfl, hd, hx, hp, hq⟩
 have HI2 : Hid (∀ X, IsF (-y) B' (.agg #[.bool (!n), .string ⟨(be q).toArray⟩, .string ⟨(be c).toArray⟩]) X) := fun X => ⟨!n, q, c, rfl, hc, by rw [← neg_fr, hy], hp', hq'⟩
 clear hx hy
 go_enter Tryd.func35, Tryd.ntmps35
 go_upto_region 1 with fail;obtain ⟨W0, hW0, hB0, hB1, hB2, hb⟩ := start3 w 77 77 77 [.bool m, .string ⟨(be p).toArray⟩, .string ⟨(be d).toArray⟩] [.bool n, .string ⟨(be q).toArray⟩, .string ⟨(be c).toArray⟩] [.bool false, .string ⟨#[]⟩, .string ⟨#[]⟩];rw [← hW0];clear hW0;refine jq 4 ?_;refine jn (.pointer (some ⟨(w.heap.size + 1), 0, none⟩)) ?_;refine jf (.bool n) hB1 0 load_bool ?_;refine jv (.bool (!n)) (exec_not _ _ (by rfl) n (by rfl)) ?_;refine jn (.pointer (some ⟨(w.heap.size + 1), 0, none⟩)) ?_;refine jzb hb fun X1 hX1 hb => ?_;have hB0 := hB0.bel hX1;have hB1 := hB1.bel hX1;have hB2 := hB2.bel hX1;clear hX1;refine op_store1 rfl (w.heap.size + 1) 0 77 _ hB1 (.bool (!n)) (by simp) (fun X u h1 h2 => exec_stb _ _ (by rfl) _ _ (by rfl) (by rfl) u X h1 h2) ?_;intro w5 hR5 hO5 hB5;have hb := hB5 _ _ hb (by omega);have hB0 := hO5 _ _ _ (by omega) hB0;have hB2 := hO5 _ _ _ (by omega) hB2;have hB1 := hR5;clear hR5 hO5 hB5;go_upto_region 2 with fail;refine lx_plain_to 3 [none, none, some (IsF (x + -y) (B + B' + 1))] (lasts_none (lasts_none (lasts_some (IsF.lasts _ _) (lasts_nil)))) ?_;simp only [its, List.take, List.drop, Nat.zero_add, Nat.reduceAdd];refine ja hB0 Tryd.underlying77 (by rfl) info_fr ?_;refine ja hB1 Tryd.underlying77 (by rfl) info_fr ?_;refine jk (fun X hX hF => plusQ _ _ B B' _ _ X (HI1.out X) (HI2.out X) hB) ?_;intro v11;refine lx_nil ?_;intro X2 hX2 hF;have hv11 := hF _ _ List.mem_cons_self;have hB0 := hB0.bel hX2;have hB1 := hB1.bel hX2;have hB2 := hB2.bel hX2
 have hb := bel_next hb hX2;clear hF hX2;obtain ⟨s, t, u, rfl, k1, k2, k3, k4⟩ := hv11;refine osb 77 4 11 (w.heap.size + 2) 77 hB2 [.bool s, .string ⟨(be t).toArray⟩, .string ⟨(be u).toArray⟩] info_fr ?_;intro w9 hR9 hO9 hB9 hs9;have hb9 := hB9 _ _ hb (by omega);clear hO9 hB9
 go_wp2
 refine post_cell rfl rfl (by rfl) Tryd.underlying77 rfl hR9 info_fr ⟨_, rfl, ⟨s, t, u, rfl, k1, by rw [k2, Rat.sub_eq_add_neg], k3, k4⟩, hb9⟩
theorem times_true_true (p d q c B B' : Nat) (w : World) (hp : (be p).length ≤ B) (hq : (be d).length ≤ B) (hp' : (be q).length ≤ B') (hq' : (be c).length ≤ B') (hB : B + B' ≤ 4194200) : Calls Tryd.prog 69 #[.agg #[.bool true, .string ⟨(be p).toArray⟩, .string ⟨(be d).toArray⟩], .agg #[.bool true, .string ⟨(be q).toArray⟩, .string ⟨(be c).toArray⟩]] w fun e w' => e = .returned (.agg #[.bool false, .string ⟨(be (p * q)).toArray⟩, .string ⟨(be (d * c)).toArray⟩]) ∧ Since w w' := by
 have lpq := be_mulL hp hp';have ldc := be_mulL hq hq'
 go_enter Tryd.func69, Tryd.ntmps69
 go_upto_region 1 with fail;obtain ⟨W0, hW0, hB0, hB1, hB2, hb⟩ := start3 w 77 77 77 [.bool true, .string ⟨(be p).toArray⟩, .string ⟨(be d).toArray⟩] [.bool true, .string ⟨(be q).toArray⟩, .string ⟨(be c).toArray⟩] [.bool false, .string ⟨#[]⟩, .string ⟨#[]⟩];rw [← hW0];clear hW0;refine lx_region_tail [] (by kernel_rfl) (by kernel_rfl) (by kernel_rfl) rfl (lasts_nil) ?_;simp only [its, List.dropLast, Nat.zero_add, Nat.reduceAdd];refine jn (.pointer (some ⟨w.heap.size, 0, none⟩)) ?_;refine jf (.bool true) hB0 0 load_bool ?_;refine jn (.pointer (some ⟨(w.heap.size + 1), 0, none⟩)) ?_;refine jf (.bool true) hB1 0 load_bool ?_;refine jm (.bool false) ?_;refine jn (.pointer (some ⟨w.heap.size, 1, none⟩)) ?_;refine jf (st (be p)) hB0 1 load_str ?_;refine jn (.pointer (some ⟨(w.heap.size + 1), 1, none⟩)) ?_;refine jf (st (be q)) hB1 1 load_str ?_;refine jc (st (be (p * q))) (fun X hX hF => mo (nmulC (be p) (be q) X (by omega) (by omega)) (by rw [val_be, val_be])) ?_;refine jn (.pointer (some ⟨w.heap.size, 2, none⟩)) ?_;refine jf (st (be d)) hB0 2 load_str ?_;refine jn (.pointer (some ⟨(w.heap.size + 1), 2, none⟩)) ?_;refine jf (st (be c)) hB1 2 load_str ?_;refine jc (st (be (d * c))) (fun X hX hF => mo (nmulC (be d) (be c) X (by omega) (by omega)) (by rw [val_be, val_be])) ?_;refine jn (rt false (be (p * q)) (be (d * c))) ?_;refine jzb hb fun X1 hX1 hb => ?_;have hB0 := hB0.bel hX1;have hB1 := hB1.bel hX1;have hB2 := hB2.bel hX1;clear hX1;refine osb 77 4 20 (w.heap.size + 2) 77 hB2 [.bool false, .string ⟨(be (p * q)).toArray⟩, .string ⟨(be (d * c)).toArray⟩] info_fr ?_
 intro w9 hR9 hO9 hB9 hs9;have hb9 := hB9 _ _ hb (by omega);clear hO9 hB9
 go_wp2
 refine post_cell rfl rfl (by rfl) Tryd.underlying77 rfl hR9 info_fr ⟨rfl, hb9⟩
theorem times_true_false (p d q c B B' : Nat) (w : World) (hp : (be p).length ≤ B) (hq : (be d).length ≤ B) (hp' : (be q).length ≤ B') (hq' : (be c).length ≤ B') (hB : B + B' ≤ 4194200) : Calls Tryd.prog 69 #[.agg #[.bool true, .string ⟨(be p).toArray⟩, .string ⟨(be d).toArray⟩], .agg #[.bool false, .string ⟨(be q).toArray⟩, .string ⟨(be c).toArray⟩]] w fun e w' => e = .returned (.agg #[.bool true, .string ⟨(be (p * q)).toArray⟩, .string ⟨(be (d * c)).toArray⟩]) ∧ Since w w' := by
 have lpq := be_mulL hp hp';have ldc := be_mulL hq hq'
 go_enter Tryd.func69, Tryd.ntmps69
 go_upto_region 1 with fail;obtain ⟨W0, hW0, hB0, hB1, hB2, hb⟩ := start3 w 77 77 77 [.bool true, .string ⟨(be p).toArray⟩, .string ⟨(be d).toArray⟩] [.bool false, .string ⟨(be q).toArray⟩, .string ⟨(be c).toArray⟩] [.bool false, .string ⟨#[]⟩, .string ⟨#[]⟩];rw [← hW0];clear hW0;refine lx_region_tail [] (by kernel_rfl) (by kernel_rfl) (by kernel_rfl) rfl (lasts_nil) ?_;simp only [its, List.dropLast, Nat.zero_add, Nat.reduceAdd];refine jn (.pointer (some ⟨w.heap.size, 0, none⟩)) ?_;refine jf (.bool true) hB0 0 load_bool ?_;refine jn (.pointer (some ⟨(w.heap.size + 1), 0, none⟩)) ?_;refine jf (.bool false) hB1 0 load_bool ?_;refine jm (.bool true) ?_;refine jn (.pointer (some ⟨w.heap.size, 1, none⟩)) ?_;refine jf (st (be p)) hB0 1 load_str ?_;refine jn (.pointer (some ⟨(w.heap.size + 1), 1, none⟩)) ?_;refine jf (st (be q)) hB1 1 load_str ?_;refine jc (st (be (p * q))) (fun X hX hF => mo (nmulC (be p) (be q) X (by omega) (by omega)) (by rw [val_be, val_be])) ?_;refine jn (.pointer (some ⟨w.heap.size, 2, none⟩)) ?_;refine jf (st (be d)) hB0 2 load_str ?_;refine jn (.pointer (some ⟨(w.heap.size + 1), 2, none⟩)) ?_;refine jf (st (be c)) hB1 2 load_str ?_;refine jc (st (be (d * c))) (fun X hX hF => mo (nmulC (be d) (be c) X (by omega) (by omega)) (by rw [val_be, val_be])) ?_;refine jn (rt true (be (p * q)) (be (d * c))) ?_;refine jzb hb fun X1 hX1 hb => ?_;have hB0 := hB0.bel hX1;have hB1 := hB1.bel hX1;have hB2 := hB2.bel hX1;clear hX1;refine osb 77 4 20 (w.heap.size + 2) 77 hB2 [.bool true, .string ⟨(be (p * q)).toArray⟩, .string ⟨(be (d * c)).toArray⟩] info_fr ?_
 intro w9 hR9 hO9 hB9 hs9;have hb9 := hB9 _ _ hb (by omega);clear hO9 hB9
 go_wp2
 refine post_cell rfl rfl (by rfl) Tryd.underlying77 rfl hR9 info_fr ⟨rfl, hb9⟩
theorem times_false_true (p d q c B B' : Nat) (w : World) (hp : (be p).length ≤ B) (hq : (be d).length ≤ B) (hp' : (be q).length ≤ B') (hq' : (be c).length ≤ B') (hB : B + B' ≤ 4194200) : Calls Tryd.prog 69 #[.agg #[.bool false, .string ⟨(be p).toArray⟩, .string ⟨(be d).toArray⟩], .agg #[.bool true, .string ⟨(be q).toArray⟩, .string ⟨(be c).toArray⟩]] w fun e w' => e = .returned (.agg #[.bool true, .string ⟨(be (p * q)).toArray⟩, .string ⟨(be (d * c)).toArray⟩]) ∧ Since w w' := by
 have lpq := be_mulL hp hp';have ldc := be_mulL hq hq'
 go_enter Tryd.func69, Tryd.ntmps69
 go_upto_region 1 with fail;obtain ⟨W0, hW0, hB0, hB1, hB2, hb⟩ := start3 w 77 77 77 [.bool false, .string ⟨(be p).toArray⟩, .string ⟨(be d).toArray⟩] [.bool true, .string ⟨(be q).toArray⟩, .string ⟨(be c).toArray⟩] [.bool false, .string ⟨#[]⟩, .string ⟨#[]⟩];rw [← hW0];clear hW0;refine lx_region_tail [] (by kernel_rfl) (by kernel_rfl) (by kernel_rfl) rfl (lasts_nil) ?_;simp only [its, List.dropLast, Nat.zero_add, Nat.reduceAdd];refine jn (.pointer (some ⟨w.heap.size, 0, none⟩)) ?_;refine jf (.bool false) hB0 0 load_bool ?_;refine jn (.pointer (some ⟨(w.heap.size + 1), 0, none⟩)) ?_;refine jf (.bool true) hB1 0 load_bool ?_;refine jm (.bool true) ?_;refine jn (.pointer (some ⟨w.heap.size, 1, none⟩)) ?_;refine jf (st (be p)) hB0 1 load_str ?_;refine jn (.pointer (some ⟨(w.heap.size + 1), 1, none⟩)) ?_;refine jf (st (be q)) hB1 1 load_str ?_;refine jc (st (be (p * q))) (fun X hX hF => mo (nmulC (be p) (be q) X (by omega) (by omega)) (by rw [val_be, val_be])) ?_;refine jn (.pointer (some ⟨w.heap.size, 2, none⟩)) ?_;refine jf (st (be d)) hB0 2 load_str ?_;refine jn (.pointer (some ⟨(w.heap.size + 1), 2, none⟩)) ?_;refine jf (st (be c)) hB1 2 load_str ?_;refine jc (st (be (d * c))) (fun X hX hF => mo (nmulC (be d) (be c) X (by omega) (by omega)) (by rw [val_be, val_be])) ?_;refine jn (rt true (be (p * q)) (be (d * c))) ?_;refine jzb hb fun X1 hX1 hb => ?_;have hB0 := hB0.bel hX1;have hB1 := hB1.bel hX1;have hB2 := hB2.bel hX1;clear hX1;refine osb 77 4 20 (w.heap.size + 2) 77 hB2 [.bool true, .string ⟨(be (p * q)).toArray⟩, .string ⟨(be (d * c)).toArray⟩] info_fr ?_
 intro w9 hR9 hO9 hB9 hs9;have hb9 := hB9 _ _ hb (by omega);clear hO9 hB9
 go_wp2
 refine post_cell rfl rfl (by rfl) Tryd.underlying77 rfl hR9 info_fr ⟨rfl, hb9⟩
theorem times_false_false (p d q c B B' : Nat) (w : World) (hp : (be p).length ≤ B) (hq : (be d).length ≤ B) (hp' : (be q).length ≤ B') (hq' : (be c).length ≤ B') (hB : B + B' ≤ 4194200) : Calls Tryd.prog 69 #[.agg #[.bool false, .string ⟨(be p).toArray⟩, .string ⟨(be d).toArray⟩], .agg #[.bool false, .string ⟨(be q).toArray⟩, .string ⟨(be c).toArray⟩]] w fun e w' => e = .returned (.agg #[.bool false, .string ⟨(be (p * q)).toArray⟩, .string ⟨(be (d * c)).toArray⟩]) ∧ Since w w' := by
 have lpq := be_mulL hp hp';have ldc := be_mulL hq hq'
 go_enter Tryd.func69, Tryd.ntmps69
 go_upto_region 1 with fail;obtain ⟨W0, hW0, hB0, hB1, hB2, hb⟩ := start3 w 77 77 77 [.bool false, .string ⟨(be p).toArray⟩, .string ⟨(be d).toArray⟩] [.bool false, .string ⟨(be q).toArray⟩, .string ⟨(be c).toArray⟩] [.bool false, .string ⟨#[]⟩, .string ⟨#[]⟩];rw [← hW0];clear hW0;refine lx_region_tail [] (by kernel_rfl) (by kernel_rfl) (by kernel_rfl) rfl (lasts_nil) ?_;simp only [its, List.dropLast, Nat.zero_add, Nat.reduceAdd];refine jn (.pointer (some ⟨w.heap.size, 0, none⟩)) ?_;refine jf (.bool false) hB0 0 load_bool ?_;refine jn (.pointer (some ⟨(w.heap.size + 1), 0, none⟩)) ?_;refine jf (.bool false) hB1 0 load_bool ?_;refine jm (.bool false) ?_;refine jn (.pointer (some ⟨w.heap.size, 1, none⟩)) ?_;refine jf (st (be p)) hB0 1 load_str ?_;refine jn (.pointer (some ⟨(w.heap.size + 1), 1, none⟩)) ?_;refine jf (st (be q)) hB1 1 load_str ?_;refine jc (st (be (p * q))) (fun X hX hF => mo (nmulC (be p) (be q) X (by omega) (by omega)) (by rw [val_be, val_be])) ?_;refine jn (.pointer (some ⟨w.heap.size, 2, none⟩)) ?_;refine jf (st (be d)) hB0 2 load_str ?_;refine jn (.pointer (some ⟨(w.heap.size + 1), 2, none⟩)) ?_;refine jf (st (be c)) hB1 2 load_str ?_;refine jc (st (be (d * c))) (fun X hX hF => mo (nmulC (be d) (be c) X (by omega) (by omega)) (by rw [val_be, val_be])) ?_;refine jn (rt false (be (p * q)) (be (d * c))) ?_;refine jzb hb fun X1 hX1 hb => ?_;have hB0 := hB0.bel hX1;have hB1 := hB1.bel hX1;have hB2 := hB2.bel hX1;clear hX1;refine osb 77 4 20 (w.heap.size + 2) 77 hB2 [.bool false, .string ⟨(be (p * q)).toArray⟩, .string ⟨(be (d * c)).toArray⟩] info_fr ?_
 intro w9 hR9 hO9 hB9 hs9;have hb9 := hB9 _ _ hb (by omega);clear hO9 hB9
 go_wp2
 refine post_cell rfl rfl (by rfl) Tryd.underlying77 rfl hR9 info_fr ⟨rfl, hb9⟩
theorem timesQ (x y : Rat) (B B' : Nat) (v v' : Value) (w : World) (h : IsF x B v w) (h' : IsF y B' v' w) (hB : B + B' ≤ 4194200) : Calls Tryd.prog 69 #[v, v'] w fun e w' => ∃ u, e = .returned u ∧ IsF (x * y) (B + B') u w' ∧ Since w w' := by
 obtain ⟨m, p, d, rfl, hd, rfl, hp, hq⟩ := h;obtain ⟨n, q, c, rfl, hc, rfl, hp', hq'⟩ := h';have lpq := be_mulL hp hp';have ldc := be_mulL hq hq';have key := mul_fr m n p q d c
 have fin : Calls Tryd.prog 69 #[fv m p d, fv n q c] w (fun e' w' => e' = .returned (fv (m != n) (p * q) (d * c)) ∧ Since w w') →
   Calls Tryd.prog 69 #[fv m p d, fv n q c] w fun e' w' => ∃ u, e' = .returned u ∧ IsF (mkRat (sg m p) d * mkRat (sg n q) c) (B + B') u w' ∧ Since w w' :=
  fun hc' => hc'.mono fun e' w' ⟨h1, h2⟩ => ⟨_, h1, ⟨_, _, _, rfl, Nat.mul_pos hd hc, key.symm, lpq, ldc⟩, h2⟩
 rcases m with _ | _ <;> rcases n with _ | _
 ·exact fin (times_false_false p d q c B B' w hp hq hp' hq' hB)
 ·exact fin (times_false_true p d q c B B' w hp hq hp' hq' hB)
 ·exact fin (times_true_false p d q c B B' w hp hq hp' hq' hB)
 ·exact fin (times_true_true p d q c B B' w hp hq hp' hq' hB)
theorem overQ (x y : Rat) (B B' : Nat) (v v' : Value) (w : World) (h : IsF x B v w) (h' : IsF y B' v' w) (hB : B + B' ≤ 4194200) (h0 : y ≠ 0) : Calls Tryd.prog 57 #[v, v'] w fun e w' => ∃ u, e = .returned u ∧ IsF (x / y) (B + B') u w' ∧ Since w w' := by
 obtain ⟨m, p, d, rfl, hd, hx, hp, hq⟩ := h;obtain ⟨n, q, c, rfl, hc, hy, hp', hq'⟩ := h'
 have hq0 : 0 < q := by
  rcases Nat.eq_zero_or_pos q with h9 | h9
  ·rw [h9, low_zero] at hy
   exact absurd hy.symm h0
  ·exact h9
 have HI1 : Hid (∀ X, IsF x B (.agg #[.bool m, .string ⟨(be p).toArray⟩, .string ⟨(be d).toArray⟩]) X) := fun X => ⟨m, p, d, rfl, hd, hx, hp, hq⟩
 have HI2 : Hid (∀ X, IsF (y⁻¹) B' (.agg #[.bool n, .string ⟨(be c).toArray⟩, .string ⟨(be q).toArray⟩]) X) := fun X => ⟨n, c, q, rfl, hq0, by rw [← hy, inv_fr n hq0 hc], hq', hp'⟩
 clear hx hy h0
 go_enter Tryd.func57, Tryd.ntmps57
 go_upto_region 1 with fail;obtain ⟨W0, hW0, hB0, hB1, hB2, hb⟩ := start3 w 77 77 77 [.bool m, .string ⟨(be p).toArray⟩, .string ⟨(be d).toArray⟩] [.bool n, .string ⟨(be q).toArray⟩, .string ⟨(be c).toArray⟩] [.bool false, .string ⟨#[]⟩, .string ⟨#[]⟩];rw [← hW0];clear hW0;refine lx_plain_to 9 [none, none, none, none, none, none, none, none, some (IsF (x * y⁻¹) (B + B'))] (lasts_none (lasts_none (lasts_none (lasts_none (lasts_none (lasts_none (lasts_none (lasts_none (lasts_some (IsF.lasts _ _) (lasts_nil)))))))))) ?_;simp only [its, List.take, List.drop, Nat.zero_add, Nat.reduceAdd];refine ja hB0 Tryd.underlying77 (by rfl) info_fr ?_;refine jn (.pointer (some ⟨(w.heap.size + 1), 0, none⟩)) ?_;refine jf (.bool n) hB1 0 load_bool ?_;refine jn (.pointer (some ⟨(w.heap.size + 1), 2, none⟩)) ?_;refine jf (st (be c)) hB1 2 load_str ?_;refine jn (.pointer (some ⟨(w.heap.size + 1), 1, none⟩)) ?_;refine jf (st (be q)) hB1 1 load_str ?_;refine jn (rt n (be c) (be q)) ?_;refine jk (fun X hX hF => timesQ _ _ B B' _ _ X (HI1.out X) (HI2.out X) hB) ?_;intro v13;refine lx_nil ?_;intro X1 hX1 hF;have hv13 := hF _ _ List.mem_cons_self;have hB0 := hB0.bel hX1;have hB1 := hB1.bel hX1;have hB2 := hB2.bel hX1;have hb := bel_next hb hX1;clear hF hX1;obtain ⟨s, t, u, rfl, k1, k2, k3, k4⟩ := hv13;refine osb 77 4 13 (w.heap.size + 2) 77 hB2 [.bool s, .string ⟨(be t).toArray⟩, .string ⟨(be u).toArray⟩] info_fr ?_;intro w9 hR9 hO9 hB9 hs9;have hb9 := hB9 _ _ hb (by omega);clear hO9 hB9
 go_wp2
 refine post_cell rfl rfl (by rfl) Tryd.underlying77 rfl hR9 info_fr ⟨_, rfl, ⟨s, t, u, rfl, k1, by rw [k2, Rat.div_def], k3, k4⟩, hb9⟩
theorem isF_of (n : Bool) (p q : List UInt8) {B : Nat} (hp : p.length ≤ B) (hq : q.length ≤ B) (h1 : 1 ≤ B) (X : World) : IsF (rq n p q) B (.agg #[.bool (rN (rq n p q)), .string ⟨(be (rq n p q).num.natAbs).toArray⟩, .string ⟨(be (rq n p q).den).toArray⟩]) X := by
 refine ⟨_, _, _, rfl, Nat.pos_of_ne_zero (rq n p q).den_nz, rb_mk _, ?_, ?_⟩
 ·rcases hv : vd n p q with _ | _
  ·rw [vd_not hv]
   exact Nat.zero_le _
  ·exact (show (rP (rq n p q)).length ≤ B by rw [(vd_eq hv).2.1]; exact hp)
 ·have hone : (be (0 : Rat).den).length ≤ B := by rw [show (0 : Rat).den = 1 from rfl, be_one]; exact h1
  rcases hv : vd n p q with _ | _
  ·rw [vd_not hv]
   exact hone
  ·by_cases h0 : p = []
   ·have h9 : rq n p q = 0 := by
     subst h0
     unfold vd at hv
     rw [if_pos (.inl rfl)] at hv;simp only [Bool.and_eq_true, Bool.not_eq_true', beq_iff_eq] at hv;obtain ⟨⟨rfl, _⟩, rfl⟩ := hv;exact rq_zero
    rw [h9];exact hone
   ·rw [(vd_eq hv).2.2.2 h0]
    exact hq
theorem doQ (F0 : FuncId) (recv : Value) (n : Bool) (p q : List UInt8) (z : Rat) (B B' : Nat) (w : World) (hp : p.length ≤ B) (hq : q.length ≤ B) (h1 : 1 ≤ B) (hB : B ≤ 4194300) (hB' : B' ≤ 4194300) (hf : ∀ (v : Value) (X : World), (callFunc F0 #[recv, v]).run Tryd.prog X = .ok (.enter F0 #[recv, v]) X)
  (hop : ∀ (v : Value) (X : World), IsF (rq n p q) B v X → Calls Tryd.prog F0 #[recv, v] X fun e X' => ∃ u, e = .returned u ∧ IsF z B' u X' ∧ Since X X') : Calls Tryd.prog 33 #[(.func (.func F0) #[recv] #[]), .agg #[.bool n, .string ⟨p.toArray⟩, .string ⟨q.toArray⟩]] w fun e w' => e = .returned (.agg #[.bool (rN z), .string ⟨(rP z).toArray⟩, .string ⟨(rD z).toArray⟩]) ∧ Since w w' := by
 have HOP := Lib.hid hop;clear hop
 go_enter Tryd.func33, Tryd.ntmps33
 go_upto_region 1 with fail;obtain ⟨W0, hW0, hB0, hB1, hb⟩ := start2 w 30 30 [.bool n, .string ⟨p.toArray⟩, .string ⟨q.toArray⟩] [.bool false, .string ⟨#[]⟩, .string ⟨#[]⟩];rw [← hW0];clear hW0;refine lx_plain_to 5 [none, none, none, some (IsF z B')] (lasts_none (lasts_none (lasts_none (lasts_some (IsF.lasts _ _) (lasts_nil))))) ?_;simp only [its, List.take, List.drop, Nat.zero_add, Nat.reduceAdd];refine jm ((.func (.func F0) #[recv] #[])) ?_;refine ja hB0 Tryd.underlying30 (by rfl) info_rat ?_;refine jc (rt (rN (rq n p q)) (be (rq n p q).num.natAbs) (be (rq n p q).den)) (fun X hX hF => ofQ n p q X (by omega) (by omega)) ?_;refine lx_makeb (by rfl) _ _ _ (by rfl) F0 [recv] (by rfl) [.agg #[.bool (rN (rq n p q)), .string ⟨(be (rq n p q).num.natAbs).toArray⟩, .string ⟨(be (rq n p q).den).toArray⟩]] (by rfl) (fun X => hf _ X) (fun X hX hF => HOP.out _ X (isF_of n p q hp hq h1 X)) ?_;intro v8;simp only [pX];refine jc (rt (rN z) (rP z) (rD z)) (fun X hX hF => lowQ z B' v8 X (hF _ _ List.mem_cons_self rfl) (by omega)) ?_;refine lx_nil ?_;intro X1 hX1 hF;have hv8 := hF _ _ List.mem_cons_self;have hB0 := hB0.bel hX1;have hB1 := hB1.bel hX1;have hb := bel_next hb hX1;clear hF hX1;refine osb 30 4 9 (w.heap.size + 1) 30 hB1 [.bool (rN z), .string ⟨(rP z).toArray⟩, .string ⟨(rD z).toArray⟩] info_rat ?_;intro w9 hR9 hO9 hB9 hs9;have hb9 := hB9 _ _ hb (by omega);clear hO9 hB9
 go_wp2
 refine post_cell rfl rfl (by rfl) Tryd.underlying30 rfl hR9 info_rat ⟨rfl, hb9⟩
end Go.Proofs.YtffgfkcljcollaaDoor
