/-
  NatDivides: the walk.
-/
import Derived.Test.YtglnabciomlmmaaDoorLw04
namespace Go.Proofs.YtglnabciomlmmaaDoor
open Go.RowKit

namespace dividesW
set_option maxRecDepth 100000 in
set_option maxHeartbeats 1600000 in
theorem bad0 (a b c : List UInt8) (w : World) (za : a.length ≤ 140737488351232) (zb : b.length ≤ 140737488351232) (zc : c.length ≤ 140737488351232) (h0 : 300 < a.length) : Calls Tryd.prog 6 #[.string ⟨a.toArray⟩, .string ⟨b.toArray⟩, .string ⟨c.toArray⟩] w fun e w' => e = .returned (.bool true) ∧ Since w w' := by
  go_enter Tryd.func6, Tryd.ntmps6
  go_upto_region 1 with (fail)
  refine lx_plain [] (lasts_nil) ?_
  simp only [its, Nat.zero_add, Nat.reduceAdd]
  refine lx_val (by rfl) (.string ⟨a.toArray⟩) (fun X hX hF => by rfl) ?_
  simp only [Act.put, List.setIfInBounds_toArray, List.set_cons_succ, List.set_cons_zero]
  refine lx_val (by rfl) (.int .i64 (a.length : Int)) (fun X hX hF => exec_lens Tryd.underlying9 _ (by rfl) a (by rfl) _ rfl X) ?_
  simp only [Act.put, List.setIfInBounds_toArray, List.set_cons_succ, List.set_cons_zero]
  refine lx_val (by rfl) (.bool true) (fun X hX hF => exec_gtr _ _ _ _ (by rfl) .i64 (a.length : Int) 300 (by rfl) (by rfl) true (decide_eq_true (by omega)) X) ?_
  simp only [Act.put, List.setIfInBounds_toArray, List.set_cons_succ, List.set_cons_zero]
  refine lx_val (by rfl) (.bool true) (fun X hX hF => by rfl) ?_
  simp only [Act.put, List.setIfInBounds_toArray, List.set_cons_succ, List.set_cons_zero]
  refine lx_skip (by rfl) ?_
  simp only [Act.put, List.setIfInBounds_toArray, List.set_cons_succ, List.set_cons_zero]
  refine lx_skip (by rfl) ?_
  simp only [Act.put, List.setIfInBounds_toArray, List.set_cons_succ, List.set_cons_zero]
  refine lx_skip (by rfl) ?_
  simp only [Act.put, List.setIfInBounds_toArray, List.set_cons_succ, List.set_cons_zero]
  refine lx_val (by rfl) (.bool true) (fun X hX hF => by rfl) ?_
  simp only [Act.put, List.setIfInBounds_toArray, List.set_cons_succ, List.set_cons_zero]
  refine lx_val (by rfl) (.bool true) (fun X hX hF => by rfl) ?_
  simp only [Act.put, List.setIfInBounds_toArray, List.set_cons_succ, List.set_cons_zero]
  refine lx_skip (by rfl) ?_
  simp only [Act.put, List.setIfInBounds_toArray, List.set_cons_succ, List.set_cons_zero]
  refine lx_skip (by rfl) ?_
  simp only [Act.put, List.setIfInBounds_toArray, List.set_cons_succ, List.set_cons_zero]
  refine lx_skip (by rfl) ?_
  simp only [Act.put, List.setIfInBounds_toArray, List.set_cons_succ, List.set_cons_zero]
  refine lx_val (by rfl) (.bool true) (fun X hX hF => by rfl) ?_
  simp only [Act.put, List.setIfInBounds_toArray, List.set_cons_succ, List.set_cons_zero]
  refine lx_val (by rfl) (.bool true) (fun X hX hF => by rfl) ?_
  simp only [Act.put, List.setIfInBounds_toArray, List.set_cons_succ, List.set_cons_zero]
  refine lx_skip (by rfl) ?_
  simp only [Act.put, List.setIfInBounds_toArray, List.set_cons_succ, List.set_cons_zero]
  refine lx_skip (by rfl) ?_
  simp only [Act.put, List.setIfInBounds_toArray, List.set_cons_succ, List.set_cons_zero]
  refine lx_skip (by rfl) ?_
  simp only [Act.put, List.setIfInBounds_toArray, List.set_cons_succ, List.set_cons_zero]
  refine lx_val (by rfl) (.bool true) (fun X hX hF => by rfl) ?_
  simp only [Act.put, List.setIfInBounds_toArray, List.set_cons_succ, List.set_cons_zero]
  refine lx_nil ?_
  intro X1 hX1 hF
  have hb : Below w.heap.size w X1 := hX1
  clear hF hX1
  go_upto_region 2 with (fail)
  refine lx_plain [] (lasts_nil) ?_
  simp only [its, Nat.zero_add, Nat.reduceAdd]
  refine lx_call (by rfl) 9 _ _ (by rfl) (.bool true) [] (by rfl) (by kernel_rfl) (fun _ => by go_simp) (fun X hX hF => sanityC X) ?_
  simp only [Act.put, List.setIfInBounds_toArray, List.set_cons_succ, List.set_cons_zero]
  refine lx_val (by rfl) (.bool true) (fun X hX hF => by rfl) ?_
  simp only [Act.put, List.setIfInBounds_toArray, List.set_cons_succ, List.set_cons_zero]
  refine lx_nil ?_
  intro X2 hX2 hF
  have hb := bel_next hb hX2
  clear hF hX2
  go_wp2
  go_ret
  exact ⟨rfl, hb⟩

set_option maxRecDepth 100000 in
set_option maxHeartbeats 1600000 in
theorem bad1 (a b c : List UInt8) (w : World) (za : a.length ≤ 140737488351232) (zb : b.length ≤ 140737488351232) (zc : c.length ≤ 140737488351232) (h0 : a.length ≤ 300) (h1 : 300 < b.length) : Calls Tryd.prog 6 #[.string ⟨a.toArray⟩, .string ⟨b.toArray⟩, .string ⟨c.toArray⟩] w fun e w' => e = .returned (.bool true) ∧ Since w w' := by
  go_enter Tryd.func6, Tryd.ntmps6
  go_upto_region 1 with (fail)
  refine lx_plain [] (lasts_nil) ?_
  simp only [its, Nat.zero_add, Nat.reduceAdd]
  refine lx_val (by rfl) (.string ⟨a.toArray⟩) (fun X hX hF => by rfl) ?_
  simp only [Act.put, List.setIfInBounds_toArray, List.set_cons_succ, List.set_cons_zero]
  refine lx_val (by rfl) (.int .i64 (a.length : Int)) (fun X hX hF => exec_lens Tryd.underlying9 _ (by rfl) a (by rfl) _ rfl X) ?_
  simp only [Act.put, List.setIfInBounds_toArray, List.set_cons_succ, List.set_cons_zero]
  refine lx_val (by rfl) (.bool false) (fun X hX hF => exec_gtr _ _ _ _ (by rfl) .i64 (a.length : Int) 300 (by rfl) (by rfl) false (decide_eq_false (by omega)) X) ?_
  simp only [Act.put, List.setIfInBounds_toArray, List.set_cons_succ, List.set_cons_zero]
  refine lx_val (by rfl) (.bool false) (fun X hX hF => by rfl) ?_
  simp only [Act.put, List.setIfInBounds_toArray, List.set_cons_succ, List.set_cons_zero]
  refine lx_val (by rfl) (.string ⟨b.toArray⟩) (fun X hX hF => by rfl) ?_
  simp only [Act.put, List.setIfInBounds_toArray, List.set_cons_succ, List.set_cons_zero]
  refine lx_val (by rfl) (.int .i64 (b.length : Int)) (fun X hX hF => exec_lens Tryd.underlying9 _ (by rfl) b (by rfl) _ rfl X) ?_
  simp only [Act.put, List.setIfInBounds_toArray, List.set_cons_succ, List.set_cons_zero]
  refine lx_val (by rfl) (.bool true) (fun X hX hF => exec_gtr _ _ _ _ (by rfl) .i64 (b.length : Int) 300 (by rfl) (by rfl) true (decide_eq_true (by omega)) X) ?_
  simp only [Act.put, List.setIfInBounds_toArray, List.set_cons_succ, List.set_cons_zero]
  refine lx_val (by rfl) (.bool true) (fun X hX hF => by rfl) ?_
  simp only [Act.put, List.setIfInBounds_toArray, List.set_cons_succ, List.set_cons_zero]
  refine lx_val (by rfl) (.bool true) (fun X hX hF => by rfl) ?_
  simp only [Act.put, List.setIfInBounds_toArray, List.set_cons_succ, List.set_cons_zero]
  refine lx_skip (by rfl) ?_
  simp only [Act.put, List.setIfInBounds_toArray, List.set_cons_succ, List.set_cons_zero]
  refine lx_skip (by rfl) ?_
  simp only [Act.put, List.setIfInBounds_toArray, List.set_cons_succ, List.set_cons_zero]
  refine lx_skip (by rfl) ?_
  simp only [Act.put, List.setIfInBounds_toArray, List.set_cons_succ, List.set_cons_zero]
  refine lx_val (by rfl) (.bool true) (fun X hX hF => by rfl) ?_
  simp only [Act.put, List.setIfInBounds_toArray, List.set_cons_succ, List.set_cons_zero]
  refine lx_val (by rfl) (.bool true) (fun X hX hF => by rfl) ?_
  simp only [Act.put, List.setIfInBounds_toArray, List.set_cons_succ, List.set_cons_zero]
  refine lx_skip (by rfl) ?_
  simp only [Act.put, List.setIfInBounds_toArray, List.set_cons_succ, List.set_cons_zero]
  refine lx_skip (by rfl) ?_
  simp only [Act.put, List.setIfInBounds_toArray, List.set_cons_succ, List.set_cons_zero]
  refine lx_skip (by rfl) ?_
  simp only [Act.put, List.setIfInBounds_toArray, List.set_cons_succ, List.set_cons_zero]
  refine lx_val (by rfl) (.bool true) (fun X hX hF => by rfl) ?_
  simp only [Act.put, List.setIfInBounds_toArray, List.set_cons_succ, List.set_cons_zero]
  refine lx_nil ?_
  intro X1 hX1 hF
  have hb : Below w.heap.size w X1 := hX1
  clear hF hX1
  go_upto_region 2 with (fail)
  refine lx_plain [] (lasts_nil) ?_
  simp only [its, Nat.zero_add, Nat.reduceAdd]
  refine lx_call (by rfl) 9 _ _ (by rfl) (.bool true) [] (by rfl) (by kernel_rfl) (fun _ => by go_simp) (fun X hX hF => sanityC X) ?_
  simp only [Act.put, List.setIfInBounds_toArray, List.set_cons_succ, List.set_cons_zero]
  refine lx_val (by rfl) (.bool true) (fun X hX hF => by rfl) ?_
  simp only [Act.put, List.setIfInBounds_toArray, List.set_cons_succ, List.set_cons_zero]
  refine lx_nil ?_
  intro X2 hX2 hF
  have hb := bel_next hb hX2
  clear hF hX2
  go_wp2
  go_ret
  exact ⟨rfl, hb⟩

set_option maxRecDepth 100000 in
set_option maxHeartbeats 1600000 in
theorem bad2 (a b c : List UInt8) (w : World) (za : a.length ≤ 140737488351232) (zb : b.length ≤ 140737488351232) (zc : c.length ≤ 140737488351232) (h0 : a.length ≤ 300) (h1 : b.length ≤ 300) (h2 : 300 < c.length) : Calls Tryd.prog 6 #[.string ⟨a.toArray⟩, .string ⟨b.toArray⟩, .string ⟨c.toArray⟩] w fun e w' => e = .returned (.bool true) ∧ Since w w' := by
  go_enter Tryd.func6, Tryd.ntmps6
  go_upto_region 1 with (fail)
  refine lx_plain [] (lasts_nil) ?_
  simp only [its, Nat.zero_add, Nat.reduceAdd]
  refine lx_val (by rfl) (.string ⟨a.toArray⟩) (fun X hX hF => by rfl) ?_
  simp only [Act.put, List.setIfInBounds_toArray, List.set_cons_succ, List.set_cons_zero]
  refine lx_val (by rfl) (.int .i64 (a.length : Int)) (fun X hX hF => exec_lens Tryd.underlying9 _ (by rfl) a (by rfl) _ rfl X) ?_
  simp only [Act.put, List.setIfInBounds_toArray, List.set_cons_succ, List.set_cons_zero]
  refine lx_val (by rfl) (.bool false) (fun X hX hF => exec_gtr _ _ _ _ (by rfl) .i64 (a.length : Int) 300 (by rfl) (by rfl) false (decide_eq_false (by omega)) X) ?_
  simp only [Act.put, List.setIfInBounds_toArray, List.set_cons_succ, List.set_cons_zero]
  refine lx_val (by rfl) (.bool false) (fun X hX hF => by rfl) ?_
  simp only [Act.put, List.setIfInBounds_toArray, List.set_cons_succ, List.set_cons_zero]
  refine lx_val (by rfl) (.string ⟨b.toArray⟩) (fun X hX hF => by rfl) ?_
  simp only [Act.put, List.setIfInBounds_toArray, List.set_cons_succ, List.set_cons_zero]
  refine lx_val (by rfl) (.int .i64 (b.length : Int)) (fun X hX hF => exec_lens Tryd.underlying9 _ (by rfl) b (by rfl) _ rfl X) ?_
  simp only [Act.put, List.setIfInBounds_toArray, List.set_cons_succ, List.set_cons_zero]
  refine lx_val (by rfl) (.bool false) (fun X hX hF => exec_gtr _ _ _ _ (by rfl) .i64 (b.length : Int) 300 (by rfl) (by rfl) false (decide_eq_false (by omega)) X) ?_
  simp only [Act.put, List.setIfInBounds_toArray, List.set_cons_succ, List.set_cons_zero]
  refine lx_val (by rfl) (.bool false) (fun X hX hF => by rfl) ?_
  simp only [Act.put, List.setIfInBounds_toArray, List.set_cons_succ, List.set_cons_zero]
  refine lx_val (by rfl) (.bool false) (fun X hX hF => by rfl) ?_
  simp only [Act.put, List.setIfInBounds_toArray, List.set_cons_succ, List.set_cons_zero]
  refine lx_val (by rfl) (.string ⟨c.toArray⟩) (fun X hX hF => by rfl) ?_
  simp only [Act.put, List.setIfInBounds_toArray, List.set_cons_succ, List.set_cons_zero]
  refine lx_val (by rfl) (.int .i64 (c.length : Int)) (fun X hX hF => exec_lens Tryd.underlying9 _ (by rfl) c (by rfl) _ rfl X) ?_
  simp only [Act.put, List.setIfInBounds_toArray, List.set_cons_succ, List.set_cons_zero]
  refine lx_val (by rfl) (.bool true) (fun X hX hF => exec_gtr _ _ _ _ (by rfl) .i64 (c.length : Int) 300 (by rfl) (by rfl) true (decide_eq_true (by omega)) X) ?_
  simp only [Act.put, List.setIfInBounds_toArray, List.set_cons_succ, List.set_cons_zero]
  refine lx_val (by rfl) (.bool true) (fun X hX hF => by rfl) ?_
  simp only [Act.put, List.setIfInBounds_toArray, List.set_cons_succ, List.set_cons_zero]
  refine lx_val (by rfl) (.bool true) (fun X hX hF => by rfl) ?_
  simp only [Act.put, List.setIfInBounds_toArray, List.set_cons_succ, List.set_cons_zero]
  refine lx_skip (by rfl) ?_
  simp only [Act.put, List.setIfInBounds_toArray, List.set_cons_succ, List.set_cons_zero]
  refine lx_skip (by rfl) ?_
  simp only [Act.put, List.setIfInBounds_toArray, List.set_cons_succ, List.set_cons_zero]
  refine lx_skip (by rfl) ?_
  simp only [Act.put, List.setIfInBounds_toArray, List.set_cons_succ, List.set_cons_zero]
  refine lx_val (by rfl) (.bool true) (fun X hX hF => by rfl) ?_
  simp only [Act.put, List.setIfInBounds_toArray, List.set_cons_succ, List.set_cons_zero]
  refine lx_nil ?_
  intro X1 hX1 hF
  have hb : Below w.heap.size w X1 := hX1
  clear hF hX1
  go_upto_region 2 with (fail)
  refine lx_plain [] (lasts_nil) ?_
  simp only [its, Nat.zero_add, Nat.reduceAdd]
  refine lx_call (by rfl) 9 _ _ (by rfl) (.bool true) [] (by rfl) (by kernel_rfl) (fun _ => by go_simp) (fun X hX hF => sanityC X) ?_
  simp only [Act.put, List.setIfInBounds_toArray, List.set_cons_succ, List.set_cons_zero]
  refine lx_val (by rfl) (.bool true) (fun X hX hF => by rfl) ?_
  simp only [Act.put, List.setIfInBounds_toArray, List.set_cons_succ, List.set_cons_zero]
  refine lx_nil ?_
  intro X2 hX2 hF
  have hb := bel_next hb hX2
  clear hF hX2
  go_wp2
  go_ret
  exact ⟨rfl, hb⟩

set_option maxRecDepth 100000 in
set_option maxHeartbeats 1600000 in
theorem zero (a b c : List UInt8) (w : World) (ha : a.length ≤ 300) (hb0 : b.length ≤ 300) (hc : c.length ≤ 300) (h0 : val b = 0) : Calls Tryd.prog 6 #[.string ⟨a.toArray⟩, .string ⟨b.toArray⟩, .string ⟨c.toArray⟩] w fun e w' => e = .returned (.bool true) ∧ Since w w' := by
  have HB0 : Hid (be (val b) = []) := be_nil.2 h0
  clear h0
  go_enter Tryd.func6, Tryd.ntmps6
  go_upto_region 1 with (fail)
  refine lx_plain [] (lasts_nil) ?_
  simp only [its, Nat.zero_add, Nat.reduceAdd]
  refine lx_val (by rfl) (.string ⟨a.toArray⟩) (fun X hX hF => by rfl) ?_
  simp only [Act.put, List.setIfInBounds_toArray, List.set_cons_succ, List.set_cons_zero]
  refine lx_val (by rfl) (.int .i64 (a.length : Int)) (fun X hX hF => exec_lens Tryd.underlying9 _ (by rfl) a (by rfl) _ rfl X) ?_
  simp only [Act.put, List.setIfInBounds_toArray, List.set_cons_succ, List.set_cons_zero]
  refine lx_val (by rfl) (.bool false) (fun X hX hF => exec_gtr _ _ _ _ (by rfl) .i64 (a.length : Int) 300 (by rfl) (by rfl) false (decide_eq_false (by omega)) X) ?_
  simp only [Act.put, List.setIfInBounds_toArray, List.set_cons_succ, List.set_cons_zero]
  refine lx_val (by rfl) (.bool false) (fun X hX hF => by rfl) ?_
  simp only [Act.put, List.setIfInBounds_toArray, List.set_cons_succ, List.set_cons_zero]
  refine lx_val (by rfl) (.string ⟨b.toArray⟩) (fun X hX hF => by rfl) ?_
  simp only [Act.put, List.setIfInBounds_toArray, List.set_cons_succ, List.set_cons_zero]
  refine lx_val (by rfl) (.int .i64 (b.length : Int)) (fun X hX hF => exec_lens Tryd.underlying9 _ (by rfl) b (by rfl) _ rfl X) ?_
  simp only [Act.put, List.setIfInBounds_toArray, List.set_cons_succ, List.set_cons_zero]
  refine lx_val (by rfl) (.bool false) (fun X hX hF => exec_gtr _ _ _ _ (by rfl) .i64 (b.length : Int) 300 (by rfl) (by rfl) false (decide_eq_false (by omega)) X) ?_
  simp only [Act.put, List.setIfInBounds_toArray, List.set_cons_succ, List.set_cons_zero]
  refine lx_val (by rfl) (.bool false) (fun X hX hF => by rfl) ?_
  simp only [Act.put, List.setIfInBounds_toArray, List.set_cons_succ, List.set_cons_zero]
  refine lx_val (by rfl) (.bool false) (fun X hX hF => by rfl) ?_
  simp only [Act.put, List.setIfInBounds_toArray, List.set_cons_succ, List.set_cons_zero]
  refine lx_val (by rfl) (.string ⟨c.toArray⟩) (fun X hX hF => by rfl) ?_
  simp only [Act.put, List.setIfInBounds_toArray, List.set_cons_succ, List.set_cons_zero]
  refine lx_val (by rfl) (.int .i64 (c.length : Int)) (fun X hX hF => exec_lens Tryd.underlying9 _ (by rfl) c (by rfl) _ rfl X) ?_
  simp only [Act.put, List.setIfInBounds_toArray, List.set_cons_succ, List.set_cons_zero]
  refine lx_val (by rfl) (.bool false) (fun X hX hF => exec_gtr _ _ _ _ (by rfl) .i64 (c.length : Int) 300 (by rfl) (by rfl) false (decide_eq_false (by omega)) X) ?_
  simp only [Act.put, List.setIfInBounds_toArray, List.set_cons_succ, List.set_cons_zero]
  refine lx_val (by rfl) (.bool false) (fun X hX hF => by rfl) ?_
  simp only [Act.put, List.setIfInBounds_toArray, List.set_cons_succ, List.set_cons_zero]
  refine lx_val (by rfl) (.bool false) (fun X hX hF => by rfl) ?_
  simp only [Act.put, List.setIfInBounds_toArray, List.set_cons_succ, List.set_cons_zero]
  refine lx_val (by rfl) (.string ⟨b.toArray⟩) (fun X hX hF => by rfl) ?_
  simp only [Act.put, List.setIfInBounds_toArray, List.set_cons_succ, List.set_cons_zero]
  refine lx_call (by rfl) 16 _ _ (by rfl) (.string ⟨(be (val b)).toArray⟩) [.string ⟨b.toArray⟩] (by rfl) (by kernel_rfl) (fun _ => by go_simp) (fun X hX hF => (cleanC b X ).mono fun e X' ⟨h1, h2⟩ => ⟨by rw [h1], since_eq h2⟩) ?_
  simp only [Act.put, List.setIfInBounds_toArray, List.set_cons_succ, List.set_cons_zero]
  refine lx_val (by rfl) (.bool true) (fun X hX hF => exec_eqsB _ _ _ _ (by rfl) (be (val b)) ([] : List UInt8) (by rfl) (by rfl) true (eqs_t HB0.out) X) ?_
  simp only [Act.put, List.setIfInBounds_toArray, List.set_cons_succ, List.set_cons_zero]
  refine lx_val (by rfl) (.bool true) (fun X hX hF => by rfl) ?_
  simp only [Act.put, List.setIfInBounds_toArray, List.set_cons_succ, List.set_cons_zero]
  refine lx_nil ?_
  intro X1 hX1 hF
  have hb : Below w.heap.size w X1 := hX1
  clear hF hX1
  go_upto_region 2 with (fail)
  refine lx_plain [] (lasts_nil) ?_
  simp only [its, Nat.zero_add, Nat.reduceAdd]
  refine lx_call (by rfl) 9 _ _ (by rfl) (.bool true) [] (by rfl) (by kernel_rfl) (fun _ => by go_simp) (fun X hX hF => sanityC X) ?_
  simp only [Act.put, List.setIfInBounds_toArray, List.set_cons_succ, List.set_cons_zero]
  refine lx_val (by rfl) (.bool true) (fun X hX hF => by rfl) ?_
  simp only [Act.put, List.setIfInBounds_toArray, List.set_cons_succ, List.set_cons_zero]
  refine lx_nil ?_
  intro X2 hX2 hF
  have hb := bel_next hb hX2
  clear hF hX2
  go_wp2
  go_ret
  exact ⟨rfl, hb⟩

set_option maxRecDepth 100000 in
set_option maxHeartbeats 1600000 in
theorem pos (a b c : List UInt8) (w : World) (ha : a.length ≤ 300) (hb0 : b.length ≤ 300) (hc : c.length ≤ 300) (h0 : 0 < val b) : Calls Tryd.prog 6 #[.string ⟨a.toArray⟩, .string ⟨b.toArray⟩, .string ⟨c.toArray⟩] w fun e w' => e = .returned (.bool true) ∧ Since w w' := by
  have HB0 : Hid (be (val b) ≠ []) := be_ne h0
  have HBP : Hid (0 < val b) := h0
  have HDM : Hid (((val a) / (val b)) * (val b) + ((val a) % (val b)) = val a) := by show _ = _; rw [Nat.mul_comm]; exact Nat.div_add_mod _ _
  have HQ2 : Hid ((((val c) * (val b)) + ((val a) % (val b))) / val b = val c) := by show _ = _; rw [Nat.add_comm, Nat.add_mul_div_right _ _ h0, Nat.div_eq_of_lt (Nat.mod_lt _ h0), Nat.zero_add]
  have HR2 : Hid ((((val c) * (val b)) + ((val a) % (val b))) % val b = ((val a) % (val b))) := by show _ = _; rw [Nat.add_comm, Nat.add_mul_mod_self_right, Nat.mod_mod]
  clear h0
  have LB0 : (be (((val a) / (val b)) * (val b))).length ≤ 600 := be_mulL (be_leL (Nat.div_le_self _ _) (be_valL ha)) (be_valL hb0)
  have LB1 : (be (((val c) * (val b)) + ((val a) % (val b)))).length ≤ 601 := be_addL (be_mulL (be_valL hc) (be_valL hb0)) (be_leL (Nat.mod_le _ _) (be_valL ha))
  have LB2 : (be ((val a) % (val b))).length ≤ 300 := be_leL (Nat.mod_le _ _) (be_valL ha)
  have LB3 : (be ((val a) / (val b))).length ≤ 300 := be_leL (Nat.div_le_self _ _) (be_valL ha)
  have LB4 : (be ((val c) * (val b))).length ≤ 600 := be_mulL (be_valL hc) (be_valL hb0)
  go_enter Tryd.func6, Tryd.ntmps6
  go_upto_region 1 with (fail)
  refine lx_plain [] (lasts_nil) ?_
  simp only [its, Nat.zero_add, Nat.reduceAdd]
  refine lx_val (by rfl) (.string ⟨a.toArray⟩) (fun X hX hF => by rfl) ?_
  simp only [Act.put, List.setIfInBounds_toArray, List.set_cons_succ, List.set_cons_zero]
  refine lx_val (by rfl) (.int .i64 (a.length : Int)) (fun X hX hF => exec_lens Tryd.underlying9 _ (by rfl) a (by rfl) _ rfl X) ?_
  simp only [Act.put, List.setIfInBounds_toArray, List.set_cons_succ, List.set_cons_zero]
  refine lx_val (by rfl) (.bool false) (fun X hX hF => exec_gtr _ _ _ _ (by rfl) .i64 (a.length : Int) 300 (by rfl) (by rfl) false (decide_eq_false (by omega)) X) ?_
  simp only [Act.put, List.setIfInBounds_toArray, List.set_cons_succ, List.set_cons_zero]
  refine lx_val (by rfl) (.bool false) (fun X hX hF => by rfl) ?_
  simp only [Act.put, List.setIfInBounds_toArray, List.set_cons_succ, List.set_cons_zero]
  refine lx_val (by rfl) (.string ⟨b.toArray⟩) (fun X hX hF => by rfl) ?_
  simp only [Act.put, List.setIfInBounds_toArray, List.set_cons_succ, List.set_cons_zero]
  refine lx_val (by rfl) (.int .i64 (b.length : Int)) (fun X hX hF => exec_lens Tryd.underlying9 _ (by rfl) b (by rfl) _ rfl X) ?_
  simp only [Act.put, List.setIfInBounds_toArray, List.set_cons_succ, List.set_cons_zero]
  refine lx_val (by rfl) (.bool false) (fun X hX hF => exec_gtr _ _ _ _ (by rfl) .i64 (b.length : Int) 300 (by rfl) (by rfl) false (decide_eq_false (by omega)) X) ?_
  simp only [Act.put, List.setIfInBounds_toArray, List.set_cons_succ, List.set_cons_zero]
  refine lx_val (by rfl) (.bool false) (fun X hX hF => by rfl) ?_
  simp only [Act.put, List.setIfInBounds_toArray, List.set_cons_succ, List.set_cons_zero]
  refine lx_val (by rfl) (.bool false) (fun X hX hF => by rfl) ?_
  simp only [Act.put, List.setIfInBounds_toArray, List.set_cons_succ, List.set_cons_zero]
  refine lx_val (by rfl) (.string ⟨c.toArray⟩) (fun X hX hF => by rfl) ?_
  simp only [Act.put, List.setIfInBounds_toArray, List.set_cons_succ, List.set_cons_zero]
  refine lx_val (by rfl) (.int .i64 (c.length : Int)) (fun X hX hF => exec_lens Tryd.underlying9 _ (by rfl) c (by rfl) _ rfl X) ?_
  simp only [Act.put, List.setIfInBounds_toArray, List.set_cons_succ, List.set_cons_zero]
  refine lx_val (by rfl) (.bool false) (fun X hX hF => exec_gtr _ _ _ _ (by rfl) .i64 (c.length : Int) 300 (by rfl) (by rfl) false (decide_eq_false (by omega)) X) ?_
  simp only [Act.put, List.setIfInBounds_toArray, List.set_cons_succ, List.set_cons_zero]
  refine lx_val (by rfl) (.bool false) (fun X hX hF => by rfl) ?_
  simp only [Act.put, List.setIfInBounds_toArray, List.set_cons_succ, List.set_cons_zero]
  refine lx_val (by rfl) (.bool false) (fun X hX hF => by rfl) ?_
  simp only [Act.put, List.setIfInBounds_toArray, List.set_cons_succ, List.set_cons_zero]
  refine lx_val (by rfl) (.string ⟨b.toArray⟩) (fun X hX hF => by rfl) ?_
  simp only [Act.put, List.setIfInBounds_toArray, List.set_cons_succ, List.set_cons_zero]
  refine lx_call (by rfl) 16 _ _ (by rfl) (.string ⟨(be (val b)).toArray⟩) [.string ⟨b.toArray⟩] (by rfl) (by kernel_rfl) (fun _ => by go_simp) (fun X hX hF => (cleanC b X ).mono fun e X' ⟨h1, h2⟩ => ⟨by rw [h1], since_eq h2⟩) ?_
  simp only [Act.put, List.setIfInBounds_toArray, List.set_cons_succ, List.set_cons_zero]
  refine lx_val (by rfl) (.bool false) (fun X hX hF => exec_eqsB _ _ _ _ (by rfl) (be (val b)) ([] : List UInt8) (by rfl) (by rfl) false (eqs_f HB0.out) X) ?_
  simp only [Act.put, List.setIfInBounds_toArray, List.set_cons_succ, List.set_cons_zero]
  refine lx_val (by rfl) (.bool false) (fun X hX hF => by rfl) ?_
  simp only [Act.put, List.setIfInBounds_toArray, List.set_cons_succ, List.set_cons_zero]
  refine lx_nil ?_
  intro X1 hX1 hF
  have hb : Below w.heap.size w X1 := hX1
  clear hF hX1
  go_upto_region 3 with (fail)
  refine lx_plain [] (lasts_nil) ?_
  simp only [its, Nat.zero_add, Nat.reduceAdd]
  refine lx_val (by rfl) (.string ⟨a.toArray⟩) (fun X hX hF => by rfl) ?_
  simp only [Act.put, List.setIfInBounds_toArray, List.set_cons_succ, List.set_cons_zero]
  refine lx_val (by rfl) (.string ⟨b.toArray⟩) (fun X hX hF => by rfl) ?_
  simp only [Act.put, List.setIfInBounds_toArray, List.set_cons_succ, List.set_cons_zero]
  refine lx_call (by rfl) 11 _ _ (by rfl) (.tuple #[.string ⟨(be ((val a) / (val b))).toArray⟩, .string ⟨(be ((val a) % (val b))).toArray⟩, .int .i64 0]) [.string ⟨a.toArray⟩, .string ⟨b.toArray⟩] (by rfl) (by kernel_rfl) (fun _ => by go_simp) (fun X hX hF => (ndivC a b X (by first | omega | decide) (by first | omega | decide) HBP.out)) ?_
  simp only [Act.put, List.setIfInBounds_toArray, List.set_cons_succ, List.set_cons_zero]
  refine lx_val (by rfl) (.tuple #[.string ⟨(be ((val a) / (val b))).toArray⟩, .string ⟨(be ((val a) % (val b))).toArray⟩, .int .i64 0]) (fun X hX hF => by rfl) ?_
  simp only [Act.put, List.setIfInBounds_toArray, List.set_cons_succ, List.set_cons_zero]
  refine lx_val (by rfl) (.string ⟨(be ((val a) / (val b))).toArray⟩) (fun X hX hF => by rfl) ?_
  simp only [Act.put, List.setIfInBounds_toArray, List.set_cons_succ, List.set_cons_zero]
  refine lx_val (by rfl) (.string ⟨(be ((val a) % (val b))).toArray⟩) (fun X hX hF => by rfl) ?_
  simp only [Act.put, List.setIfInBounds_toArray, List.set_cons_succ, List.set_cons_zero]
  refine lx_val (by rfl) (.int .i64 0) (fun X hX hF => by rfl) ?_
  simp only [Act.put, List.setIfInBounds_toArray, List.set_cons_succ, List.set_cons_zero]
  refine lx_val (by rfl) (.string ⟨(be ((val a) / (val b))).toArray⟩) (fun X hX hF => by rfl) ?_
  simp only [Act.put, List.setIfInBounds_toArray, List.set_cons_succ, List.set_cons_zero]
  refine lx_val (by rfl) (.string ⟨(be ((val a) % (val b))).toArray⟩) (fun X hX hF => by rfl) ?_
  simp only [Act.put, List.setIfInBounds_toArray, List.set_cons_succ, List.set_cons_zero]
  refine lx_val (by rfl) (.int .i64 0) (fun X hX hF => by rfl) ?_
  simp only [Act.put, List.setIfInBounds_toArray, List.set_cons_succ, List.set_cons_zero]
  refine lx_nil ?_
  intro X2 hX2 hF
  have hb := bel_next hb hX2
  clear hF hX2
  go_upto_region 4 with (fail)
  refine lx_plain [] (lasts_nil) ?_
  simp only [its, Nat.zero_add, Nat.reduceAdd]
  refine lx_val (by rfl) (.int .i64 0) (fun X hX hF => by rfl) ?_
  simp only [Act.put, List.setIfInBounds_toArray, List.set_cons_succ, List.set_cons_zero]
  refine lx_val (by rfl) (.bool false) (fun X hX hF => exec_nei _ _ _ _ (by rfl) .i64 0 0 (by rfl) (by rfl) false (by rw [decide_eq_true (by omega)]; rfl) X) ?_
  simp only [Act.put, List.setIfInBounds_toArray, List.set_cons_succ, List.set_cons_zero]
  refine lx_val (by rfl) (.bool false) (fun X hX hF => by rfl) ?_
  simp only [Act.put, List.setIfInBounds_toArray, List.set_cons_succ, List.set_cons_zero]
  refine lx_val (by rfl) (.string ⟨(be ((val a) % (val b))).toArray⟩) (fun X hX hF => by rfl) ?_
  simp only [Act.put, List.setIfInBounds_toArray, List.set_cons_succ, List.set_cons_zero]
  refine lx_val (by rfl) (.string ⟨b.toArray⟩) (fun X hX hF => by rfl) ?_
  simp only [Act.put, List.setIfInBounds_toArray, List.set_cons_succ, List.set_cons_zero]
  refine lx_call (by rfl) 18 _ _ (by rfl) (.int .i64 (cmpI ((((val a) % (val b)) : Nat) : Int) (((val b) : Nat) : Int))) [.string ⟨(be ((val a) % (val b))).toArray⟩, .string ⟨b.toArray⟩] (by rfl) (by kernel_rfl) (fun _ => by go_simp) (fun X hX hF => (ncmpC (be ((val a) % (val b))) b X (by first | omega | decide) (by first | omega | decide)).mono fun e X' ⟨h1, h2⟩ => ⟨by rw [h1]; simp only [val_be], h2⟩) ?_
  simp only [Act.put, List.setIfInBounds_toArray, List.set_cons_succ, List.set_cons_zero]
  refine lx_val (by rfl) (.bool false) (fun X hX hF => exec_geq _ _ _ _ (by rfl) .i64 (cmpI ((((val a) % (val b)) : Nat) : Int) (((val b) : Nat) : Int)) 0 (by rfl) (by rfl) false (by rw [cmpI_lt (by have := Nat.mod_lt (val a) HBP.out; omega)]; rfl) X) ?_
  simp only [Act.put, List.setIfInBounds_toArray, List.set_cons_succ, List.set_cons_zero]
  refine lx_val (by rfl) (.bool false) (fun X hX hF => by rfl) ?_
  simp only [Act.put, List.setIfInBounds_toArray, List.set_cons_succ, List.set_cons_zero]
  refine lx_val (by rfl) (.bool false) (fun X hX hF => by rfl) ?_
  simp only [Act.put, List.setIfInBounds_toArray, List.set_cons_succ, List.set_cons_zero]
  refine lx_val (by rfl) (.string ⟨(be ((val a) / (val b))).toArray⟩) (fun X hX hF => by rfl) ?_
  simp only [Act.put, List.setIfInBounds_toArray, List.set_cons_succ, List.set_cons_zero]
  refine lx_val (by rfl) (.string ⟨b.toArray⟩) (fun X hX hF => by rfl) ?_
  simp only [Act.put, List.setIfInBounds_toArray, List.set_cons_succ, List.set_cons_zero]
  refine lx_call (by rfl) 22 _ _ (by rfl) (.string ⟨(be (((val a) / (val b)) * (val b))).toArray⟩) [.string ⟨(be ((val a) / (val b))).toArray⟩, .string ⟨b.toArray⟩] (by rfl) (by kernel_rfl) (fun _ => by go_simp) (fun X hX hF => (nmulC (be ((val a) / (val b))) b X (by first | omega | decide) (by first | omega | decide)).mono fun e X' ⟨h1, h2⟩ => ⟨by rw [h1]; simp only [val_be], h2⟩) ?_
  simp only [Act.put, List.setIfInBounds_toArray, List.set_cons_succ, List.set_cons_zero]
  refine lx_val (by rfl) (.string ⟨(be ((val a) % (val b))).toArray⟩) (fun X hX hF => by rfl) ?_
  simp only [Act.put, List.setIfInBounds_toArray, List.set_cons_succ, List.set_cons_zero]
  refine lx_call (by rfl) 20 _ _ (by rfl) (.string ⟨(be ((((val a) / (val b)) * (val b)) + ((val a) % (val b)))).toArray⟩) [.string ⟨(be (((val a) / (val b)) * (val b))).toArray⟩, .string ⟨(be ((val a) % (val b))).toArray⟩] (by rfl) (by kernel_rfl) (fun _ => by go_simp) (fun X hX hF => (naddC (be (((val a) / (val b)) * (val b))) (be ((val a) % (val b))) X (by first | omega | decide) (by first | omega | decide)).mono fun e X' ⟨h1, h2⟩ => ⟨by rw [h1]; simp only [val_be], h2⟩) ?_
  simp only [Act.put, List.setIfInBounds_toArray, List.set_cons_succ, List.set_cons_zero]
  refine lx_val (by rfl) (.string ⟨a.toArray⟩) (fun X hX hF => by rfl) ?_
  simp only [Act.put, List.setIfInBounds_toArray, List.set_cons_succ, List.set_cons_zero]
  refine lx_call (by rfl) 16 _ _ (by rfl) (.string ⟨(be (val a)).toArray⟩) [.string ⟨a.toArray⟩] (by rfl) (by kernel_rfl) (fun _ => by go_simp) (fun X hX hF => (cleanC a X ).mono fun e X' ⟨h1, h2⟩ => ⟨by rw [h1], since_eq h2⟩) ?_
  simp only [Act.put, List.setIfInBounds_toArray, List.set_cons_succ, List.set_cons_zero]
  refine lx_val (by rfl) (.bool false) (fun X hX hF => exec_nesB _ _ _ _ (by rfl) (be ((((val a) / (val b)) * (val b)) + ((val a) % (val b)))) (be (val a)) (by rfl) (by rfl) false (nes_f (congrArg be HDM.out)) X) ?_
  simp only [Act.put, List.setIfInBounds_toArray, List.set_cons_succ, List.set_cons_zero]
  refine lx_val (by rfl) (.bool false) (fun X hX hF => by rfl) ?_
  simp only [Act.put, List.setIfInBounds_toArray, List.set_cons_succ, List.set_cons_zero]
  refine lx_nil ?_
  intro X3 hX3 hF
  have hb := bel_next hb hX3
  clear hF hX3
  go_upto_region 6 with (fail)
  refine lx_plain [] (lasts_nil) ?_
  simp only [its, Nat.zero_add, Nat.reduceAdd]
  refine lx_val (by rfl) (.string ⟨c.toArray⟩) (fun X hX hF => by rfl) ?_
  simp only [Act.put, List.setIfInBounds_toArray, List.set_cons_succ, List.set_cons_zero]
  refine lx_val (by rfl) (.string ⟨b.toArray⟩) (fun X hX hF => by rfl) ?_
  simp only [Act.put, List.setIfInBounds_toArray, List.set_cons_succ, List.set_cons_zero]
  refine lx_call (by rfl) 22 _ _ (by rfl) (.string ⟨(be ((val c) * (val b))).toArray⟩) [.string ⟨c.toArray⟩, .string ⟨b.toArray⟩] (by rfl) (by kernel_rfl) (fun _ => by go_simp) (fun X hX hF => (nmulC c b X (by first | omega | decide) (by first | omega | decide)).mono fun e X' ⟨h1, h2⟩ => ⟨by rw [h1], h2⟩) ?_
  simp only [Act.put, List.setIfInBounds_toArray, List.set_cons_succ, List.set_cons_zero]
  refine lx_val (by rfl) (.string ⟨(be ((val a) % (val b))).toArray⟩) (fun X hX hF => by rfl) ?_
  simp only [Act.put, List.setIfInBounds_toArray, List.set_cons_succ, List.set_cons_zero]
  refine lx_call (by rfl) 20 _ _ (by rfl) (.string ⟨(be (((val c) * (val b)) + ((val a) % (val b)))).toArray⟩) [.string ⟨(be ((val c) * (val b))).toArray⟩, .string ⟨(be ((val a) % (val b))).toArray⟩] (by rfl) (by kernel_rfl) (fun _ => by go_simp) (fun X hX hF => (naddC (be ((val c) * (val b))) (be ((val a) % (val b))) X (by first | omega | decide) (by first | omega | decide)).mono fun e X' ⟨h1, h2⟩ => ⟨by rw [h1]; simp only [val_be], h2⟩) ?_
  simp only [Act.put, List.setIfInBounds_toArray, List.set_cons_succ, List.set_cons_zero]
  refine lx_val (by rfl) (.string ⟨b.toArray⟩) (fun X hX hF => by rfl) ?_
  simp only [Act.put, List.setIfInBounds_toArray, List.set_cons_succ, List.set_cons_zero]
  refine lx_call (by rfl) 11 _ _ (by rfl) (.tuple #[.string ⟨(be (val c)).toArray⟩, .string ⟨(be ((val a) % (val b))).toArray⟩, .int .i64 0]) [.string ⟨(be (((val c) * (val b)) + ((val a) % (val b)))).toArray⟩, .string ⟨b.toArray⟩] (by rfl) (by kernel_rfl) (fun _ => by go_simp) (fun X hX hF => (ndivC (be (((val c) * (val b)) + ((val a) % (val b)))) b X (by first | omega | decide) (by first | omega | decide) HBP.out).mono fun e X' ⟨h1, h2⟩ => ⟨by rw [h1, val_be, HQ2.out, HR2.out], h2⟩) ?_
  simp only [Act.put, List.setIfInBounds_toArray, List.set_cons_succ, List.set_cons_zero]
  refine lx_val (by rfl) (.tuple #[.string ⟨(be (val c)).toArray⟩, .string ⟨(be ((val a) % (val b))).toArray⟩, .int .i64 0]) (fun X hX hF => by rfl) ?_
  simp only [Act.put, List.setIfInBounds_toArray, List.set_cons_succ, List.set_cons_zero]
  refine lx_val (by rfl) (.string ⟨(be (val c)).toArray⟩) (fun X hX hF => by rfl) ?_
  simp only [Act.put, List.setIfInBounds_toArray, List.set_cons_succ, List.set_cons_zero]
  refine lx_val (by rfl) (.string ⟨(be ((val a) % (val b))).toArray⟩) (fun X hX hF => by rfl) ?_
  simp only [Act.put, List.setIfInBounds_toArray, List.set_cons_succ, List.set_cons_zero]
  refine lx_val (by rfl) (.int .i64 0) (fun X hX hF => by rfl) ?_
  simp only [Act.put, List.setIfInBounds_toArray, List.set_cons_succ, List.set_cons_zero]
  refine lx_val (by rfl) (.string ⟨(be (val c)).toArray⟩) (fun X hX hF => by rfl) ?_
  simp only [Act.put, List.setIfInBounds_toArray, List.set_cons_succ, List.set_cons_zero]
  refine lx_val (by rfl) (.string ⟨(be ((val a) % (val b))).toArray⟩) (fun X hX hF => by rfl) ?_
  simp only [Act.put, List.setIfInBounds_toArray, List.set_cons_succ, List.set_cons_zero]
  refine lx_val (by rfl) (.int .i64 0) (fun X hX hF => by rfl) ?_
  simp only [Act.put, List.setIfInBounds_toArray, List.set_cons_succ, List.set_cons_zero]
  refine lx_nil ?_
  intro X4 hX4 hF
  have hb := bel_next hb hX4
  clear hF hX4
  go_upto_region 7 with (fail)
  refine lx_plain [] (lasts_nil) ?_
  simp only [its, Nat.zero_add, Nat.reduceAdd]
  refine lx_call (by rfl) 9 _ _ (by rfl) (.bool true) [] (by rfl) (by kernel_rfl) (fun _ => by go_simp) (fun X hX hF => sanityC X) ?_
  simp only [Act.put, List.setIfInBounds_toArray, List.set_cons_succ, List.set_cons_zero]
  refine lx_val (by rfl) (.bool true) (fun X hX hF => by rfl) ?_
  simp only [Act.put, List.setIfInBounds_toArray, List.set_cons_succ, List.set_cons_zero]
  refine lx_val (by rfl) (.int .i64 0) (fun X hX hF => by rfl) ?_
  simp only [Act.put, List.setIfInBounds_toArray, List.set_cons_succ, List.set_cons_zero]
  refine lx_val (by rfl) (.bool true) (fun X hX hF => exec_eqi _ _ _ _ (by rfl) .i64 0 0 (by rfl) (by rfl) true (decide_eq_true (by omega)) X) ?_
  simp only [Act.put, List.setIfInBounds_toArray, List.set_cons_succ, List.set_cons_zero]
  refine lx_val (by rfl) (.bool true) (fun X hX hF => by rfl) ?_
  simp only [Act.put, List.setIfInBounds_toArray, List.set_cons_succ, List.set_cons_zero]
  refine lx_val (by rfl) (.bool true) (fun X hX hF => by rfl) ?_
  simp only [Act.put, List.setIfInBounds_toArray, List.set_cons_succ, List.set_cons_zero]
  refine lx_val (by rfl) (.string ⟨(be (val c)).toArray⟩) (fun X hX hF => by rfl) ?_
  simp only [Act.put, List.setIfInBounds_toArray, List.set_cons_succ, List.set_cons_zero]
  refine lx_val (by rfl) (.string ⟨c.toArray⟩) (fun X hX hF => by rfl) ?_
  simp only [Act.put, List.setIfInBounds_toArray, List.set_cons_succ, List.set_cons_zero]
  refine lx_call (by rfl) 16 _ _ (by rfl) (.string ⟨(be (val c)).toArray⟩) [.string ⟨c.toArray⟩] (by rfl) (by kernel_rfl) (fun _ => by go_simp) (fun X hX hF => (cleanC c X ).mono fun e X' ⟨h1, h2⟩ => ⟨by rw [h1], since_eq h2⟩) ?_
  simp only [Act.put, List.setIfInBounds_toArray, List.set_cons_succ, List.set_cons_zero]
  refine lx_val (by rfl) (.bool true) (fun X hX hF => exec_eqsB _ _ _ _ (by rfl) (be (val c)) (be (val c)) (by rfl) (by rfl) true (eqs_t rfl) X) ?_
  simp only [Act.put, List.setIfInBounds_toArray, List.set_cons_succ, List.set_cons_zero]
  refine lx_val (by rfl) (.bool true) (fun X hX hF => by rfl) ?_
  simp only [Act.put, List.setIfInBounds_toArray, List.set_cons_succ, List.set_cons_zero]
  refine lx_val (by rfl) (.bool true) (fun X hX hF => by rfl) ?_
  simp only [Act.put, List.setIfInBounds_toArray, List.set_cons_succ, List.set_cons_zero]
  refine lx_val (by rfl) (.string ⟨(be ((val a) % (val b))).toArray⟩) (fun X hX hF => by rfl) ?_
  simp only [Act.put, List.setIfInBounds_toArray, List.set_cons_succ, List.set_cons_zero]
  refine lx_val (by rfl) (.string ⟨(be ((val a) % (val b))).toArray⟩) (fun X hX hF => by rfl) ?_
  simp only [Act.put, List.setIfInBounds_toArray, List.set_cons_succ, List.set_cons_zero]
  refine lx_val (by rfl) (.bool true) (fun X hX hF => exec_eqsB _ _ _ _ (by rfl) (be ((val a) % (val b))) (be ((val a) % (val b))) (by rfl) (by rfl) true (eqs_t rfl) X) ?_
  simp only [Act.put, List.setIfInBounds_toArray, List.set_cons_succ, List.set_cons_zero]
  refine lx_val (by rfl) (.bool true) (fun X hX hF => by rfl) ?_
  simp only [Act.put, List.setIfInBounds_toArray, List.set_cons_succ, List.set_cons_zero]
  refine lx_val (by rfl) (.bool true) (fun X hX hF => by rfl) ?_
  simp only [Act.put, List.setIfInBounds_toArray, List.set_cons_succ, List.set_cons_zero]
  refine lx_nil ?_
  intro X5 hX5 hF
  have hb := bel_next hb hX5
  clear hF hX5
  go_wp2
  go_ret
  exact ⟨rfl, hb⟩

theorem all (a b c : List UInt8) (w : World) (za : a.length ≤ 140737488351232) (zb : b.length ≤ 140737488351232) (zc : c.length ≤ 140737488351232) : Calls Tryd.prog 6 #[.string ⟨a.toArray⟩, .string ⟨b.toArray⟩, .string ⟨c.toArray⟩] w fun e w' => e = .returned (.bool true) ∧ Since w w' := by
  rcases Nat.lt_or_ge 300 a.length with h | h
  · exact bad0 a b c w za zb zc h
  · rcases Nat.lt_or_ge 300 b.length with h1 | h1
    · exact bad1 a b c w za zb zc h h1
    · rcases Nat.lt_or_ge 300 c.length with h2 | h2
      · exact bad2 a b c w za zb zc h h1 h2
      · rcases Nat.eq_zero_or_pos (val b) with h3 | h3
        · exact zero a b c w h h1 h2 h3
        · exact pos a b c w h h1 h2 h3
end dividesW
end Go.Proofs.YtglnabciomlmmaaDoor
