/-
  NatCommonDivisors: the walk.
-/
import Derived.Test.YtglnabciomlmmaaDoorLw04
namespace Go.Proofs.YtglnabciomlmmaaDoor
open Go.RowKit

namespace commonW
theorem be_gcdL {x y m n : Nat} (hx : (be x).length ≤ m) (hy : (be y).length ≤ n) : (be (Nat.gcd x y)).length ≤ m + n := by
  rcases Nat.eq_zero_or_pos y with h | h
  · rw [h, Nat.gcd_zero_right]
    omega
  · exact Nat.le_trans (be_mono (Nat.gcd_le_right x h)) (by omega)
set_option maxRecDepth 100000 in
set_option maxHeartbeats 1600000 in
theorem bad0 (a b c : List UInt8) (w : World) (za : a.length ≤ 140737488351232) (zb : b.length ≤ 140737488351232) (zc : c.length ≤ 140737488351232) (h0 : 100 < a.length) : Calls Tryd.prog 7 #[.string ⟨a.toArray⟩, .string ⟨b.toArray⟩, .string ⟨c.toArray⟩] w fun e w' => e = .returned (.bool true) ∧ Since w w' := by
  go_enter Tryd.func7, Tryd.ntmps7
  go_upto_region 1 with (fail)
  refine lx_plain [] (lasts_nil) ?_
  simp only [its, Nat.zero_add, Nat.reduceAdd]
  refine lx_val (by rfl) (.string ⟨a.toArray⟩) (fun X hX hF => by rfl) ?_
  simp only [Act.put, List.setIfInBounds_toArray, List.set_cons_succ, List.set_cons_zero]
  refine lx_val (by rfl) (.int .i64 (a.length : Int)) (fun X hX hF => exec_lens Tryd.underlying9 _ (by rfl) a (by rfl) _ rfl X) ?_
  simp only [Act.put, List.setIfInBounds_toArray, List.set_cons_succ, List.set_cons_zero]
  refine lx_val (by rfl) (.bool true) (fun X hX hF => exec_gtr _ _ _ _ (by rfl) .i64 (a.length : Int) 100 (by rfl) (by rfl) true (decide_eq_true (by omega)) X) ?_
  simp only [Act.put, List.setIfInBounds_toArray, List.set_cons_succ, List.set_cons_zero]
  refine lx_val (by rfl) (.bool true) (fun X hX hF => by rfl) ?_
  simp only [Act.put, List.setIfInBounds_toArray, List.set_cons_succ, List.set_cons_zero]
  refine lx_skip (by rfl) ?_
  simp only [Act.put, List.setIfInBounds_toArray, List.set_cons_succ, List.set_cons_zero]
  refine lx_skip (by rfl) ?_
  simp only [Act.put, List.setIfInBounds_toArray, List.set_cons_succ, List.set_cons_zero]
  refine lx_skip (by rfl) ?_
  simp only [Act.put, List.setIfInBounds_toArray, List.set_cons_succ, List.set_cons_zero]
  refine lx_val (by rfl) (.bool true) (fun X hX hF => by rfl) ?_
  simp only [Act.put, List.setIfInBounds_toArray, List.set_cons_succ, List.set_cons_zero]
  refine lx_val (by rfl) (.bool true) (fun X hX hF => by rfl) ?_
  simp only [Act.put, List.setIfInBounds_toArray, List.set_cons_succ, List.set_cons_zero]
  refine lx_skip (by rfl) ?_
  simp only [Act.put, List.setIfInBounds_toArray, List.set_cons_succ, List.set_cons_zero]
  refine lx_skip (by rfl) ?_
  simp only [Act.put, List.setIfInBounds_toArray, List.set_cons_succ, List.set_cons_zero]
  refine lx_skip (by rfl) ?_
  simp only [Act.put, List.setIfInBounds_toArray, List.set_cons_succ, List.set_cons_zero]
  refine lx_val (by rfl) (.bool true) (fun X hX hF => by rfl) ?_
  simp only [Act.put, List.setIfInBounds_toArray, List.set_cons_succ, List.set_cons_zero]
  refine lx_nil ?_
  intro X1 hX1 hF
  have hb : Below w.heap.size w X1 := hX1
  clear hF hX1
  go_upto_region 2 with (fail)
  refine lx_plain [] (lasts_nil) ?_
  simp only [its, Nat.zero_add, Nat.reduceAdd]
  refine lx_call (by rfl) 9 _ _ (by rfl) (.bool true) [] (by rfl) (by kernel_rfl) (fun _ => by go_simp) (fun X hX hF => sanityC X) ?_
  simp only [Act.put, List.setIfInBounds_toArray, List.set_cons_succ, List.set_cons_zero]
  refine lx_val (by rfl) (.bool true) (fun X hX hF => by rfl) ?_
  simp only [Act.put, List.setIfInBounds_toArray, List.set_cons_succ, List.set_cons_zero]
  refine lx_nil ?_
  intro X2 hX2 hF
  have hb := bel_next hb hX2
  clear hF hX2
  go_wp2
  go_ret
  exact ⟨rfl, hb⟩

set_option maxRecDepth 100000 in
set_option maxHeartbeats 1600000 in
theorem bad1 (a b c : List UInt8) (w : World) (za : a.length ≤ 140737488351232) (zb : b.length ≤ 140737488351232) (zc : c.length ≤ 140737488351232) (h0 : a.length ≤ 100) (h1 : 100 < b.length) : Calls Tryd.prog 7 #[.string ⟨a.toArray⟩, .string ⟨b.toArray⟩, .string ⟨c.toArray⟩] w fun e w' => e = .returned (.bool true) ∧ Since w w' := by
  go_enter Tryd.func7, Tryd.ntmps7
  go_upto_region 1 with (fail)
  refine lx_plain [] (lasts_nil) ?_
  simp only [its, Nat.zero_add, Nat.reduceAdd]
  refine lx_val (by rfl) (.string ⟨a.toArray⟩) (fun X hX hF => by rfl) ?_
  simp only [Act.put, List.setIfInBounds_toArray, List.set_cons_succ, List.set_cons_zero]
  refine lx_val (by rfl) (.int .i64 (a.length : Int)) (fun X hX hF => exec_lens Tryd.underlying9 _ (by rfl) a (by rfl) _ rfl X) ?_
  simp only [Act.put, List.setIfInBounds_toArray, List.set_cons_succ, List.set_cons_zero]
  refine lx_val (by rfl) (.bool false) (fun X hX hF => exec_gtr _ _ _ _ (by rfl) .i64 (a.length : Int) 100 (by rfl) (by rfl) false (decide_eq_false (by omega)) X) ?_
  simp only [Act.put, List.setIfInBounds_toArray, List.set_cons_succ, List.set_cons_zero]
  refine lx_val (by rfl) (.bool false) (fun X hX hF => by rfl) ?_
  simp only [Act.put, List.setIfInBounds_toArray, List.set_cons_succ, List.set_cons_zero]
  refine lx_val (by rfl) (.string ⟨b.toArray⟩) (fun X hX hF => by rfl) ?_
  simp only [Act.put, List.setIfInBounds_toArray, List.set_cons_succ, List.set_cons_zero]
  refine lx_val (by rfl) (.int .i64 (b.length : Int)) (fun X hX hF => exec_lens Tryd.underlying9 _ (by rfl) b (by rfl) _ rfl X) ?_
  simp only [Act.put, List.setIfInBounds_toArray, List.set_cons_succ, List.set_cons_zero]
  refine lx_val (by rfl) (.bool true) (fun X hX hF => exec_gtr _ _ _ _ (by rfl) .i64 (b.length : Int) 100 (by rfl) (by rfl) true (decide_eq_true (by omega)) X) ?_
  simp only [Act.put, List.setIfInBounds_toArray, List.set_cons_succ, List.set_cons_zero]
  refine lx_val (by rfl) (.bool true) (fun X hX hF => by rfl) ?_
  simp only [Act.put, List.setIfInBounds_toArray, List.set_cons_succ, List.set_cons_zero]
  refine lx_val (by rfl) (.bool true) (fun X hX hF => by rfl) ?_
  simp only [Act.put, List.setIfInBounds_toArray, List.set_cons_succ, List.set_cons_zero]
  refine lx_skip (by rfl) ?_
  simp only [Act.put, List.setIfInBounds_toArray, List.set_cons_succ, List.set_cons_zero]
  refine lx_skip (by rfl) ?_
  simp only [Act.put, List.setIfInBounds_toArray, List.set_cons_succ, List.set_cons_zero]
  refine lx_skip (by rfl) ?_
  simp only [Act.put, List.setIfInBounds_toArray, List.set_cons_succ, List.set_cons_zero]
  refine lx_val (by rfl) (.bool true) (fun X hX hF => by rfl) ?_
  simp only [Act.put, List.setIfInBounds_toArray, List.set_cons_succ, List.set_cons_zero]
  refine lx_nil ?_
  intro X1 hX1 hF
  have hb : Below w.heap.size w X1 := hX1
  clear hF hX1
  go_upto_region 2 with (fail)
  refine lx_plain [] (lasts_nil) ?_
  simp only [its, Nat.zero_add, Nat.reduceAdd]
  refine lx_call (by rfl) 9 _ _ (by rfl) (.bool true) [] (by rfl) (by kernel_rfl) (fun _ => by go_simp) (fun X hX hF => sanityC X) ?_
  simp only [Act.put, List.setIfInBounds_toArray, List.set_cons_succ, List.set_cons_zero]
  refine lx_val (by rfl) (.bool true) (fun X hX hF => by rfl) ?_
  simp only [Act.put, List.setIfInBounds_toArray, List.set_cons_succ, List.set_cons_zero]
  refine lx_nil ?_
  intro X2 hX2 hF
  have hb := bel_next hb hX2
  clear hF hX2
  go_wp2
  go_ret
  exact ⟨rfl, hb⟩

set_option maxRecDepth 100000 in
set_option maxHeartbeats 1600000 in
theorem bad2 (a b c : List UInt8) (w : World) (za : a.length ≤ 140737488351232) (zb : b.length ≤ 140737488351232) (zc : c.length ≤ 140737488351232) (h0 : a.length ≤ 100) (h1 : b.length ≤ 100) (h2 : 100 < c.length) : Calls Tryd.prog 7 #[.string ⟨a.toArray⟩, .string ⟨b.toArray⟩, .string ⟨c.toArray⟩] w fun e w' => e = .returned (.bool true) ∧ Since w w' := by
  go_enter Tryd.func7, Tryd.ntmps7
  go_upto_region 1 with (fail)
  refine lx_plain [] (lasts_nil) ?_
  simp only [its, Nat.zero_add, Nat.reduceAdd]
  refine lx_val (by rfl) (.string ⟨a.toArray⟩) (fun X hX hF => by rfl) ?_
  simp only [Act.put, List.setIfInBounds_toArray, List.set_cons_succ, List.set_cons_zero]
  refine lx_val (by rfl) (.int .i64 (a.length : Int)) (fun X hX hF => exec_lens Tryd.underlying9 _ (by rfl) a (by rfl) _ rfl X) ?_
  simp only [Act.put, List.setIfInBounds_toArray, List.set_cons_succ, List.set_cons_zero]
  refine lx_val (by rfl) (.bool false) (fun X hX hF => exec_gtr _ _ _ _ (by rfl) .i64 (a.length : Int) 100 (by rfl) (by rfl) false (decide_eq_false (by omega)) X) ?_
  simp only [Act.put, List.setIfInBounds_toArray, List.set_cons_succ, List.set_cons_zero]
  refine lx_val (by rfl) (.bool false) (fun X hX hF => by rfl) ?_
  simp only [Act.put, List.setIfInBounds_toArray, List.set_cons_succ, List.set_cons_zero]
  refine lx_val (by rfl) (.string ⟨b.toArray⟩) (fun X hX hF => by rfl) ?_
  simp only [Act.put, List.setIfInBounds_toArray, List.set_cons_succ, List.set_cons_zero]
  refine lx_val (by rfl) (.int .i64 (b.length : Int)) (fun X hX hF => exec_lens Tryd.underlying9 _ (by rfl) b (by rfl) _ rfl X) ?_
  simp only [Act.put, List.setIfInBounds_toArray, List.set_cons_succ, List.set_cons_zero]
  refine lx_val (by rfl) (.bool false) (fun X hX hF => exec_gtr _ _ _ _ (by rfl) .i64 (b.length : Int) 100 (by rfl) (by rfl) false (decide_eq_false (by omega)) X) ?_
  simp only [Act.put, List.setIfInBounds_toArray, List.set_cons_succ, List.set_cons_zero]
  refine lx_val (by rfl) (.bool false) (fun X hX hF => by rfl) ?_
  simp only [Act.put, List.setIfInBounds_toArray, List.set_cons_succ, List.set_cons_zero]
  refine lx_val (by rfl) (.bool false) (fun X hX hF => by rfl) ?_
  simp only [Act.put, List.setIfInBounds_toArray, List.set_cons_succ, List.set_cons_zero]
  refine lx_val (by rfl) (.string ⟨c.toArray⟩) (fun X hX hF => by rfl) ?_
  simp only [Act.put, List.setIfInBounds_toArray, List.set_cons_succ, List.set_cons_zero]
  refine lx_val (by rfl) (.int .i64 (c.length : Int)) (fun X hX hF => exec_lens Tryd.underlying9 _ (by rfl) c (by rfl) _ rfl X) ?_
  simp only [Act.put, List.setIfInBounds_toArray, List.set_cons_succ, List.set_cons_zero]
  refine lx_val (by rfl) (.bool true) (fun X hX hF => exec_gtr _ _ _ _ (by rfl) .i64 (c.length : Int) 100 (by rfl) (by rfl) true (decide_eq_true (by omega)) X) ?_
  simp only [Act.put, List.setIfInBounds_toArray, List.set_cons_succ, List.set_cons_zero]
  refine lx_val (by rfl) (.bool true) (fun X hX hF => by rfl) ?_
  simp only [Act.put, List.setIfInBounds_toArray, List.set_cons_succ, List.set_cons_zero]
  refine lx_nil ?_
  intro X1 hX1 hF
  have hb : Below w.heap.size w X1 := hX1
  clear hF hX1
  go_upto_region 2 with (fail)
  refine lx_plain [] (lasts_nil) ?_
  simp only [its, Nat.zero_add, Nat.reduceAdd]
  refine lx_call (by rfl) 9 _ _ (by rfl) (.bool true) [] (by rfl) (by kernel_rfl) (fun _ => by go_simp) (fun X hX hF => sanityC X) ?_
  simp only [Act.put, List.setIfInBounds_toArray, List.set_cons_succ, List.set_cons_zero]
  refine lx_val (by rfl) (.bool true) (fun X hX hF => by rfl) ?_
  simp only [Act.put, List.setIfInBounds_toArray, List.set_cons_succ, List.set_cons_zero]
  refine lx_nil ?_
  intro X2 hX2 hF
  have hb := bel_next hb hX2
  clear hF hX2
  go_wp2
  go_ret
  exact ⟨rfl, hb⟩

set_option maxRecDepth 100000 in
set_option maxHeartbeats 1600000 in
theorem zero (a b c : List UInt8) (w : World) (ha : a.length ≤ 100) (hb0 : b.length ≤ 100) (hc : c.length ≤ 100) (h0 : (Nat.gcd (val a) (val b)) = 0) : Calls Tryd.prog 7 #[.string ⟨a.toArray⟩, .string ⟨b.toArray⟩, .string ⟨c.toArray⟩] w fun e w' => e = .returned (.bool true) ∧ Since w w' := by
  have HG0 : Hid (be (Nat.gcd (val a) (val b)) = []) := be_nil.2 h0
  have HA0 : Hid (be (val a) = []) := be_nil.2 (Nat.eq_zero_of_gcd_eq_zero_left h0)
  have HB0 : Hid (be (val b) = []) := be_nil.2 (Nat.eq_zero_of_gcd_eq_zero_right h0)
  clear h0
  have LB0 : (be ((val a) * (val c))).length ≤ 200 := be_mulL (be_valL ha) (be_valL hc)
  have LB1 : (be ((val b) * (val c))).length ≤ 200 := be_mulL (be_valL hb0) (be_valL hc)
  have LB2 : (be (Nat.gcd (val a) (val b))).length ≤ 200 := be_gcdL (be_valL ha) (be_valL hb0)
  go_enter Tryd.func7, Tryd.ntmps7
  go_upto_region 1 with (fail)
  refine lx_plain [] (lasts_nil) ?_
  simp only [its, Nat.zero_add, Nat.reduceAdd]
  refine lx_val (by rfl) (.string ⟨a.toArray⟩) (fun X hX hF => by rfl) ?_
  simp only [Act.put, List.setIfInBounds_toArray, List.set_cons_succ, List.set_cons_zero]
  refine lx_val (by rfl) (.int .i64 (a.length : Int)) (fun X hX hF => exec_lens Tryd.underlying9 _ (by rfl) a (by rfl) _ rfl X) ?_
  simp only [Act.put, List.setIfInBounds_toArray, List.set_cons_succ, List.set_cons_zero]
  refine lx_val (by rfl) (.bool false) (fun X hX hF => exec_gtr _ _ _ _ (by rfl) .i64 (a.length : Int) 100 (by rfl) (by rfl) false (decide_eq_false (by omega)) X) ?_
  simp only [Act.put, List.setIfInBounds_toArray, List.set_cons_succ, List.set_cons_zero]
  refine lx_val (by rfl) (.bool false) (fun X hX hF => by rfl) ?_
  simp only [Act.put, List.setIfInBounds_toArray, List.set_cons_succ, List.set_cons_zero]
  refine lx_val (by rfl) (.string ⟨b.toArray⟩) (fun X hX hF => by rfl) ?_
  simp only [Act.put, List.setIfInBounds_toArray, List.set_cons_succ, List.set_cons_zero]
  refine lx_val (by rfl) (.int .i64 (b.length : Int)) (fun X hX hF => exec_lens Tryd.underlying9 _ (by rfl) b (by rfl) _ rfl X) ?_
  simp only [Act.put, List.setIfInBounds_toArray, List.set_cons_succ, List.set_cons_zero]
  refine lx_val (by rfl) (.bool false) (fun X hX hF => exec_gtr _ _ _ _ (by rfl) .i64 (b.length : Int) 100 (by rfl) (by rfl) false (decide_eq_false (by omega)) X) ?_
  simp only [Act.put, List.setIfInBounds_toArray, List.set_cons_succ, List.set_cons_zero]
  refine lx_val (by rfl) (.bool false) (fun X hX hF => by rfl) ?_
  simp only [Act.put, List.setIfInBounds_toArray, List.set_cons_succ, List.set_cons_zero]
  refine lx_val (by rfl) (.bool false) (fun X hX hF => by rfl) ?_
  simp only [Act.put, List.setIfInBounds_toArray, List.set_cons_succ, List.set_cons_zero]
  refine lx_val (by rfl) (.string ⟨c.toArray⟩) (fun X hX hF => by rfl) ?_
  simp only [Act.put, List.setIfInBounds_toArray, List.set_cons_succ, List.set_cons_zero]
  refine lx_val (by rfl) (.int .i64 (c.length : Int)) (fun X hX hF => exec_lens Tryd.underlying9 _ (by rfl) c (by rfl) _ rfl X) ?_
  simp only [Act.put, List.setIfInBounds_toArray, List.set_cons_succ, List.set_cons_zero]
  refine lx_val (by rfl) (.bool false) (fun X hX hF => exec_gtr _ _ _ _ (by rfl) .i64 (c.length : Int) 100 (by rfl) (by rfl) false (decide_eq_false (by omega)) X) ?_
  simp only [Act.put, List.setIfInBounds_toArray, List.set_cons_succ, List.set_cons_zero]
  refine lx_val (by rfl) (.bool false) (fun X hX hF => by rfl) ?_
  simp only [Act.put, List.setIfInBounds_toArray, List.set_cons_succ, List.set_cons_zero]
  refine lx_nil ?_
  intro X1 hX1 hF
  have hb : Below w.heap.size w X1 := hX1
  clear hF hX1
  go_upto_region 3 with (fail)
  refine lx_plain [] (lasts_nil) ?_
  simp only [its, Nat.zero_add, Nat.reduceAdd]
  refine lx_val (by rfl) (.string ⟨a.toArray⟩) (fun X hX hF => by rfl) ?_
  simp only [Act.put, List.setIfInBounds_toArray, List.set_cons_succ, List.set_cons_zero]
  refine lx_val (by rfl) (.string ⟨b.toArray⟩) (fun X hX hF => by rfl) ?_
  simp only [Act.put, List.setIfInBounds_toArray, List.set_cons_succ, List.set_cons_zero]
  refine lx_call (by rfl) 24 _ _ (by rfl) (.string ⟨(be (Nat.gcd (val a) (val b))).toArray⟩) [.string ⟨a.toArray⟩, .string ⟨b.toArray⟩] (by rfl) (by kernel_rfl) (fun _ => by go_simp) (fun X hX hF => (ngcdC a b X (by first | omega | decide) (by first | omega | decide)).mono fun e X' ⟨h1, h2⟩ => ⟨by rw [h1], h2⟩) ?_
  simp only [Act.put, List.setIfInBounds_toArray, List.set_cons_succ, List.set_cons_zero]
  refine lx_val (by rfl) (.string ⟨(be (Nat.gcd (val a) (val b))).toArray⟩) (fun X hX hF => by rfl) ?_
  simp only [Act.put, List.setIfInBounds_toArray, List.set_cons_succ, List.set_cons_zero]
  refine lx_nil ?_
  intro X2 hX2 hF
  have hb := bel_next hb hX2
  clear hF hX2
  go_upto_region 4 with (fail)
  refine lx_plain [] (lasts_nil) ?_
  simp only [its, Nat.zero_add, Nat.reduceAdd]
  refine lx_val (by rfl) (.string ⟨(be (Nat.gcd (val a) (val b))).toArray⟩) (fun X hX hF => by rfl) ?_
  simp only [Act.put, List.setIfInBounds_toArray, List.set_cons_succ, List.set_cons_zero]
  refine lx_val (by rfl) (.string ⟨b.toArray⟩) (fun X hX hF => by rfl) ?_
  simp only [Act.put, List.setIfInBounds_toArray, List.set_cons_succ, List.set_cons_zero]
  refine lx_val (by rfl) (.string ⟨a.toArray⟩) (fun X hX hF => by rfl) ?_
  simp only [Act.put, List.setIfInBounds_toArray, List.set_cons_succ, List.set_cons_zero]
  refine lx_call (by rfl) 24 _ _ (by rfl) (.string ⟨(be (Nat.gcd (val b) (val a))).toArray⟩) [.string ⟨b.toArray⟩, .string ⟨a.toArray⟩] (by rfl) (by kernel_rfl) (fun _ => by go_simp) (fun X hX hF => (ngcdC b a X (by first | omega | decide) (by first | omega | decide)).mono fun e X' ⟨h1, h2⟩ => ⟨by rw [h1], h2⟩) ?_
  simp only [Act.put, List.setIfInBounds_toArray, List.set_cons_succ, List.set_cons_zero]
  refine lx_val (by rfl) (.bool false) (fun X hX hF => exec_nesB _ _ _ _ (by rfl) (be (Nat.gcd (val a) (val b))) (be (Nat.gcd (val b) (val a))) (by rfl) (by rfl) false (nes_f (congrArg be (Nat.gcd_comm _ _))) X) ?_
  simp only [Act.put, List.setIfInBounds_toArray, List.set_cons_succ, List.set_cons_zero]
  refine lx_val (by rfl) (.bool false) (fun X hX hF => by rfl) ?_
  simp only [Act.put, List.setIfInBounds_toArray, List.set_cons_succ, List.set_cons_zero]
  refine lx_val (by rfl) (.string ⟨a.toArray⟩) (fun X hX hF => by rfl) ?_
  simp only [Act.put, List.setIfInBounds_toArray, List.set_cons_succ, List.set_cons_zero]
  refine lx_val (by rfl) (.string ⟨c.toArray⟩) (fun X hX hF => by rfl) ?_
  simp only [Act.put, List.setIfInBounds_toArray, List.set_cons_succ, List.set_cons_zero]
  refine lx_call (by rfl) 22 _ _ (by rfl) (.string ⟨(be ((val a) * (val c))).toArray⟩) [.string ⟨a.toArray⟩, .string ⟨c.toArray⟩] (by rfl) (by kernel_rfl) (fun _ => by go_simp) (fun X hX hF => (nmulC a c X (by first | omega | decide) (by first | omega | decide)).mono fun e X' ⟨h1, h2⟩ => ⟨by rw [h1], h2⟩) ?_
  simp only [Act.put, List.setIfInBounds_toArray, List.set_cons_succ, List.set_cons_zero]
  refine lx_val (by rfl) (.string ⟨b.toArray⟩) (fun X hX hF => by rfl) ?_
  simp only [Act.put, List.setIfInBounds_toArray, List.set_cons_succ, List.set_cons_zero]
  refine lx_val (by rfl) (.string ⟨c.toArray⟩) (fun X hX hF => by rfl) ?_
  simp only [Act.put, List.setIfInBounds_toArray, List.set_cons_succ, List.set_cons_zero]
  refine lx_call (by rfl) 22 _ _ (by rfl) (.string ⟨(be ((val b) * (val c))).toArray⟩) [.string ⟨b.toArray⟩, .string ⟨c.toArray⟩] (by rfl) (by kernel_rfl) (fun _ => by go_simp) (fun X hX hF => (nmulC b c X (by first | omega | decide) (by first | omega | decide)).mono fun e X' ⟨h1, h2⟩ => ⟨by rw [h1], h2⟩) ?_
  simp only [Act.put, List.setIfInBounds_toArray, List.set_cons_succ, List.set_cons_zero]
  refine lx_call (by rfl) 24 _ _ (by rfl) (.string ⟨(be (Nat.gcd ((val a) * (val c)) ((val b) * (val c)))).toArray⟩) [.string ⟨(be ((val a) * (val c))).toArray⟩, .string ⟨(be ((val b) * (val c))).toArray⟩] (by rfl) (by kernel_rfl) (fun _ => by go_simp) (fun X hX hF => (ngcdC (be ((val a) * (val c))) (be ((val b) * (val c))) X (by first | omega | decide) (by first | omega | decide)).mono fun e X' ⟨h1, h2⟩ => ⟨by rw [h1]; simp only [val_be], h2⟩) ?_
  simp only [Act.put, List.setIfInBounds_toArray, List.set_cons_succ, List.set_cons_zero]
  refine lx_val (by rfl) (.string ⟨(be (Nat.gcd (val a) (val b))).toArray⟩) (fun X hX hF => by rfl) ?_
  simp only [Act.put, List.setIfInBounds_toArray, List.set_cons_succ, List.set_cons_zero]
  refine lx_val (by rfl) (.string ⟨c.toArray⟩) (fun X hX hF => by rfl) ?_
  simp only [Act.put, List.setIfInBounds_toArray, List.set_cons_succ, List.set_cons_zero]
  refine lx_call (by rfl) 22 _ _ (by rfl) (.string ⟨(be ((Nat.gcd (val a) (val b)) * (val c))).toArray⟩) [.string ⟨(be (Nat.gcd (val a) (val b))).toArray⟩, .string ⟨c.toArray⟩] (by rfl) (by kernel_rfl) (fun _ => by go_simp) (fun X hX hF => (nmulC (be (Nat.gcd (val a) (val b))) c X (by first | omega | decide) (by first | omega | decide)).mono fun e X' ⟨h1, h2⟩ => ⟨by rw [h1]; simp only [val_be], h2⟩) ?_
  simp only [Act.put, List.setIfInBounds_toArray, List.set_cons_succ, List.set_cons_zero]
  refine lx_val (by rfl) (.bool false) (fun X hX hF => exec_nesB _ _ _ _ (by rfl) (be (Nat.gcd ((val a) * (val c)) ((val b) * (val c)))) (be ((Nat.gcd (val a) (val b)) * (val c))) (by rfl) (by rfl) false (nes_f (congrArg be (Nat.gcd_mul_right _ _ _))) X) ?_
  simp only [Act.put, List.setIfInBounds_toArray, List.set_cons_succ, List.set_cons_zero]
  refine lx_val (by rfl) (.bool false) (fun X hX hF => by rfl) ?_
  simp only [Act.put, List.setIfInBounds_toArray, List.set_cons_succ, List.set_cons_zero]
  refine lx_nil ?_
  intro X3 hX3 hF
  have hb := bel_next hb hX3
  clear hF hX3
  go_upto_region 6 with (fail)
  refine lx_plain [] (lasts_nil) ?_
  simp only [its, Nat.zero_add, Nat.reduceAdd]
  refine lx_val (by rfl) (.string ⟨(be (Nat.gcd (val a) (val b))).toArray⟩) (fun X hX hF => by rfl) ?_
  simp only [Act.put, List.setIfInBounds_toArray, List.set_cons_succ, List.set_cons_zero]
  refine lx_val (by rfl) (.bool true) (fun X hX hF => exec_eqsB _ _ _ _ (by rfl) (be (Nat.gcd (val a) (val b))) ([] : List UInt8) (by rfl) (by rfl) true (eqs_t HG0.out) X) ?_
  simp only [Act.put, List.setIfInBounds_toArray, List.set_cons_succ, List.set_cons_zero]
  refine lx_nil ?_
  intro X4 hX4 hF
  have hb := bel_next hb hX4
  clear hF hX4
  go_upto_region 7 with (fail)
  refine lx_plain [] (lasts_nil) ?_
  simp only [its, Nat.zero_add, Nat.reduceAdd]
  refine lx_call (by rfl) 9 _ _ (by rfl) (.bool true) [] (by rfl) (by kernel_rfl) (fun _ => by go_simp) (fun X hX hF => sanityC X) ?_
  simp only [Act.put, List.setIfInBounds_toArray, List.set_cons_succ, List.set_cons_zero]
  refine lx_val (by rfl) (.bool true) (fun X hX hF => by rfl) ?_
  simp only [Act.put, List.setIfInBounds_toArray, List.set_cons_succ, List.set_cons_zero]
  refine lx_val (by rfl) (.string ⟨a.toArray⟩) (fun X hX hF => by rfl) ?_
  simp only [Act.put, List.setIfInBounds_toArray, List.set_cons_succ, List.set_cons_zero]
  refine lx_call (by rfl) 16 _ _ (by rfl) (.string ⟨(be (val a)).toArray⟩) [.string ⟨a.toArray⟩] (by rfl) (by kernel_rfl) (fun _ => by go_simp) (fun X hX hF => (cleanC a X ).mono fun e X' ⟨h1, h2⟩ => ⟨by rw [h1], since_eq h2⟩) ?_
  simp only [Act.put, List.setIfInBounds_toArray, List.set_cons_succ, List.set_cons_zero]
  refine lx_val (by rfl) (.bool true) (fun X hX hF => exec_eqsB _ _ _ _ (by rfl) (be (val a)) ([] : List UInt8) (by rfl) (by rfl) true (eqs_t HA0.out) X) ?_
  simp only [Act.put, List.setIfInBounds_toArray, List.set_cons_succ, List.set_cons_zero]
  refine lx_val (by rfl) (.bool true) (fun X hX hF => by rfl) ?_
  simp only [Act.put, List.setIfInBounds_toArray, List.set_cons_succ, List.set_cons_zero]
  refine lx_val (by rfl) (.bool true) (fun X hX hF => by rfl) ?_
  simp only [Act.put, List.setIfInBounds_toArray, List.set_cons_succ, List.set_cons_zero]
  refine lx_val (by rfl) (.string ⟨b.toArray⟩) (fun X hX hF => by rfl) ?_
  simp only [Act.put, List.setIfInBounds_toArray, List.set_cons_succ, List.set_cons_zero]
  refine lx_call (by rfl) 16 _ _ (by rfl) (.string ⟨(be (val b)).toArray⟩) [.string ⟨b.toArray⟩] (by rfl) (by kernel_rfl) (fun _ => by go_simp) (fun X hX hF => (cleanC b X ).mono fun e X' ⟨h1, h2⟩ => ⟨by rw [h1], since_eq h2⟩) ?_
  simp only [Act.put, List.setIfInBounds_toArray, List.set_cons_succ, List.set_cons_zero]
  refine lx_val (by rfl) (.bool true) (fun X hX hF => exec_eqsB _ _ _ _ (by rfl) (be (val b)) ([] : List UInt8) (by rfl) (by rfl) true (eqs_t HB0.out) X) ?_
  simp only [Act.put, List.setIfInBounds_toArray, List.set_cons_succ, List.set_cons_zero]
  refine lx_val (by rfl) (.bool true) (fun X hX hF => by rfl) ?_
  simp only [Act.put, List.setIfInBounds_toArray, List.set_cons_succ, List.set_cons_zero]
  refine lx_val (by rfl) (.bool true) (fun X hX hF => by rfl) ?_
  simp only [Act.put, List.setIfInBounds_toArray, List.set_cons_succ, List.set_cons_zero]
  refine lx_nil ?_
  intro X5 hX5 hF
  have hb := bel_next hb hX5
  clear hF hX5
  go_wp2
  go_ret
  exact ⟨rfl, hb⟩

set_option maxRecDepth 100000 in
set_option maxHeartbeats 1600000 in
theorem czero (a b c : List UInt8) (w : World) (ha : a.length ≤ 100) (hb0 : b.length ≤ 100) (hc : c.length ≤ 100) (h0 : 0 < (Nat.gcd (val a) (val b))) (h3 : val c = 0) : Calls Tryd.prog 7 #[.string ⟨a.toArray⟩, .string ⟨b.toArray⟩, .string ⟨c.toArray⟩] w fun e w' => e = .returned (.bool true) ∧ Since w w' := by
  have HGP : Hid (0 < (Nat.gcd (val a) (val b))) := h0
  have HG1 : Hid (be (Nat.gcd (val a) (val b)) ≠ []) := be_ne h0
  have HRA : Hid (be ((val a) % (Nat.gcd (val a) (val b))) = []) := be_nil.2 (Nat.mod_eq_zero_of_dvd (Nat.gcd_dvd_left _ _))
  have HRB : Hid (be ((val b) % (Nat.gcd (val a) (val b))) = []) := be_nil.2 (Nat.mod_eq_zero_of_dvd (Nat.gcd_dvd_right _ _))
  clear h0
  have HC0 : Hid (be (val c) = []) := be_nil.2 h3
  clear h3
  have LB0 : (be ((val a) * (val c))).length ≤ 200 := be_mulL (be_valL ha) (be_valL hc)
  have LB1 : (be ((val b) * (val c))).length ≤ 200 := be_mulL (be_valL hb0) (be_valL hc)
  have LB2 : (be (Nat.gcd (val a) (val b))).length ≤ 200 := be_gcdL (be_valL ha) (be_valL hb0)
  go_enter Tryd.func7, Tryd.ntmps7
  go_upto_region 1 with (fail)
  refine lx_plain [] (lasts_nil) ?_
  simp only [its, Nat.zero_add, Nat.reduceAdd]
  refine lx_val (by rfl) (.string ⟨a.toArray⟩) (fun X hX hF => by rfl) ?_
  simp only [Act.put, List.setIfInBounds_toArray, List.set_cons_succ, List.set_cons_zero]
  refine lx_val (by rfl) (.int .i64 (a.length : Int)) (fun X hX hF => exec_lens Tryd.underlying9 _ (by rfl) a (by rfl) _ rfl X) ?_
  simp only [Act.put, List.setIfInBounds_toArray, List.set_cons_succ, List.set_cons_zero]
  refine lx_val (by rfl) (.bool false) (fun X hX hF => exec_gtr _ _ _ _ (by rfl) .i64 (a.length : Int) 100 (by rfl) (by rfl) false (decide_eq_false (by omega)) X) ?_
  simp only [Act.put, List.setIfInBounds_toArray, List.set_cons_succ, List.set_cons_zero]
  refine lx_val (by rfl) (.bool false) (fun X hX hF => by rfl) ?_
  simp only [Act.put, List.setIfInBounds_toArray, List.set_cons_succ, List.set_cons_zero]
  refine lx_val (by rfl) (.string ⟨b.toArray⟩) (fun X hX hF => by rfl) ?_
  simp only [Act.put, List.setIfInBounds_toArray, List.set_cons_succ, List.set_cons_zero]
  refine lx_val (by rfl) (.int .i64 (b.length : Int)) (fun X hX hF => exec_lens Tryd.underlying9 _ (by rfl) b (by rfl) _ rfl X) ?_
  simp only [Act.put, List.setIfInBounds_toArray, List.set_cons_succ, List.set_cons_zero]
  refine lx_val (by rfl) (.bool false) (fun X hX hF => exec_gtr _ _ _ _ (by rfl) .i64 (b.length : Int) 100 (by rfl) (by rfl) false (decide_eq_false (by omega)) X) ?_
  simp only [Act.put, List.setIfInBounds_toArray, List.set_cons_succ, List.set_cons_zero]
  refine lx_val (by rfl) (.bool false) (fun X hX hF => by rfl) ?_
  simp only [Act.put, List.setIfInBounds_toArray, List.set_cons_succ, List.set_cons_zero]
  refine lx_val (by rfl) (.bool false) (fun X hX hF => by rfl) ?_
  simp only [Act.put, List.setIfInBounds_toArray, List.set_cons_succ, List.set_cons_zero]
  refine lx_val (by rfl) (.string ⟨c.toArray⟩) (fun X hX hF => by rfl) ?_
  simp only [Act.put, List.setIfInBounds_toArray, List.set_cons_succ, List.set_cons_zero]
  refine lx_val (by rfl) (.int .i64 (c.length : Int)) (fun X hX hF => exec_lens Tryd.underlying9 _ (by rfl) c (by rfl) _ rfl X) ?_
  simp only [Act.put, List.setIfInBounds_toArray, List.set_cons_succ, List.set_cons_zero]
  refine lx_val (by rfl) (.bool false) (fun X hX hF => exec_gtr _ _ _ _ (by rfl) .i64 (c.length : Int) 100 (by rfl) (by rfl) false (decide_eq_false (by omega)) X) ?_
  simp only [Act.put, List.setIfInBounds_toArray, List.set_cons_succ, List.set_cons_zero]
  refine lx_val (by rfl) (.bool false) (fun X hX hF => by rfl) ?_
  simp only [Act.put, List.setIfInBounds_toArray, List.set_cons_succ, List.set_cons_zero]
  refine lx_nil ?_
  intro X1 hX1 hF
  have hb : Below w.heap.size w X1 := hX1
  clear hF hX1
  go_upto_region 3 with (fail)
  refine lx_plain [] (lasts_nil) ?_
  simp only [its, Nat.zero_add, Nat.reduceAdd]
  refine lx_val (by rfl) (.string ⟨a.toArray⟩) (fun X hX hF => by rfl) ?_
  simp only [Act.put, List.setIfInBounds_toArray, List.set_cons_succ, List.set_cons_zero]
  refine lx_val (by rfl) (.string ⟨b.toArray⟩) (fun X hX hF => by rfl) ?_
  simp only [Act.put, List.setIfInBounds_toArray, List.set_cons_succ, List.set_cons_zero]
  refine lx_call (by rfl) 24 _ _ (by rfl) (.string ⟨(be (Nat.gcd (val a) (val b))).toArray⟩) [.string ⟨a.toArray⟩, .string ⟨b.toArray⟩] (by rfl) (by kernel_rfl) (fun _ => by go_simp) (fun X hX hF => (ngcdC a b X (by first | omega | decide) (by first | omega | decide)).mono fun e X' ⟨h1, h2⟩ => ⟨by rw [h1], h2⟩) ?_
  simp only [Act.put, List.setIfInBounds_toArray, List.set_cons_succ, List.set_cons_zero]
  refine lx_val (by rfl) (.string ⟨(be (Nat.gcd (val a) (val b))).toArray⟩) (fun X hX hF => by rfl) ?_
  simp only [Act.put, List.setIfInBounds_toArray, List.set_cons_succ, List.set_cons_zero]
  refine lx_nil ?_
  intro X2 hX2 hF
  have hb := bel_next hb hX2
  clear hF hX2
  go_upto_region 4 with (fail)
  refine lx_plain [] (lasts_nil) ?_
  simp only [its, Nat.zero_add, Nat.reduceAdd]
  refine lx_val (by rfl) (.string ⟨(be (Nat.gcd (val a) (val b))).toArray⟩) (fun X hX hF => by rfl) ?_
  simp only [Act.put, List.setIfInBounds_toArray, List.set_cons_succ, List.set_cons_zero]
  refine lx_val (by rfl) (.string ⟨b.toArray⟩) (fun X hX hF => by rfl) ?_
  simp only [Act.put, List.setIfInBounds_toArray, List.set_cons_succ, List.set_cons_zero]
  refine lx_val (by rfl) (.string ⟨a.toArray⟩) (fun X hX hF => by rfl) ?_
  simp only [Act.put, List.setIfInBounds_toArray, List.set_cons_succ, List.set_cons_zero]
  refine lx_call (by rfl) 24 _ _ (by rfl) (.string ⟨(be (Nat.gcd (val b) (val a))).toArray⟩) [.string ⟨b.toArray⟩, .string ⟨a.toArray⟩] (by rfl) (by kernel_rfl) (fun _ => by go_simp) (fun X hX hF => (ngcdC b a X (by first | omega | decide) (by first | omega | decide)).mono fun e X' ⟨h1, h2⟩ => ⟨by rw [h1], h2⟩) ?_
  simp only [Act.put, List.setIfInBounds_toArray, List.set_cons_succ, List.set_cons_zero]
  refine lx_val (by rfl) (.bool false) (fun X hX hF => exec_nesB _ _ _ _ (by rfl) (be (Nat.gcd (val a) (val b))) (be (Nat.gcd (val b) (val a))) (by rfl) (by rfl) false (nes_f (congrArg be (Nat.gcd_comm _ _))) X) ?_
  simp only [Act.put, List.setIfInBounds_toArray, List.set_cons_succ, List.set_cons_zero]
  refine lx_val (by rfl) (.bool false) (fun X hX hF => by rfl) ?_
  simp only [Act.put, List.setIfInBounds_toArray, List.set_cons_succ, List.set_cons_zero]
  refine lx_val (by rfl) (.string ⟨a.toArray⟩) (fun X hX hF => by rfl) ?_
  simp only [Act.put, List.setIfInBounds_toArray, List.set_cons_succ, List.set_cons_zero]
  refine lx_val (by rfl) (.string ⟨c.toArray⟩) (fun X hX hF => by rfl) ?_
  simp only [Act.put, List.setIfInBounds_toArray, List.set_cons_succ, List.set_cons_zero]
  refine lx_call (by rfl) 22 _ _ (by rfl) (.string ⟨(be ((val a) * (val c))).toArray⟩) [.string ⟨a.toArray⟩, .string ⟨c.toArray⟩] (by rfl) (by kernel_rfl) (fun _ => by go_simp) (fun X hX hF => (nmulC a c X (by first | omega | decide) (by first | omega | decide)).mono fun e X' ⟨h1, h2⟩ => ⟨by rw [h1], h2⟩) ?_
  simp only [Act.put, List.setIfInBounds_toArray, List.set_cons_succ, List.set_cons_zero]
  refine lx_val (by rfl) (.string ⟨b.toArray⟩) (fun X hX hF => by rfl) ?_
  simp only [Act.put, List.setIfInBounds_toArray, List.set_cons_succ, List.set_cons_zero]
  refine lx_val (by rfl) (.string ⟨c.toArray⟩) (fun X hX hF => by rfl) ?_
  simp only [Act.put, List.setIfInBounds_toArray, List.set_cons_succ, List.set_cons_zero]
  refine lx_call (by rfl) 22 _ _ (by rfl) (.string ⟨(be ((val b) * (val c))).toArray⟩) [.string ⟨b.toArray⟩, .string ⟨c.toArray⟩] (by rfl) (by kernel_rfl) (fun _ => by go_simp) (fun X hX hF => (nmulC b c X (by first | omega | decide) (by first | omega | decide)).mono fun e X' ⟨h1, h2⟩ => ⟨by rw [h1], h2⟩) ?_
  simp only [Act.put, List.setIfInBounds_toArray, List.set_cons_succ, List.set_cons_zero]
  refine lx_call (by rfl) 24 _ _ (by rfl) (.string ⟨(be (Nat.gcd ((val a) * (val c)) ((val b) * (val c)))).toArray⟩) [.string ⟨(be ((val a) * (val c))).toArray⟩, .string ⟨(be ((val b) * (val c))).toArray⟩] (by rfl) (by kernel_rfl) (fun _ => by go_simp) (fun X hX hF => (ngcdC (be ((val a) * (val c))) (be ((val b) * (val c))) X (by first | omega | decide) (by first | omega | decide)).mono fun e X' ⟨h1, h2⟩ => ⟨by rw [h1]; simp only [val_be], h2⟩) ?_
  simp only [Act.put, List.setIfInBounds_toArray, List.set_cons_succ, List.set_cons_zero]
  refine lx_val (by rfl) (.string ⟨(be (Nat.gcd (val a) (val b))).toArray⟩) (fun X hX hF => by rfl) ?_
  simp only [Act.put, List.setIfInBounds_toArray, List.set_cons_succ, List.set_cons_zero]
  refine lx_val (by rfl) (.string ⟨c.toArray⟩) (fun X hX hF => by rfl) ?_
  simp only [Act.put, List.setIfInBounds_toArray, List.set_cons_succ, List.set_cons_zero]
  refine lx_call (by rfl) 22 _ _ (by rfl) (.string ⟨(be ((Nat.gcd (val a) (val b)) * (val c))).toArray⟩) [.string ⟨(be (Nat.gcd (val a) (val b))).toArray⟩, .string ⟨c.toArray⟩] (by rfl) (by kernel_rfl) (fun _ => by go_simp) (fun X hX hF => (nmulC (be (Nat.gcd (val a) (val b))) c X (by first | omega | decide) (by first | omega | decide)).mono fun e X' ⟨h1, h2⟩ => ⟨by rw [h1]; simp only [val_be], h2⟩) ?_
  simp only [Act.put, List.setIfInBounds_toArray, List.set_cons_succ, List.set_cons_zero]
  refine lx_val (by rfl) (.bool false) (fun X hX hF => exec_nesB _ _ _ _ (by rfl) (be (Nat.gcd ((val a) * (val c)) ((val b) * (val c)))) (be ((Nat.gcd (val a) (val b)) * (val c))) (by rfl) (by rfl) false (nes_f (congrArg be (Nat.gcd_mul_right _ _ _))) X) ?_
  simp only [Act.put, List.setIfInBounds_toArray, List.set_cons_succ, List.set_cons_zero]
  refine lx_val (by rfl) (.bool false) (fun X hX hF => by rfl) ?_
  simp only [Act.put, List.setIfInBounds_toArray, List.set_cons_succ, List.set_cons_zero]
  refine lx_nil ?_
  intro X3 hX3 hF
  have hb := bel_next hb hX3
  clear hF hX3
  go_upto_region 6 with (fail)
  refine lx_plain [] (lasts_nil) ?_
  simp only [its, Nat.zero_add, Nat.reduceAdd]
  refine lx_val (by rfl) (.string ⟨(be (Nat.gcd (val a) (val b))).toArray⟩) (fun X hX hF => by rfl) ?_
  simp only [Act.put, List.setIfInBounds_toArray, List.set_cons_succ, List.set_cons_zero]
  refine lx_val (by rfl) (.bool false) (fun X hX hF => exec_eqsB _ _ _ _ (by rfl) (be (Nat.gcd (val a) (val b))) ([] : List UInt8) (by rfl) (by rfl) false (eqs_f HG1.out) X) ?_
  simp only [Act.put, List.setIfInBounds_toArray, List.set_cons_succ, List.set_cons_zero]
  refine lx_nil ?_
  intro X4 hX4 hF
  have hb := bel_next hb hX4
  clear hF hX4
  go_upto_region 8 with (fail)
  refine lx_plain [] (lasts_nil) ?_
  simp only [its, Nat.zero_add, Nat.reduceAdd]
  refine lx_val (by rfl) (.string ⟨a.toArray⟩) (fun X hX hF => by rfl) ?_
  simp only [Act.put, List.setIfInBounds_toArray, List.set_cons_succ, List.set_cons_zero]
  refine lx_val (by rfl) (.string ⟨(be (Nat.gcd (val a) (val b))).toArray⟩) (fun X hX hF => by rfl) ?_
  simp only [Act.put, List.setIfInBounds_toArray, List.set_cons_succ, List.set_cons_zero]
  refine lx_call (by rfl) 11 _ _ (by rfl) (.tuple #[.string ⟨(be ((val a) / (Nat.gcd (val a) (val b)))).toArray⟩, .string ⟨(be ((val a) % (Nat.gcd (val a) (val b)))).toArray⟩, .int .i64 0]) [.string ⟨a.toArray⟩, .string ⟨(be (Nat.gcd (val a) (val b))).toArray⟩] (by rfl) (by kernel_rfl) (fun _ => by go_simp) (fun X hX hF => (ndivC a (be (Nat.gcd (val a) (val b))) X (by first | omega | decide) (by first | omega | decide) (by rw [val_be]; exact HGP.out)).mono fun e X' ⟨h1, h2⟩ => ⟨by rw [h1]; simp only [val_be], h2⟩) ?_
  simp only [Act.put, List.setIfInBounds_toArray, List.set_cons_succ, List.set_cons_zero]
  refine lx_val (by rfl) (.tuple #[.string ⟨(be ((val a) / (Nat.gcd (val a) (val b)))).toArray⟩, .string ⟨(be ((val a) % (Nat.gcd (val a) (val b)))).toArray⟩, .int .i64 0]) (fun X hX hF => by rfl) ?_
  simp only [Act.put, List.setIfInBounds_toArray, List.set_cons_succ, List.set_cons_zero]
  refine lx_val (by rfl) (.string ⟨(be ((val a) / (Nat.gcd (val a) (val b)))).toArray⟩) (fun X hX hF => by rfl) ?_
  simp only [Act.put, List.setIfInBounds_toArray, List.set_cons_succ, List.set_cons_zero]
  refine lx_val (by rfl) (.string ⟨(be ((val a) % (Nat.gcd (val a) (val b)))).toArray⟩) (fun X hX hF => by rfl) ?_
  simp only [Act.put, List.setIfInBounds_toArray, List.set_cons_succ, List.set_cons_zero]
  refine lx_val (by rfl) (.int .i64 0) (fun X hX hF => by rfl) ?_
  simp only [Act.put, List.setIfInBounds_toArray, List.set_cons_succ, List.set_cons_zero]
  refine lx_val (by rfl) (.string ⟨(be ((val a) / (Nat.gcd (val a) (val b)))).toArray⟩) (fun X hX hF => by rfl) ?_
  simp only [Act.put, List.setIfInBounds_toArray, List.set_cons_succ, List.set_cons_zero]
  refine lx_val (by rfl) (.string ⟨(be ((val a) % (Nat.gcd (val a) (val b)))).toArray⟩) (fun X hX hF => by rfl) ?_
  simp only [Act.put, List.setIfInBounds_toArray, List.set_cons_succ, List.set_cons_zero]
  refine lx_val (by rfl) (.int .i64 0) (fun X hX hF => by rfl) ?_
  simp only [Act.put, List.setIfInBounds_toArray, List.set_cons_succ, List.set_cons_zero]
  refine lx_nil ?_
  intro X5 hX5 hF
  have hb := bel_next hb hX5
  clear hF hX5
  go_upto_region 9 with (fail)
  refine lx_plain [] (lasts_nil) ?_
  simp only [its, Nat.zero_add, Nat.reduceAdd]
  refine lx_val (by rfl) (.string ⟨b.toArray⟩) (fun X hX hF => by rfl) ?_
  simp only [Act.put, List.setIfInBounds_toArray, List.set_cons_succ, List.set_cons_zero]
  refine lx_val (by rfl) (.string ⟨(be (Nat.gcd (val a) (val b))).toArray⟩) (fun X hX hF => by rfl) ?_
  simp only [Act.put, List.setIfInBounds_toArray, List.set_cons_succ, List.set_cons_zero]
  refine lx_call (by rfl) 11 _ _ (by rfl) (.tuple #[.string ⟨(be ((val b) / (Nat.gcd (val a) (val b)))).toArray⟩, .string ⟨(be ((val b) % (Nat.gcd (val a) (val b)))).toArray⟩, .int .i64 0]) [.string ⟨b.toArray⟩, .string ⟨(be (Nat.gcd (val a) (val b))).toArray⟩] (by rfl) (by kernel_rfl) (fun _ => by go_simp) (fun X hX hF => (ndivC b (be (Nat.gcd (val a) (val b))) X (by first | omega | decide) (by first | omega | decide) (by rw [val_be]; exact HGP.out)).mono fun e X' ⟨h1, h2⟩ => ⟨by rw [h1]; simp only [val_be], h2⟩) ?_
  simp only [Act.put, List.setIfInBounds_toArray, List.set_cons_succ, List.set_cons_zero]
  refine lx_val (by rfl) (.tuple #[.string ⟨(be ((val b) / (Nat.gcd (val a) (val b)))).toArray⟩, .string ⟨(be ((val b) % (Nat.gcd (val a) (val b)))).toArray⟩, .int .i64 0]) (fun X hX hF => by rfl) ?_
  simp only [Act.put, List.setIfInBounds_toArray, List.set_cons_succ, List.set_cons_zero]
  refine lx_val (by rfl) (.string ⟨(be ((val b) / (Nat.gcd (val a) (val b)))).toArray⟩) (fun X hX hF => by rfl) ?_
  simp only [Act.put, List.setIfInBounds_toArray, List.set_cons_succ, List.set_cons_zero]
  refine lx_val (by rfl) (.string ⟨(be ((val b) % (Nat.gcd (val a) (val b)))).toArray⟩) (fun X hX hF => by rfl) ?_
  simp only [Act.put, List.setIfInBounds_toArray, List.set_cons_succ, List.set_cons_zero]
  refine lx_val (by rfl) (.int .i64 0) (fun X hX hF => by rfl) ?_
  simp only [Act.put, List.setIfInBounds_toArray, List.set_cons_succ, List.set_cons_zero]
  refine lx_val (by rfl) (.string ⟨(be ((val b) / (Nat.gcd (val a) (val b)))).toArray⟩) (fun X hX hF => by rfl) ?_
  simp only [Act.put, List.setIfInBounds_toArray, List.set_cons_succ, List.set_cons_zero]
  refine lx_val (by rfl) (.string ⟨(be ((val b) % (Nat.gcd (val a) (val b)))).toArray⟩) (fun X hX hF => by rfl) ?_
  simp only [Act.put, List.setIfInBounds_toArray, List.set_cons_succ, List.set_cons_zero]
  refine lx_val (by rfl) (.int .i64 0) (fun X hX hF => by rfl) ?_
  simp only [Act.put, List.setIfInBounds_toArray, List.set_cons_succ, List.set_cons_zero]
  refine lx_nil ?_
  intro X6 hX6 hF
  have hb := bel_next hb hX6
  clear hF hX6
  go_upto_region 10 with (fail)
  refine lx_plain [] (lasts_nil) ?_
  simp only [its, Nat.zero_add, Nat.reduceAdd]
  refine lx_val (by rfl) (.int .i64 0) (fun X hX hF => by rfl) ?_
  simp only [Act.put, List.setIfInBounds_toArray, List.set_cons_succ, List.set_cons_zero]
  refine lx_val (by rfl) (.bool false) (fun X hX hF => exec_nei _ _ _ _ (by rfl) .i64 0 0 (by rfl) (by rfl) false (by rw [decide_eq_true (by omega)]; rfl) X) ?_
  simp only [Act.put, List.setIfInBounds_toArray, List.set_cons_succ, List.set_cons_zero]
  refine lx_val (by rfl) (.bool false) (fun X hX hF => by rfl) ?_
  simp only [Act.put, List.setIfInBounds_toArray, List.set_cons_succ, List.set_cons_zero]
  refine lx_val (by rfl) (.int .i64 0) (fun X hX hF => by rfl) ?_
  simp only [Act.put, List.setIfInBounds_toArray, List.set_cons_succ, List.set_cons_zero]
  refine lx_val (by rfl) (.bool false) (fun X hX hF => exec_nei _ _ _ _ (by rfl) .i64 0 0 (by rfl) (by rfl) false (by rw [decide_eq_true (by omega)]; rfl) X) ?_
  simp only [Act.put, List.setIfInBounds_toArray, List.set_cons_succ, List.set_cons_zero]
  refine lx_val (by rfl) (.bool false) (fun X hX hF => by rfl) ?_
  simp only [Act.put, List.setIfInBounds_toArray, List.set_cons_succ, List.set_cons_zero]
  refine lx_val (by rfl) (.bool false) (fun X hX hF => by rfl) ?_
  simp only [Act.put, List.setIfInBounds_toArray, List.set_cons_succ, List.set_cons_zero]
  refine lx_val (by rfl) (.string ⟨(be ((val a) % (Nat.gcd (val a) (val b)))).toArray⟩) (fun X hX hF => by rfl) ?_
  simp only [Act.put, List.setIfInBounds_toArray, List.set_cons_succ, List.set_cons_zero]
  refine lx_val (by rfl) (.bool false) (fun X hX hF => exec_nesB _ _ _ _ (by rfl) (be ((val a) % (Nat.gcd (val a) (val b)))) ([] : List UInt8) (by rfl) (by rfl) false (nes_f HRA.out) X) ?_
  simp only [Act.put, List.setIfInBounds_toArray, List.set_cons_succ, List.set_cons_zero]
  refine lx_val (by rfl) (.bool false) (fun X hX hF => by rfl) ?_
  simp only [Act.put, List.setIfInBounds_toArray, List.set_cons_succ, List.set_cons_zero]
  refine lx_val (by rfl) (.bool false) (fun X hX hF => by rfl) ?_
  simp only [Act.put, List.setIfInBounds_toArray, List.set_cons_succ, List.set_cons_zero]
  refine lx_val (by rfl) (.string ⟨(be ((val b) % (Nat.gcd (val a) (val b)))).toArray⟩) (fun X hX hF => by rfl) ?_
  simp only [Act.put, List.setIfInBounds_toArray, List.set_cons_succ, List.set_cons_zero]
  refine lx_val (by rfl) (.bool false) (fun X hX hF => exec_nesB _ _ _ _ (by rfl) (be ((val b) % (Nat.gcd (val a) (val b)))) ([] : List UInt8) (by rfl) (by rfl) false (nes_f HRB.out) X) ?_
  simp only [Act.put, List.setIfInBounds_toArray, List.set_cons_succ, List.set_cons_zero]
  refine lx_val (by rfl) (.bool false) (fun X hX hF => by rfl) ?_
  simp only [Act.put, List.setIfInBounds_toArray, List.set_cons_succ, List.set_cons_zero]
  refine lx_nil ?_
  intro X7 hX7 hF
  have hb := bel_next hb hX7
  clear hF hX7
  go_upto_region 12 with (fail)
  refine lx_plain [] (lasts_nil) ?_
  simp only [its, Nat.zero_add, Nat.reduceAdd]
  refine lx_val (by rfl) (.string ⟨c.toArray⟩) (fun X hX hF => by rfl) ?_
  simp only [Act.put, List.setIfInBounds_toArray, List.set_cons_succ, List.set_cons_zero]
  refine lx_call (by rfl) 16 _ _ (by rfl) (.string ⟨(be (val c)).toArray⟩) [.string ⟨c.toArray⟩] (by rfl) (by kernel_rfl) (fun _ => by go_simp) (fun X hX hF => (cleanC c X ).mono fun e X' ⟨h1, h2⟩ => ⟨by rw [h1], since_eq h2⟩) ?_
  simp only [Act.put, List.setIfInBounds_toArray, List.set_cons_succ, List.set_cons_zero]
  refine lx_val (by rfl) (.bool true) (fun X hX hF => exec_eqsB _ _ _ _ (by rfl) (be (val c)) ([] : List UInt8) (by rfl) (by rfl) true (eqs_t HC0.out) X) ?_
  simp only [Act.put, List.setIfInBounds_toArray, List.set_cons_succ, List.set_cons_zero]
  refine lx_nil ?_
  intro X8 hX8 hF
  have hb := bel_next hb hX8
  clear hF hX8
  go_upto_region 13 with (fail)
  refine lx_plain [] (lasts_nil) ?_
  simp only [its, Nat.zero_add, Nat.reduceAdd]
  refine lx_call (by rfl) 9 _ _ (by rfl) (.bool true) [] (by rfl) (by kernel_rfl) (fun _ => by go_simp) (fun X hX hF => sanityC X) ?_
  simp only [Act.put, List.setIfInBounds_toArray, List.set_cons_succ, List.set_cons_zero]
  refine lx_val (by rfl) (.bool true) (fun X hX hF => by rfl) ?_
  simp only [Act.put, List.setIfInBounds_toArray, List.set_cons_succ, List.set_cons_zero]
  refine lx_nil ?_
  intro X9 hX9 hF
  have hb := bel_next hb hX9
  clear hF hX9
  go_wp2
  go_ret
  exact ⟨rfl, hb⟩

set_option maxRecDepth 100000 in
set_option maxHeartbeats 1600000 in
theorem cA (a b c : List UInt8) (w : World) (ha : a.length ≤ 100) (hb0 : b.length ≤ 100) (hc : c.length ≤ 100) (h0 : 0 < (Nat.gcd (val a) (val b))) (h3 : 0 < val c) (h4 : ¬ val a % val c = 0) : Calls Tryd.prog 7 #[.string ⟨a.toArray⟩, .string ⟨b.toArray⟩, .string ⟨c.toArray⟩] w fun e w' => e = .returned (.bool true) ∧ Since w w' := by
  have HGP : Hid (0 < (Nat.gcd (val a) (val b))) := h0
  have HG1 : Hid (be (Nat.gcd (val a) (val b)) ≠ []) := be_ne h0
  have HRA : Hid (be ((val a) % (Nat.gcd (val a) (val b))) = []) := be_nil.2 (Nat.mod_eq_zero_of_dvd (Nat.gcd_dvd_left _ _))
  have HRB : Hid (be ((val b) % (Nat.gcd (val a) (val b))) = []) := be_nil.2 (Nat.mod_eq_zero_of_dvd (Nat.gcd_dvd_right _ _))
  clear h0
  have HC0 : Hid (be (val c) ≠ []) := be_ne h3
  have HCP : Hid (0 < val c) := h3
  have HRC : Hid (be ((val a) % (val c)) ≠ []) := be_ne (Nat.pos_of_ne_zero h4)
  clear h3 h4
  have LB0 : (be ((val a) * (val c))).length ≤ 200 := be_mulL (be_valL ha) (be_valL hc)
  have LB1 : (be ((val b) * (val c))).length ≤ 200 := be_mulL (be_valL hb0) (be_valL hc)
  have LB2 : (be (Nat.gcd (val a) (val b))).length ≤ 200 := be_gcdL (be_valL ha) (be_valL hb0)
  go_enter Tryd.func7, Tryd.ntmps7
  go_upto_region 1 with (fail)
  refine lx_plain [] (lasts_nil) ?_
  simp only [its, Nat.zero_add, Nat.reduceAdd]
  refine lx_val (by rfl) (.string ⟨a.toArray⟩) (fun X hX hF => by rfl) ?_
  simp only [Act.put, List.setIfInBounds_toArray, List.set_cons_succ, List.set_cons_zero]
  refine lx_val (by rfl) (.int .i64 (a.length : Int)) (fun X hX hF => exec_lens Tryd.underlying9 _ (by rfl) a (by rfl) _ rfl X) ?_
  simp only [Act.put, List.setIfInBounds_toArray, List.set_cons_succ, List.set_cons_zero]
  refine lx_val (by rfl) (.bool false) (fun X hX hF => exec_gtr _ _ _ _ (by rfl) .i64 (a.length : Int) 100 (by rfl) (by rfl) false (decide_eq_false (by omega)) X) ?_
  simp only [Act.put, List.setIfInBounds_toArray, List.set_cons_succ, List.set_cons_zero]
  refine lx_val (by rfl) (.bool false) (fun X hX hF => by rfl) ?_
  simp only [Act.put, List.setIfInBounds_toArray, List.set_cons_succ, List.set_cons_zero]
  refine lx_val (by rfl) (.string ⟨b.toArray⟩) (fun X hX hF => by rfl) ?_
  simp only [Act.put, List.setIfInBounds_toArray, List.set_cons_succ, List.set_cons_zero]
  refine lx_val (by rfl) (.int .i64 (b.length : Int)) (fun X hX hF => exec_lens Tryd.underlying9 _ (by rfl) b (by rfl) _ rfl X) ?_
  simp only [Act.put, List.setIfInBounds_toArray, List.set_cons_succ, List.set_cons_zero]
  refine lx_val (by rfl) (.bool false) (fun X hX hF => exec_gtr _ _ _ _ (by rfl) .i64 (b.length : Int) 100 (by rfl) (by rfl) false (decide_eq_false (by omega)) X) ?_
  simp only [Act.put, List.setIfInBounds_toArray, List.set_cons_succ, List.set_cons_zero]
  refine lx_val (by rfl) (.bool false) (fun X hX hF => by rfl) ?_
  simp only [Act.put, List.setIfInBounds_toArray, List.set_cons_succ, List.set_cons_zero]
  refine lx_val (by rfl) (.bool false) (fun X hX hF => by rfl) ?_
  simp only [Act.put, List.setIfInBounds_toArray, List.set_cons_succ, List.set_cons_zero]
  refine lx_val (by rfl) (.string ⟨c.toArray⟩) (fun X hX hF => by rfl) ?_
  simp only [Act.put, List.setIfInBounds_toArray, List.set_cons_succ, List.set_cons_zero]
  refine lx_val (by rfl) (.int .i64 (c.length : Int)) (fun X hX hF => exec_lens Tryd.underlying9 _ (by rfl) c (by rfl) _ rfl X) ?_
  simp only [Act.put, List.setIfInBounds_toArray, List.set_cons_succ, List.set_cons_zero]
  refine lx_val (by rfl) (.bool false) (fun X hX hF => exec_gtr _ _ _ _ (by rfl) .i64 (c.length : Int) 100 (by rfl) (by rfl) false (decide_eq_false (by omega)) X) ?_
  simp only [Act.put, List.setIfInBounds_toArray, List.set_cons_succ, List.set_cons_zero]
  refine lx_val (by rfl) (.bool false) (fun X hX hF => by rfl) ?_
  simp only [Act.put, List.setIfInBounds_toArray, List.set_cons_succ, List.set_cons_zero]
  refine lx_nil ?_
  intro X1 hX1 hF
  have hb : Below w.heap.size w X1 := hX1
  clear hF hX1
  go_upto_region 3 with (fail)
  refine lx_plain [] (lasts_nil) ?_
  simp only [its, Nat.zero_add, Nat.reduceAdd]
  refine lx_val (by rfl) (.string ⟨a.toArray⟩) (fun X hX hF => by rfl) ?_
  simp only [Act.put, List.setIfInBounds_toArray, List.set_cons_succ, List.set_cons_zero]
  refine lx_val (by rfl) (.string ⟨b.toArray⟩) (fun X hX hF => by rfl) ?_
  simp only [Act.put, List.setIfInBounds_toArray, List.set_cons_succ, List.set_cons_zero]
  refine lx_call (by rfl) 24 _ _ (by rfl) (.string ⟨(be (Nat.gcd (val a) (val b))).toArray⟩) [.string ⟨a.toArray⟩, .string ⟨b.toArray⟩] (by rfl) (by kernel_rfl) (fun _ => by go_simp) (fun X hX hF => (ngcdC a b X (by first | omega | decide) (by first | omega | decide)).mono fun e X' ⟨h1, h2⟩ => ⟨by rw [h1], h2⟩) ?_
  simp only [Act.put, List.setIfInBounds_toArray, List.set_cons_succ, List.set_cons_zero]
  refine lx_val (by rfl) (.string ⟨(be (Nat.gcd (val a) (val b))).toArray⟩) (fun X hX hF => by rfl) ?_
  simp only [Act.put, List.setIfInBounds_toArray, List.set_cons_succ, List.set_cons_zero]
  refine lx_nil ?_
  intro X2 hX2 hF
  have hb := bel_next hb hX2
  clear hF hX2
  go_upto_region 4 with (fail)
  refine lx_plain [] (lasts_nil) ?_
  simp only [its, Nat.zero_add, Nat.reduceAdd]
  refine lx_val (by rfl) (.string ⟨(be (Nat.gcd (val a) (val b))).toArray⟩) (fun X hX hF => by rfl) ?_
  simp only [Act.put, List.setIfInBounds_toArray, List.set_cons_succ, List.set_cons_zero]
  refine lx_val (by rfl) (.string ⟨b.toArray⟩) (fun X hX hF => by rfl) ?_
  simp only [Act.put, List.setIfInBounds_toArray, List.set_cons_succ, List.set_cons_zero]
  refine lx_val (by rfl) (.string ⟨a.toArray⟩) (fun X hX hF => by rfl) ?_
  simp only [Act.put, List.setIfInBounds_toArray, List.set_cons_succ, List.set_cons_zero]
  refine lx_call (by rfl) 24 _ _ (by rfl) (.string ⟨(be (Nat.gcd (val b) (val a))).toArray⟩) [.string ⟨b.toArray⟩, .string ⟨a.toArray⟩] (by rfl) (by kernel_rfl) (fun _ => by go_simp) (fun X hX hF => (ngcdC b a X (by first | omega | decide) (by first | omega | decide)).mono fun e X' ⟨h1, h2⟩ => ⟨by rw [h1], h2⟩) ?_
  simp only [Act.put, List.setIfInBounds_toArray, List.set_cons_succ, List.set_cons_zero]
  refine lx_val (by rfl) (.bool false) (fun X hX hF => exec_nesB _ _ _ _ (by rfl) (be (Nat.gcd (val a) (val b))) (be (Nat.gcd (val b) (val a))) (by rfl) (by rfl) false (nes_f (congrArg be (Nat.gcd_comm _ _))) X) ?_
  simp only [Act.put, List.setIfInBounds_toArray, List.set_cons_succ, List.set_cons_zero]
  refine lx_val (by rfl) (.bool false) (fun X hX hF => by rfl) ?_
  simp only [Act.put, List.setIfInBounds_toArray, List.set_cons_succ, List.set_cons_zero]
  refine lx_val (by rfl) (.string ⟨a.toArray⟩) (fun X hX hF => by rfl) ?_
  simp only [Act.put, List.setIfInBounds_toArray, List.set_cons_succ, List.set_cons_zero]
  refine lx_val (by rfl) (.string ⟨c.toArray⟩) (fun X hX hF => by rfl) ?_
  simp only [Act.put, List.setIfInBounds_toArray, List.set_cons_succ, List.set_cons_zero]
  refine lx_call (by rfl) 22 _ _ (by rfl) (.string ⟨(be ((val a) * (val c))).toArray⟩) [.string ⟨a.toArray⟩, .string ⟨c.toArray⟩] (by rfl) (by kernel_rfl) (fun _ => by go_simp) (fun X hX hF => (nmulC a c X (by first | omega | decide) (by first | omega | decide)).mono fun e X' ⟨h1, h2⟩ => ⟨by rw [h1], h2⟩) ?_
  simp only [Act.put, List.setIfInBounds_toArray, List.set_cons_succ, List.set_cons_zero]
  refine lx_val (by rfl) (.string ⟨b.toArray⟩) (fun X hX hF => by rfl) ?_
  simp only [Act.put, List.setIfInBounds_toArray, List.set_cons_succ, List.set_cons_zero]
  refine lx_val (by rfl) (.string ⟨c.toArray⟩) (fun X hX hF => by rfl) ?_
  simp only [Act.put, List.setIfInBounds_toArray, List.set_cons_succ, List.set_cons_zero]
  refine lx_call (by rfl) 22 _ _ (by rfl) (.string ⟨(be ((val b) * (val c))).toArray⟩) [.string ⟨b.toArray⟩, .string ⟨c.toArray⟩] (by rfl) (by kernel_rfl) (fun _ => by go_simp) (fun X hX hF => (nmulC b c X (by first | omega | decide) (by first | omega | decide)).mono fun e X' ⟨h1, h2⟩ => ⟨by rw [h1], h2⟩) ?_
  simp only [Act.put, List.setIfInBounds_toArray, List.set_cons_succ, List.set_cons_zero]
  refine lx_call (by rfl) 24 _ _ (by rfl) (.string ⟨(be (Nat.gcd ((val a) * (val c)) ((val b) * (val c)))).toArray⟩) [.string ⟨(be ((val a) * (val c))).toArray⟩, .string ⟨(be ((val b) * (val c))).toArray⟩] (by rfl) (by kernel_rfl) (fun _ => by go_simp) (fun X hX hF => (ngcdC (be ((val a) * (val c))) (be ((val b) * (val c))) X (by first | omega | decide) (by first | omega | decide)).mono fun e X' ⟨h1, h2⟩ => ⟨by rw [h1]; simp only [val_be], h2⟩) ?_
  simp only [Act.put, List.setIfInBounds_toArray, List.set_cons_succ, List.set_cons_zero]
  refine lx_val (by rfl) (.string ⟨(be (Nat.gcd (val a) (val b))).toArray⟩) (fun X hX hF => by rfl) ?_
  simp only [Act.put, List.setIfInBounds_toArray, List.set_cons_succ, List.set_cons_zero]
  refine lx_val (by rfl) (.string ⟨c.toArray⟩) (fun X hX hF => by rfl) ?_
  simp only [Act.put, List.setIfInBounds_toArray, List.set_cons_succ, List.set_cons_zero]
  refine lx_call (by rfl) 22 _ _ (by rfl) (.string ⟨(be ((Nat.gcd (val a) (val b)) * (val c))).toArray⟩) [.string ⟨(be (Nat.gcd (val a) (val b))).toArray⟩, .string ⟨c.toArray⟩] (by rfl) (by kernel_rfl) (fun _ => by go_simp) (fun X hX hF => (nmulC (be (Nat.gcd (val a) (val b))) c X (by first | omega | decide) (by first | omega | decide)).mono fun e X' ⟨h1, h2⟩ => ⟨by rw [h1]; simp only [val_be], h2⟩) ?_
  simp only [Act.put, List.setIfInBounds_toArray, List.set_cons_succ, List.set_cons_zero]
  refine lx_val (by rfl) (.bool false) (fun X hX hF => exec_nesB _ _ _ _ (by rfl) (be (Nat.gcd ((val a) * (val c)) ((val b) * (val c)))) (be ((Nat.gcd (val a) (val b)) * (val c))) (by rfl) (by rfl) false (nes_f (congrArg be (Nat.gcd_mul_right _ _ _))) X) ?_
  simp only [Act.put, List.setIfInBounds_toArray, List.set_cons_succ, List.set_cons_zero]
  refine lx_val (by rfl) (.bool false) (fun X hX hF => by rfl) ?_
  simp only [Act.put, List.setIfInBounds_toArray, List.set_cons_succ, List.set_cons_zero]
  refine lx_nil ?_
  intro X3 hX3 hF
  have hb := bel_next hb hX3
  clear hF hX3
  go_upto_region 6 with (fail)
  refine lx_plain [] (lasts_nil) ?_
  simp only [its, Nat.zero_add, Nat.reduceAdd]
  refine lx_val (by rfl) (.string ⟨(be (Nat.gcd (val a) (val b))).toArray⟩) (fun X hX hF => by rfl) ?_
  simp only [Act.put, List.setIfInBounds_toArray, List.set_cons_succ, List.set_cons_zero]
  refine lx_val (by rfl) (.bool false) (fun X hX hF => exec_eqsB _ _ _ _ (by rfl) (be (Nat.gcd (val a) (val b))) ([] : List UInt8) (by rfl) (by rfl) false (eqs_f HG1.out) X) ?_
  simp only [Act.put, List.setIfInBounds_toArray, List.set_cons_succ, List.set_cons_zero]
  refine lx_nil ?_
  intro X4 hX4 hF
  have hb := bel_next hb hX4
  clear hF hX4
  go_upto_region 8 with (fail)
  refine lx_plain [] (lasts_nil) ?_
  simp only [its, Nat.zero_add, Nat.reduceAdd]
  refine lx_val (by rfl) (.string ⟨a.toArray⟩) (fun X hX hF => by rfl) ?_
  simp only [Act.put, List.setIfInBounds_toArray, List.set_cons_succ, List.set_cons_zero]
  refine lx_val (by rfl) (.string ⟨(be (Nat.gcd (val a) (val b))).toArray⟩) (fun X hX hF => by rfl) ?_
  simp only [Act.put, List.setIfInBounds_toArray, List.set_cons_succ, List.set_cons_zero]
  refine lx_call (by rfl) 11 _ _ (by rfl) (.tuple #[.string ⟨(be ((val a) / (Nat.gcd (val a) (val b)))).toArray⟩, .string ⟨(be ((val a) % (Nat.gcd (val a) (val b)))).toArray⟩, .int .i64 0]) [.string ⟨a.toArray⟩, .string ⟨(be (Nat.gcd (val a) (val b))).toArray⟩] (by rfl) (by kernel_rfl) (fun _ => by go_simp) (fun X hX hF => (ndivC a (be (Nat.gcd (val a) (val b))) X (by first | omega | decide) (by first | omega | decide) (by rw [val_be]; exact HGP.out)).mono fun e X' ⟨h1, h2⟩ => ⟨by rw [h1]; simp only [val_be], h2⟩) ?_
  simp only [Act.put, List.setIfInBounds_toArray, List.set_cons_succ, List.set_cons_zero]
  refine lx_val (by rfl) (.tuple #[.string ⟨(be ((val a) / (Nat.gcd (val a) (val b)))).toArray⟩, .string ⟨(be ((val a) % (Nat.gcd (val a) (val b)))).toArray⟩, .int .i64 0]) (fun X hX hF => by rfl) ?_
  simp only [Act.put, List.setIfInBounds_toArray, List.set_cons_succ, List.set_cons_zero]
  refine lx_val (by rfl) (.string ⟨(be ((val a) / (Nat.gcd (val a) (val b)))).toArray⟩) (fun X hX hF => by rfl) ?_
  simp only [Act.put, List.setIfInBounds_toArray, List.set_cons_succ, List.set_cons_zero]
  refine lx_val (by rfl) (.string ⟨(be ((val a) % (Nat.gcd (val a) (val b)))).toArray⟩) (fun X hX hF => by rfl) ?_
  simp only [Act.put, List.setIfInBounds_toArray, List.set_cons_succ, List.set_cons_zero]
  refine lx_val (by rfl) (.int .i64 0) (fun X hX hF => by rfl) ?_
  simp only [Act.put, List.setIfInBounds_toArray, List.set_cons_succ, List.set_cons_zero]
  refine lx_val (by rfl) (.string ⟨(be ((val a) / (Nat.gcd (val a) (val b)))).toArray⟩) (fun X hX hF => by rfl) ?_
  simp only [Act.put, List.setIfInBounds_toArray, List.set_cons_succ, List.set_cons_zero]
  refine lx_val (by rfl) (.string ⟨(be ((val a) % (Nat.gcd (val a) (val b)))).toArray⟩) (fun X hX hF => by rfl) ?_
  simp only [Act.put, List.setIfInBounds_toArray, List.set_cons_succ, List.set_cons_zero]
  refine lx_val (by rfl) (.int .i64 0) (fun X hX hF => by rfl) ?_
  simp only [Act.put, List.setIfInBounds_toArray, List.set_cons_succ, List.set_cons_zero]
  refine lx_nil ?_
  intro X5 hX5 hF
  have hb := bel_next hb hX5
  clear hF hX5
  go_upto_region 9 with (fail)
  refine lx_plain [] (lasts_nil) ?_
  simp only [its, Nat.zero_add, Nat.reduceAdd]
  refine lx_val (by rfl) (.string ⟨b.toArray⟩) (fun X hX hF => by rfl) ?_
  simp only [Act.put, List.setIfInBounds_toArray, List.set_cons_succ, List.set_cons_zero]
  refine lx_val (by rfl) (.string ⟨(be (Nat.gcd (val a) (val b))).toArray⟩) (fun X hX hF => by rfl) ?_
  simp only [Act.put, List.setIfInBounds_toArray, List.set_cons_succ, List.set_cons_zero]
  refine lx_call (by rfl) 11 _ _ (by rfl) (.tuple #[.string ⟨(be ((val b) / (Nat.gcd (val a) (val b)))).toArray⟩, .string ⟨(be ((val b) % (Nat.gcd (val a) (val b)))).toArray⟩, .int .i64 0]) [.string ⟨b.toArray⟩, .string ⟨(be (Nat.gcd (val a) (val b))).toArray⟩] (by rfl) (by kernel_rfl) (fun _ => by go_simp) (fun X hX hF => (ndivC b (be (Nat.gcd (val a) (val b))) X (by first | omega | decide) (by first | omega | decide) (by rw [val_be]; exact HGP.out)).mono fun e X' ⟨h1, h2⟩ => ⟨by rw [h1]; simp only [val_be], h2⟩) ?_
  simp only [Act.put, List.setIfInBounds_toArray, List.set_cons_succ, List.set_cons_zero]
  refine lx_val (by rfl) (.tuple #[.string ⟨(be ((val b) / (Nat.gcd (val a) (val b)))).toArray⟩, .string ⟨(be ((val b) % (Nat.gcd (val a) (val b)))).toArray⟩, .int .i64 0]) (fun X hX hF => by rfl) ?_
  simp only [Act.put, List.setIfInBounds_toArray, List.set_cons_succ, List.set_cons_zero]
  refine lx_val (by rfl) (.string ⟨(be ((val b) / (Nat.gcd (val a) (val b)))).toArray⟩) (fun X hX hF => by rfl) ?_
  simp only [Act.put, List.setIfInBounds_toArray, List.set_cons_succ, List.set_cons_zero]
  refine lx_val (by rfl) (.string ⟨(be ((val b) % (Nat.gcd (val a) (val b)))).toArray⟩) (fun X hX hF => by rfl) ?_
  simp only [Act.put, List.setIfInBounds_toArray, List.set_cons_succ, List.set_cons_zero]
  refine lx_val (by rfl) (.int .i64 0) (fun X hX hF => by rfl) ?_
  simp only [Act.put, List.setIfInBounds_toArray, List.set_cons_succ, List.set_cons_zero]
  refine lx_val (by rfl) (.string ⟨(be ((val b) / (Nat.gcd (val a) (val b)))).toArray⟩) (fun X hX hF => by rfl) ?_
  simp only [Act.put, List.setIfInBounds_toArray, List.set_cons_succ, List.set_cons_zero]
  refine lx_val (by rfl) (.string ⟨(be ((val b) % (Nat.gcd (val a) (val b)))).toArray⟩) (fun X hX hF => by rfl) ?_
  simp only [Act.put, List.setIfInBounds_toArray, List.set_cons_succ, List.set_cons_zero]
  refine lx_val (by rfl) (.int .i64 0) (fun X hX hF => by rfl) ?_
  simp only [Act.put, List.setIfInBounds_toArray, List.set_cons_succ, List.set_cons_zero]
  refine lx_nil ?_
  intro X6 hX6 hF
  have hb := bel_next hb hX6
  clear hF hX6
  go_upto_region 10 with (fail)
  refine lx_plain [] (lasts_nil) ?_
  simp only [its, Nat.zero_add, Nat.reduceAdd]
  refine lx_val (by rfl) (.int .i64 0) (fun X hX hF => by rfl) ?_
  simp only [Act.put, List.setIfInBounds_toArray, List.set_cons_succ, List.set_cons_zero]
  refine lx_val (by rfl) (.bool false) (fun X hX hF => exec_nei _ _ _ _ (by rfl) .i64 0 0 (by rfl) (by rfl) false (by rw [decide_eq_true (by omega)]; rfl) X) ?_
  simp only [Act.put, List.setIfInBounds_toArray, List.set_cons_succ, List.set_cons_zero]
  refine lx_val (by rfl) (.bool false) (fun X hX hF => by rfl) ?_
  simp only [Act.put, List.setIfInBounds_toArray, List.set_cons_succ, List.set_cons_zero]
  refine lx_val (by rfl) (.int .i64 0) (fun X hX hF => by rfl) ?_
  simp only [Act.put, List.setIfInBounds_toArray, List.set_cons_succ, List.set_cons_zero]
  refine lx_val (by rfl) (.bool false) (fun X hX hF => exec_nei _ _ _ _ (by rfl) .i64 0 0 (by rfl) (by rfl) false (by rw [decide_eq_true (by omega)]; rfl) X) ?_
  simp only [Act.put, List.setIfInBounds_toArray, List.set_cons_succ, List.set_cons_zero]
  refine lx_val (by rfl) (.bool false) (fun X hX hF => by rfl) ?_
  simp only [Act.put, List.setIfInBounds_toArray, List.set_cons_succ, List.set_cons_zero]
  refine lx_val (by rfl) (.bool false) (fun X hX hF => by rfl) ?_
  simp only [Act.put, List.setIfInBounds_toArray, List.set_cons_succ, List.set_cons_zero]
  refine lx_val (by rfl) (.string ⟨(be ((val a) % (Nat.gcd (val a) (val b)))).toArray⟩) (fun X hX hF => by rfl) ?_
  simp only [Act.put, List.setIfInBounds_toArray, List.set_cons_succ, List.set_cons_zero]
  refine lx_val (by rfl) (.bool false) (fun X hX hF => exec_nesB _ _ _ _ (by rfl) (be ((val a) % (Nat.gcd (val a) (val b)))) ([] : List UInt8) (by rfl) (by rfl) false (nes_f HRA.out) X) ?_
  simp only [Act.put, List.setIfInBounds_toArray, List.set_cons_succ, List.set_cons_zero]
  refine lx_val (by rfl) (.bool false) (fun X hX hF => by rfl) ?_
  simp only [Act.put, List.setIfInBounds_toArray, List.set_cons_succ, List.set_cons_zero]
  refine lx_val (by rfl) (.bool false) (fun X hX hF => by rfl) ?_
  simp only [Act.put, List.setIfInBounds_toArray, List.set_cons_succ, List.set_cons_zero]
  refine lx_val (by rfl) (.string ⟨(be ((val b) % (Nat.gcd (val a) (val b)))).toArray⟩) (fun X hX hF => by rfl) ?_
  simp only [Act.put, List.setIfInBounds_toArray, List.set_cons_succ, List.set_cons_zero]
  refine lx_val (by rfl) (.bool false) (fun X hX hF => exec_nesB _ _ _ _ (by rfl) (be ((val b) % (Nat.gcd (val a) (val b)))) ([] : List UInt8) (by rfl) (by rfl) false (nes_f HRB.out) X) ?_
  simp only [Act.put, List.setIfInBounds_toArray, List.set_cons_succ, List.set_cons_zero]
  refine lx_val (by rfl) (.bool false) (fun X hX hF => by rfl) ?_
  simp only [Act.put, List.setIfInBounds_toArray, List.set_cons_succ, List.set_cons_zero]
  refine lx_nil ?_
  intro X7 hX7 hF
  have hb := bel_next hb hX7
  clear hF hX7
  go_upto_region 12 with (fail)
  refine lx_plain [] (lasts_nil) ?_
  simp only [its, Nat.zero_add, Nat.reduceAdd]
  refine lx_val (by rfl) (.string ⟨c.toArray⟩) (fun X hX hF => by rfl) ?_
  simp only [Act.put, List.setIfInBounds_toArray, List.set_cons_succ, List.set_cons_zero]
  refine lx_call (by rfl) 16 _ _ (by rfl) (.string ⟨(be (val c)).toArray⟩) [.string ⟨c.toArray⟩] (by rfl) (by kernel_rfl) (fun _ => by go_simp) (fun X hX hF => (cleanC c X ).mono fun e X' ⟨h1, h2⟩ => ⟨by rw [h1], since_eq h2⟩) ?_
  simp only [Act.put, List.setIfInBounds_toArray, List.set_cons_succ, List.set_cons_zero]
  refine lx_val (by rfl) (.bool false) (fun X hX hF => exec_eqsB _ _ _ _ (by rfl) (be (val c)) ([] : List UInt8) (by rfl) (by rfl) false (eqs_f HC0.out) X) ?_
  simp only [Act.put, List.setIfInBounds_toArray, List.set_cons_succ, List.set_cons_zero]
  refine lx_nil ?_
  intro X8 hX8 hF
  have hb := bel_next hb hX8
  clear hF hX8
  go_upto_region 14 with (fail)
  refine lx_plain [] (lasts_nil) ?_
  simp only [its, Nat.zero_add, Nat.reduceAdd]
  refine lx_val (by rfl) (.string ⟨a.toArray⟩) (fun X hX hF => by rfl) ?_
  simp only [Act.put, List.setIfInBounds_toArray, List.set_cons_succ, List.set_cons_zero]
  refine lx_val (by rfl) (.string ⟨c.toArray⟩) (fun X hX hF => by rfl) ?_
  simp only [Act.put, List.setIfInBounds_toArray, List.set_cons_succ, List.set_cons_zero]
  refine lx_call (by rfl) 11 _ _ (by rfl) (.tuple #[.string ⟨(be ((val a) / (val c))).toArray⟩, .string ⟨(be ((val a) % (val c))).toArray⟩, .int .i64 0]) [.string ⟨a.toArray⟩, .string ⟨c.toArray⟩] (by rfl) (by kernel_rfl) (fun _ => by go_simp) (fun X hX hF => (ndivC a c X (by first | omega | decide) (by first | omega | decide) HCP.out).mono fun e X' ⟨h1, h2⟩ => ⟨by rw [h1], h2⟩) ?_
  simp only [Act.put, List.setIfInBounds_toArray, List.set_cons_succ, List.set_cons_zero]
  refine lx_val (by rfl) (.tuple #[.string ⟨(be ((val a) / (val c))).toArray⟩, .string ⟨(be ((val a) % (val c))).toArray⟩, .int .i64 0]) (fun X hX hF => by rfl) ?_
  simp only [Act.put, List.setIfInBounds_toArray, List.set_cons_succ, List.set_cons_zero]
  refine lx_val (by rfl) (.string ⟨(be ((val a) / (val c))).toArray⟩) (fun X hX hF => by rfl) ?_
  simp only [Act.put, List.setIfInBounds_toArray, List.set_cons_succ, List.set_cons_zero]
  refine lx_val (by rfl) (.string ⟨(be ((val a) % (val c))).toArray⟩) (fun X hX hF => by rfl) ?_
  simp only [Act.put, List.setIfInBounds_toArray, List.set_cons_succ, List.set_cons_zero]
  refine lx_val (by rfl) (.int .i64 0) (fun X hX hF => by rfl) ?_
  simp only [Act.put, List.setIfInBounds_toArray, List.set_cons_succ, List.set_cons_zero]
  refine lx_val (by rfl) (.string ⟨(be ((val a) % (val c))).toArray⟩) (fun X hX hF => by rfl) ?_
  simp only [Act.put, List.setIfInBounds_toArray, List.set_cons_succ, List.set_cons_zero]
  refine lx_val (by rfl) (.int .i64 0) (fun X hX hF => by rfl) ?_
  simp only [Act.put, List.setIfInBounds_toArray, List.set_cons_succ, List.set_cons_zero]
  refine lx_nil ?_
  intro X9 hX9 hF
  have hb := bel_next hb hX9
  clear hF hX9
  go_upto_region 15 with (fail)
  refine lx_plain [] (lasts_nil) ?_
  simp only [its, Nat.zero_add, Nat.reduceAdd]
  refine lx_val (by rfl) (.string ⟨b.toArray⟩) (fun X hX hF => by rfl) ?_
  simp only [Act.put, List.setIfInBounds_toArray, List.set_cons_succ, List.set_cons_zero]
  refine lx_val (by rfl) (.string ⟨c.toArray⟩) (fun X hX hF => by rfl) ?_
  simp only [Act.put, List.setIfInBounds_toArray, List.set_cons_succ, List.set_cons_zero]
  refine lx_call (by rfl) 11 _ _ (by rfl) (.tuple #[.string ⟨(be ((val b) / (val c))).toArray⟩, .string ⟨(be ((val b) % (val c))).toArray⟩, .int .i64 0]) [.string ⟨b.toArray⟩, .string ⟨c.toArray⟩] (by rfl) (by kernel_rfl) (fun _ => by go_simp) (fun X hX hF => (ndivC b c X (by first | omega | decide) (by first | omega | decide) HCP.out).mono fun e X' ⟨h1, h2⟩ => ⟨by rw [h1], h2⟩) ?_
  simp only [Act.put, List.setIfInBounds_toArray, List.set_cons_succ, List.set_cons_zero]
  refine lx_val (by rfl) (.tuple #[.string ⟨(be ((val b) / (val c))).toArray⟩, .string ⟨(be ((val b) % (val c))).toArray⟩, .int .i64 0]) (fun X hX hF => by rfl) ?_
  simp only [Act.put, List.setIfInBounds_toArray, List.set_cons_succ, List.set_cons_zero]
  refine lx_val (by rfl) (.string ⟨(be ((val b) / (val c))).toArray⟩) (fun X hX hF => by rfl) ?_
  simp only [Act.put, List.setIfInBounds_toArray, List.set_cons_succ, List.set_cons_zero]
  refine lx_val (by rfl) (.string ⟨(be ((val b) % (val c))).toArray⟩) (fun X hX hF => by rfl) ?_
  simp only [Act.put, List.setIfInBounds_toArray, List.set_cons_succ, List.set_cons_zero]
  refine lx_val (by rfl) (.int .i64 0) (fun X hX hF => by rfl) ?_
  simp only [Act.put, List.setIfInBounds_toArray, List.set_cons_succ, List.set_cons_zero]
  refine lx_val (by rfl) (.string ⟨(be ((val b) % (val c))).toArray⟩) (fun X hX hF => by rfl) ?_
  simp only [Act.put, List.setIfInBounds_toArray, List.set_cons_succ, List.set_cons_zero]
  refine lx_val (by rfl) (.int .i64 0) (fun X hX hF => by rfl) ?_
  simp only [Act.put, List.setIfInBounds_toArray, List.set_cons_succ, List.set_cons_zero]
  refine lx_nil ?_
  intro X10 hX10 hF
  have hb := bel_next hb hX10
  clear hF hX10
  go_upto_region 16 with (fail)
  refine lx_plain [] (lasts_nil) ?_
  simp only [its, Nat.zero_add, Nat.reduceAdd]
  refine lx_val (by rfl) (.string ⟨(be (Nat.gcd (val a) (val b))).toArray⟩) (fun X hX hF => by rfl) ?_
  simp only [Act.put, List.setIfInBounds_toArray, List.set_cons_succ, List.set_cons_zero]
  refine lx_val (by rfl) (.string ⟨c.toArray⟩) (fun X hX hF => by rfl) ?_
  simp only [Act.put, List.setIfInBounds_toArray, List.set_cons_succ, List.set_cons_zero]
  refine lx_call (by rfl) 11 _ _ (by rfl) (.tuple #[.string ⟨(be ((Nat.gcd (val a) (val b)) / (val c))).toArray⟩, .string ⟨(be ((Nat.gcd (val a) (val b)) % (val c))).toArray⟩, .int .i64 0]) [.string ⟨(be (Nat.gcd (val a) (val b))).toArray⟩, .string ⟨c.toArray⟩] (by rfl) (by kernel_rfl) (fun _ => by go_simp) (fun X hX hF => (ndivC (be (Nat.gcd (val a) (val b))) c X (by first | omega | decide) (by first | omega | decide) HCP.out).mono fun e X' ⟨h1, h2⟩ => ⟨by rw [h1]; simp only [val_be], h2⟩) ?_
  simp only [Act.put, List.setIfInBounds_toArray, List.set_cons_succ, List.set_cons_zero]
  refine lx_val (by rfl) (.tuple #[.string ⟨(be ((Nat.gcd (val a) (val b)) / (val c))).toArray⟩, .string ⟨(be ((Nat.gcd (val a) (val b)) % (val c))).toArray⟩, .int .i64 0]) (fun X hX hF => by rfl) ?_
  simp only [Act.put, List.setIfInBounds_toArray, List.set_cons_succ, List.set_cons_zero]
  refine lx_val (by rfl) (.string ⟨(be ((Nat.gcd (val a) (val b)) / (val c))).toArray⟩) (fun X hX hF => by rfl) ?_
  simp only [Act.put, List.setIfInBounds_toArray, List.set_cons_succ, List.set_cons_zero]
  refine lx_val (by rfl) (.string ⟨(be ((Nat.gcd (val a) (val b)) % (val c))).toArray⟩) (fun X hX hF => by rfl) ?_
  simp only [Act.put, List.setIfInBounds_toArray, List.set_cons_succ, List.set_cons_zero]
  refine lx_val (by rfl) (.int .i64 0) (fun X hX hF => by rfl) ?_
  simp only [Act.put, List.setIfInBounds_toArray, List.set_cons_succ, List.set_cons_zero]
  refine lx_val (by rfl) (.string ⟨(be ((Nat.gcd (val a) (val b)) / (val c))).toArray⟩) (fun X hX hF => by rfl) ?_
  simp only [Act.put, List.setIfInBounds_toArray, List.set_cons_succ, List.set_cons_zero]
  refine lx_val (by rfl) (.string ⟨(be ((Nat.gcd (val a) (val b)) % (val c))).toArray⟩) (fun X hX hF => by rfl) ?_
  simp only [Act.put, List.setIfInBounds_toArray, List.set_cons_succ, List.set_cons_zero]
  refine lx_val (by rfl) (.int .i64 0) (fun X hX hF => by rfl) ?_
  simp only [Act.put, List.setIfInBounds_toArray, List.set_cons_succ, List.set_cons_zero]
  refine lx_nil ?_
  intro X11 hX11 hF
  have hb := bel_next hb hX11
  clear hF hX11
  go_upto_region 17 with (fail)
  refine lx_plain [] (lasts_nil) ?_
  simp only [its, Nat.zero_add, Nat.reduceAdd]
  refine lx_call (by rfl) 9 _ _ (by rfl) (.bool true) [] (by rfl) (by kernel_rfl) (fun _ => by go_simp) (fun X hX hF => sanityC X) ?_
  simp only [Act.put, List.setIfInBounds_toArray, List.set_cons_succ, List.set_cons_zero]
  refine lx_val (by rfl) (.bool true) (fun X hX hF => by rfl) ?_
  simp only [Act.put, List.setIfInBounds_toArray, List.set_cons_succ, List.set_cons_zero]
  refine lx_val (by rfl) (.int .i64 0) (fun X hX hF => by rfl) ?_
  simp only [Act.put, List.setIfInBounds_toArray, List.set_cons_succ, List.set_cons_zero]
  refine lx_val (by rfl) (.bool true) (fun X hX hF => exec_eqi _ _ _ _ (by rfl) .i64 0 0 (by rfl) (by rfl) true (decide_eq_true (by omega)) X) ?_
  simp only [Act.put, List.setIfInBounds_toArray, List.set_cons_succ, List.set_cons_zero]
  refine lx_val (by rfl) (.bool true) (fun X hX hF => by rfl) ?_
  simp only [Act.put, List.setIfInBounds_toArray, List.set_cons_succ, List.set_cons_zero]
  refine lx_val (by rfl) (.bool true) (fun X hX hF => by rfl) ?_
  simp only [Act.put, List.setIfInBounds_toArray, List.set_cons_succ, List.set_cons_zero]
  refine lx_val (by rfl) (.int .i64 0) (fun X hX hF => by rfl) ?_
  simp only [Act.put, List.setIfInBounds_toArray, List.set_cons_succ, List.set_cons_zero]
  refine lx_val (by rfl) (.bool true) (fun X hX hF => exec_eqi _ _ _ _ (by rfl) .i64 0 0 (by rfl) (by rfl) true (decide_eq_true (by omega)) X) ?_
  simp only [Act.put, List.setIfInBounds_toArray, List.set_cons_succ, List.set_cons_zero]
  refine lx_val (by rfl) (.bool true) (fun X hX hF => by rfl) ?_
  simp only [Act.put, List.setIfInBounds_toArray, List.set_cons_succ, List.set_cons_zero]
  refine lx_val (by rfl) (.bool true) (fun X hX hF => by rfl) ?_
  simp only [Act.put, List.setIfInBounds_toArray, List.set_cons_succ, List.set_cons_zero]
  refine lx_val (by rfl) (.int .i64 0) (fun X hX hF => by rfl) ?_
  simp only [Act.put, List.setIfInBounds_toArray, List.set_cons_succ, List.set_cons_zero]
  refine lx_val (by rfl) (.bool true) (fun X hX hF => exec_eqi _ _ _ _ (by rfl) .i64 0 0 (by rfl) (by rfl) true (decide_eq_true (by omega)) X) ?_
  simp only [Act.put, List.setIfInBounds_toArray, List.set_cons_succ, List.set_cons_zero]
  refine lx_val (by rfl) (.bool true) (fun X hX hF => by rfl) ?_
  simp only [Act.put, List.setIfInBounds_toArray, List.set_cons_succ, List.set_cons_zero]
  refine lx_val (by rfl) (.bool true) (fun X hX hF => by rfl) ?_
  simp only [Act.put, List.setIfInBounds_toArray, List.set_cons_succ, List.set_cons_zero]
  refine lx_val (by rfl) (.string ⟨(be ((val a) % (val c))).toArray⟩) (fun X hX hF => by rfl) ?_
  simp only [Act.put, List.setIfInBounds_toArray, List.set_cons_succ, List.set_cons_zero]
  refine lx_val (by rfl) (.bool true) (fun X hX hF => exec_nesB _ _ _ _ (by rfl) (be ((val a) % (val c))) ([] : List UInt8) (by rfl) (by rfl) true (nes_t HRC.out) X) ?_
  simp only [Act.put, List.setIfInBounds_toArray, List.set_cons_succ, List.set_cons_zero]
  refine lx_val (by rfl) (.bool true) (fun X hX hF => by rfl) ?_
  simp only [Act.put, List.setIfInBounds_toArray, List.set_cons_succ, List.set_cons_zero]
  refine lx_skip (by rfl) ?_
  simp only [Act.put, List.setIfInBounds_toArray, List.set_cons_succ, List.set_cons_zero]
  refine lx_skip (by rfl) ?_
  simp only [Act.put, List.setIfInBounds_toArray, List.set_cons_succ, List.set_cons_zero]
  refine lx_val (by rfl) (.bool true) (fun X hX hF => by rfl) ?_
  simp only [Act.put, List.setIfInBounds_toArray, List.set_cons_succ, List.set_cons_zero]
  refine lx_val (by rfl) (.bool true) (fun X hX hF => by rfl) ?_
  simp only [Act.put, List.setIfInBounds_toArray, List.set_cons_succ, List.set_cons_zero]
  refine lx_skip (by rfl) ?_
  simp only [Act.put, List.setIfInBounds_toArray, List.set_cons_succ, List.set_cons_zero]
  refine lx_skip (by rfl) ?_
  simp only [Act.put, List.setIfInBounds_toArray, List.set_cons_succ, List.set_cons_zero]
  refine lx_val (by rfl) (.bool true) (fun X hX hF => by rfl) ?_
  simp only [Act.put, List.setIfInBounds_toArray, List.set_cons_succ, List.set_cons_zero]
  refine lx_val (by rfl) (.bool true) (fun X hX hF => by rfl) ?_
  simp only [Act.put, List.setIfInBounds_toArray, List.set_cons_succ, List.set_cons_zero]
  refine lx_val (by rfl) (.bool true) (fun X hX hF => by rfl) ?_
  simp only [Act.put, List.setIfInBounds_toArray, List.set_cons_succ, List.set_cons_zero]
  refine lx_nil ?_
  intro X12 hX12 hF
  have hb := bel_next hb hX12
  clear hF hX12
  go_wp2
  go_ret
  exact ⟨rfl, hb⟩

set_option maxRecDepth 100000 in
set_option maxHeartbeats 1600000 in
theorem cB (a b c : List UInt8) (w : World) (ha : a.length ≤ 100) (hb0 : b.length ≤ 100) (hc : c.length ≤ 100) (h0 : 0 < (Nat.gcd (val a) (val b))) (h3 : 0 < val c) (h4 : val a % val c = 0) (h5 : ¬ val b % val c = 0) : Calls Tryd.prog 7 #[.string ⟨a.toArray⟩, .string ⟨b.toArray⟩, .string ⟨c.toArray⟩] w fun e w' => e = .returned (.bool true) ∧ Since w w' := by
  have HGP : Hid (0 < (Nat.gcd (val a) (val b))) := h0
  have HG1 : Hid (be (Nat.gcd (val a) (val b)) ≠ []) := be_ne h0
  have HRA : Hid (be ((val a) % (Nat.gcd (val a) (val b))) = []) := be_nil.2 (Nat.mod_eq_zero_of_dvd (Nat.gcd_dvd_left _ _))
  have HRB : Hid (be ((val b) % (Nat.gcd (val a) (val b))) = []) := be_nil.2 (Nat.mod_eq_zero_of_dvd (Nat.gcd_dvd_right _ _))
  clear h0
  have HC0 : Hid (be (val c) ≠ []) := be_ne h3
  have HCP : Hid (0 < val c) := h3
  have HRC : Hid (be ((val a) % (val c)) = []) := be_nil.2 h4
  have HSC : Hid (be ((val b) % (val c)) ≠ []) := be_ne (Nat.pos_of_ne_zero h5)
  clear h3 h4 h5
  have LB0 : (be ((val a) * (val c))).length ≤ 200 := be_mulL (be_valL ha) (be_valL hc)
  have LB1 : (be ((val b) * (val c))).length ≤ 200 := be_mulL (be_valL hb0) (be_valL hc)
  have LB2 : (be (Nat.gcd (val a) (val b))).length ≤ 200 := be_gcdL (be_valL ha) (be_valL hb0)
  go_enter Tryd.func7, Tryd.ntmps7
  go_upto_region 1 with (fail)
  refine lx_plain [] (lasts_nil) ?_
  simp only [its, Nat.zero_add, Nat.reduceAdd]
  refine lx_val (by rfl) (.string ⟨a.toArray⟩) (fun X hX hF => by rfl) ?_
  simp only [Act.put, List.setIfInBounds_toArray, List.set_cons_succ, List.set_cons_zero]
  refine lx_val (by rfl) (.int .i64 (a.length : Int)) (fun X hX hF => exec_lens Tryd.underlying9 _ (by rfl) a (by rfl) _ rfl X) ?_
  simp only [Act.put, List.setIfInBounds_toArray, List.set_cons_succ, List.set_cons_zero]
  refine lx_val (by rfl) (.bool false) (fun X hX hF => exec_gtr _ _ _ _ (by rfl) .i64 (a.length : Int) 100 (by rfl) (by rfl) false (decide_eq_false (by omega)) X) ?_
  simp only [Act.put, List.setIfInBounds_toArray, List.set_cons_succ, List.set_cons_zero]
  refine lx_val (by rfl) (.bool false) (fun X hX hF => by rfl) ?_
  simp only [Act.put, List.setIfInBounds_toArray, List.set_cons_succ, List.set_cons_zero]
  refine lx_val (by rfl) (.string ⟨b.toArray⟩) (fun X hX hF => by rfl) ?_
  simp only [Act.put, List.setIfInBounds_toArray, List.set_cons_succ, List.set_cons_zero]
  refine lx_val (by rfl) (.int .i64 (b.length : Int)) (fun X hX hF => exec_lens Tryd.underlying9 _ (by rfl) b (by rfl) _ rfl X) ?_
  simp only [Act.put, List.setIfInBounds_toArray, List.set_cons_succ, List.set_cons_zero]
  refine lx_val (by rfl) (.bool false) (fun X hX hF => exec_gtr _ _ _ _ (by rfl) .i64 (b.length : Int) 100 (by rfl) (by rfl) false (decide_eq_false (by omega)) X) ?_
  simp only [Act.put, List.setIfInBounds_toArray, List.set_cons_succ, List.set_cons_zero]
  refine lx_val (by rfl) (.bool false) (fun X hX hF => by rfl) ?_
  simp only [Act.put, List.setIfInBounds_toArray, List.set_cons_succ, List.set_cons_zero]
  refine lx_val (by rfl) (.bool false) (fun X hX hF => by rfl) ?_
  simp only [Act.put, List.setIfInBounds_toArray, List.set_cons_succ, List.set_cons_zero]
  refine lx_val (by rfl) (.string ⟨c.toArray⟩) (fun X hX hF => by rfl) ?_
  simp only [Act.put, List.setIfInBounds_toArray, List.set_cons_succ, List.set_cons_zero]
  refine lx_val (by rfl) (.int .i64 (c.length : Int)) (fun X hX hF => exec_lens Tryd.underlying9 _ (by rfl) c (by rfl) _ rfl X) ?_
  simp only [Act.put, List.setIfInBounds_toArray, List.set_cons_succ, List.set_cons_zero]
  refine lx_val (by rfl) (.bool false) (fun X hX hF => exec_gtr _ _ _ _ (by rfl) .i64 (c.length : Int) 100 (by rfl) (by rfl) false (decide_eq_false (by omega)) X) ?_
  simp only [Act.put, List.setIfInBounds_toArray, List.set_cons_succ, List.set_cons_zero]
  refine lx_val (by rfl) (.bool false) (fun X hX hF => by rfl) ?_
  simp only [Act.put, List.setIfInBounds_toArray, List.set_cons_succ, List.set_cons_zero]
  refine lx_nil ?_
  intro X1 hX1 hF
  have hb : Below w.heap.size w X1 := hX1
  clear hF hX1
  go_upto_region 3 with (fail)
  refine lx_plain [] (lasts_nil) ?_
  simp only [its, Nat.zero_add, Nat.reduceAdd]
  refine lx_val (by rfl) (.string ⟨a.toArray⟩) (fun X hX hF => by rfl) ?_
  simp only [Act.put, List.setIfInBounds_toArray, List.set_cons_succ, List.set_cons_zero]
  refine lx_val (by rfl) (.string ⟨b.toArray⟩) (fun X hX hF => by rfl) ?_
  simp only [Act.put, List.setIfInBounds_toArray, List.set_cons_succ, List.set_cons_zero]
  refine lx_call (by rfl) 24 _ _ (by rfl) (.string ⟨(be (Nat.gcd (val a) (val b))).toArray⟩) [.string ⟨a.toArray⟩, .string ⟨b.toArray⟩] (by rfl) (by kernel_rfl) (fun _ => by go_simp) (fun X hX hF => (ngcdC a b X (by first | omega | decide) (by first | omega | decide)).mono fun e X' ⟨h1, h2⟩ => ⟨by rw [h1], h2⟩) ?_
  simp only [Act.put, List.setIfInBounds_toArray, List.set_cons_succ, List.set_cons_zero]
  refine lx_val (by rfl) (.string ⟨(be (Nat.gcd (val a) (val b))).toArray⟩) (fun X hX hF => by rfl) ?_
  simp only [Act.put, List.setIfInBounds_toArray, List.set_cons_succ, List.set_cons_zero]
  refine lx_nil ?_
  intro X2 hX2 hF
  have hb := bel_next hb hX2
  clear hF hX2
  go_upto_region 4 with (fail)
  refine lx_plain [] (lasts_nil) ?_
  simp only [its, Nat.zero_add, Nat.reduceAdd]
  refine lx_val (by rfl) (.string ⟨(be (Nat.gcd (val a) (val b))).toArray⟩) (fun X hX hF => by rfl) ?_
  simp only [Act.put, List.setIfInBounds_toArray, List.set_cons_succ, List.set_cons_zero]
  refine lx_val (by rfl) (.string ⟨b.toArray⟩) (fun X hX hF => by rfl) ?_
  simp only [Act.put, List.setIfInBounds_toArray, List.set_cons_succ, List.set_cons_zero]
  refine lx_val (by rfl) (.string ⟨a.toArray⟩) (fun X hX hF => by rfl) ?_
  simp only [Act.put, List.setIfInBounds_toArray, List.set_cons_succ, List.set_cons_zero]
  refine lx_call (by rfl) 24 _ _ (by rfl) (.string ⟨(be (Nat.gcd (val b) (val a))).toArray⟩) [.string ⟨b.toArray⟩, .string ⟨a.toArray⟩] (by rfl) (by kernel_rfl) (fun _ => by go_simp) (fun X hX hF => (ngcdC b a X (by first | omega | decide) (by first | omega | decide)).mono fun e X' ⟨h1, h2⟩ => ⟨by rw [h1], h2⟩) ?_
  simp only [Act.put, List.setIfInBounds_toArray, List.set_cons_succ, List.set_cons_zero]
  refine lx_val (by rfl) (.bool false) (fun X hX hF => exec_nesB _ _ _ _ (by rfl) (be (Nat.gcd (val a) (val b))) (be (Nat.gcd (val b) (val a))) (by rfl) (by rfl) false (nes_f (congrArg be (Nat.gcd_comm _ _))) X) ?_
  simp only [Act.put, List.setIfInBounds_toArray, List.set_cons_succ, List.set_cons_zero]
  refine lx_val (by rfl) (.bool false) (fun X hX hF => by rfl) ?_
  simp only [Act.put, List.setIfInBounds_toArray, List.set_cons_succ, List.set_cons_zero]
  refine lx_val (by rfl) (.string ⟨a.toArray⟩) (fun X hX hF => by rfl) ?_
  simp only [Act.put, List.setIfInBounds_toArray, List.set_cons_succ, List.set_cons_zero]
  refine lx_val (by rfl) (.string ⟨c.toArray⟩) (fun X hX hF => by rfl) ?_
  simp only [Act.put, List.setIfInBounds_toArray, List.set_cons_succ, List.set_cons_zero]
  refine lx_call (by rfl) 22 _ _ (by rfl) (.string ⟨(be ((val a) * (val c))).toArray⟩) [.string ⟨a.toArray⟩, .string ⟨c.toArray⟩] (by rfl) (by kernel_rfl) (fun _ => by go_simp) (fun X hX hF => (nmulC a c X (by first | omega | decide) (by first | omega | decide)).mono fun e X' ⟨h1, h2⟩ => ⟨by rw [h1], h2⟩) ?_
  simp only [Act.put, List.setIfInBounds_toArray, List.set_cons_succ, List.set_cons_zero]
  refine lx_val (by rfl) (.string ⟨b.toArray⟩) (fun X hX hF => by rfl) ?_
  simp only [Act.put, List.setIfInBounds_toArray, List.set_cons_succ, List.set_cons_zero]
  refine lx_val (by rfl) (.string ⟨c.toArray⟩) (fun X hX hF => by rfl) ?_
  simp only [Act.put, List.setIfInBounds_toArray, List.set_cons_succ, List.set_cons_zero]
  refine lx_call (by rfl) 22 _ _ (by rfl) (.string ⟨(be ((val b) * (val c))).toArray⟩) [.string ⟨b.toArray⟩, .string ⟨c.toArray⟩] (by rfl) (by kernel_rfl) (fun _ => by go_simp) (fun X hX hF => (nmulC b c X (by first | omega | decide) (by first | omega | decide)).mono fun e X' ⟨h1, h2⟩ => ⟨by rw [h1], h2⟩) ?_
  simp only [Act.put, List.setIfInBounds_toArray, List.set_cons_succ, List.set_cons_zero]
  refine lx_call (by rfl) 24 _ _ (by rfl) (.string ⟨(be (Nat.gcd ((val a) * (val c)) ((val b) * (val c)))).toArray⟩) [.string ⟨(be ((val a) * (val c))).toArray⟩, .string ⟨(be ((val b) * (val c))).toArray⟩] (by rfl) (by kernel_rfl) (fun _ => by go_simp) (fun X hX hF => (ngcdC (be ((val a) * (val c))) (be ((val b) * (val c))) X (by first | omega | decide) (by first | omega | decide)).mono fun e X' ⟨h1, h2⟩ => ⟨by rw [h1]; simp only [val_be], h2⟩) ?_
  simp only [Act.put, List.setIfInBounds_toArray, List.set_cons_succ, List.set_cons_zero]
  refine lx_val (by rfl) (.string ⟨(be (Nat.gcd (val a) (val b))).toArray⟩) (fun X hX hF => by rfl) ?_
  simp only [Act.put, List.setIfInBounds_toArray, List.set_cons_succ, List.set_cons_zero]
  refine lx_val (by rfl) (.string ⟨c.toArray⟩) (fun X hX hF => by rfl) ?_
  simp only [Act.put, List.setIfInBounds_toArray, List.set_cons_succ, List.set_cons_zero]
  refine lx_call (by rfl) 22 _ _ (by rfl) (.string ⟨(be ((Nat.gcd (val a) (val b)) * (val c))).toArray⟩) [.string ⟨(be (Nat.gcd (val a) (val b))).toArray⟩, .string ⟨c.toArray⟩] (by rfl) (by kernel_rfl) (fun _ => by go_simp) (fun X hX hF => (nmulC (be (Nat.gcd (val a) (val b))) c X (by first | omega | decide) (by first | omega | decide)).mono fun e X' ⟨h1, h2⟩ => ⟨by rw [h1]; simp only [val_be], h2⟩) ?_
  simp only [Act.put, List.setIfInBounds_toArray, List.set_cons_succ, List.set_cons_zero]
  refine lx_val (by rfl) (.bool false) (fun X hX hF => exec_nesB _ _ _ _ (by rfl) (be (Nat.gcd ((val a) * (val c)) ((val b) * (val c)))) (be ((Nat.gcd (val a) (val b)) * (val c))) (by rfl) (by rfl) false (nes_f (congrArg be (Nat.gcd_mul_right _ _ _))) X) ?_
  simp only [Act.put, List.setIfInBounds_toArray, List.set_cons_succ, List.set_cons_zero]
  refine lx_val (by rfl) (.bool false) (fun X hX hF => by rfl) ?_
  simp only [Act.put, List.setIfInBounds_toArray, List.set_cons_succ, List.set_cons_zero]
  refine lx_nil ?_
  intro X3 hX3 hF
  have hb := bel_next hb hX3
  clear hF hX3
  go_upto_region 6 with (fail)
  refine lx_plain [] (lasts_nil) ?_
  simp only [its, Nat.zero_add, Nat.reduceAdd]
  refine lx_val (by rfl) (.string ⟨(be (Nat.gcd (val a) (val b))).toArray⟩) (fun X hX hF => by rfl) ?_
  simp only [Act.put, List.setIfInBounds_toArray, List.set_cons_succ, List.set_cons_zero]
  refine lx_val (by rfl) (.bool false) (fun X hX hF => exec_eqsB _ _ _ _ (by rfl) (be (Nat.gcd (val a) (val b))) ([] : List UInt8) (by rfl) (by rfl) false (eqs_f HG1.out) X) ?_
  simp only [Act.put, List.setIfInBounds_toArray, List.set_cons_succ, List.set_cons_zero]
  refine lx_nil ?_
  intro X4 hX4 hF
  have hb := bel_next hb hX4
  clear hF hX4
  go_upto_region 8 with (fail)
  refine lx_plain [] (lasts_nil) ?_
  simp only [its, Nat.zero_add, Nat.reduceAdd]
  refine lx_val (by rfl) (.string ⟨a.toArray⟩) (fun X hX hF => by rfl) ?_
  simp only [Act.put, List.setIfInBounds_toArray, List.set_cons_succ, List.set_cons_zero]
  refine lx_val (by rfl) (.string ⟨(be (Nat.gcd (val a) (val b))).toArray⟩) (fun X hX hF => by rfl) ?_
  simp only [Act.put, List.setIfInBounds_toArray, List.set_cons_succ, List.set_cons_zero]
  refine lx_call (by rfl) 11 _ _ (by rfl) (.tuple #[.string ⟨(be ((val a) / (Nat.gcd (val a) (val b)))).toArray⟩, .string ⟨(be ((val a) % (Nat.gcd (val a) (val b)))).toArray⟩, .int .i64 0]) [.string ⟨a.toArray⟩, .string ⟨(be (Nat.gcd (val a) (val b))).toArray⟩] (by rfl) (by kernel_rfl) (fun _ => by go_simp) (fun X hX hF => (ndivC a (be (Nat.gcd (val a) (val b))) X (by first | omega | decide) (by first | omega | decide) (by rw [val_be]; exact HGP.out)).mono fun e X' ⟨h1, h2⟩ => ⟨by rw [h1]; simp only [val_be], h2⟩) ?_
  simp only [Act.put, List.setIfInBounds_toArray, List.set_cons_succ, List.set_cons_zero]
  refine lx_val (by rfl) (.tuple #[.string ⟨(be ((val a) / (Nat.gcd (val a) (val b)))).toArray⟩, .string ⟨(be ((val a) % (Nat.gcd (val a) (val b)))).toArray⟩, .int .i64 0]) (fun X hX hF => by rfl) ?_
  simp only [Act.put, List.setIfInBounds_toArray, List.set_cons_succ, List.set_cons_zero]
  refine lx_val (by rfl) (.string ⟨(be ((val a) / (Nat.gcd (val a) (val b)))).toArray⟩) (fun X hX hF => by rfl) ?_
  simp only [Act.put, List.setIfInBounds_toArray, List.set_cons_succ, List.set_cons_zero]
  refine lx_val (by rfl) (.string ⟨(be ((val a) % (Nat.gcd (val a) (val b)))).toArray⟩) (fun X hX hF => by rfl) ?_
  simp only [Act.put, List.setIfInBounds_toArray, List.set_cons_succ, List.set_cons_zero]
  refine lx_val (by rfl) (.int .i64 0) (fun X hX hF => by rfl) ?_
  simp only [Act.put, List.setIfInBounds_toArray, List.set_cons_succ, List.set_cons_zero]
  refine lx_val (by rfl) (.string ⟨(be ((val a) / (Nat.gcd (val a) (val b)))).toArray⟩) (fun X hX hF => by rfl) ?_
  simp only [Act.put, List.setIfInBounds_toArray, List.set_cons_succ, List.set_cons_zero]
  refine lx_val (by rfl) (.string ⟨(be ((val a) % (Nat.gcd (val a) (val b)))).toArray⟩) (fun X hX hF => by rfl) ?_
  simp only [Act.put, List.setIfInBounds_toArray, List.set_cons_succ, List.set_cons_zero]
  refine lx_val (by rfl) (.int .i64 0) (fun X hX hF => by rfl) ?_
  simp only [Act.put, List.setIfInBounds_toArray, List.set_cons_succ, List.set_cons_zero]
  refine lx_nil ?_
  intro X5 hX5 hF
  have hb := bel_next hb hX5
  clear hF hX5
  go_upto_region 9 with (fail)
  refine lx_plain [] (lasts_nil) ?_
  simp only [its, Nat.zero_add, Nat.reduceAdd]
  refine lx_val (by rfl) (.string ⟨b.toArray⟩) (fun X hX hF => by rfl) ?_
  simp only [Act.put, List.setIfInBounds_toArray, List.set_cons_succ, List.set_cons_zero]
  refine lx_val (by rfl) (.string ⟨(be (Nat.gcd (val a) (val b))).toArray⟩) (fun X hX hF => by rfl) ?_
  simp only [Act.put, List.setIfInBounds_toArray, List.set_cons_succ, List.set_cons_zero]
  refine lx_call (by rfl) 11 _ _ (by rfl) (.tuple #[.string ⟨(be ((val b) / (Nat.gcd (val a) (val b)))).toArray⟩, .string ⟨(be ((val b) % (Nat.gcd (val a) (val b)))).toArray⟩, .int .i64 0]) [.string ⟨b.toArray⟩, .string ⟨(be (Nat.gcd (val a) (val b))).toArray⟩] (by rfl) (by kernel_rfl) (fun _ => by go_simp) (fun X hX hF => (ndivC b (be (Nat.gcd (val a) (val b))) X (by first | omega | decide) (by first | omega | decide) (by rw [val_be]; exact HGP.out)).mono fun e X' ⟨h1, h2⟩ => ⟨by rw [h1]; simp only [val_be], h2⟩) ?_
  simp only [Act.put, List.setIfInBounds_toArray, List.set_cons_succ, List.set_cons_zero]
  refine lx_val (by rfl) (.tuple #[.string ⟨(be ((val b) / (Nat.gcd (val a) (val b)))).toArray⟩, .string ⟨(be ((val b) % (Nat.gcd (val a) (val b)))).toArray⟩, .int .i64 0]) (fun X hX hF => by rfl) ?_
  simp only [Act.put, List.setIfInBounds_toArray, List.set_cons_succ, List.set_cons_zero]
  refine lx_val (by rfl) (.string ⟨(be ((val b) / (Nat.gcd (val a) (val b)))).toArray⟩) (fun X hX hF => by rfl) ?_
  simp only [Act.put, List.setIfInBounds_toArray, List.set_cons_succ, List.set_cons_zero]
  refine lx_val (by rfl) (.string ⟨(be ((val b) % (Nat.gcd (val a) (val b)))).toArray⟩) (fun X hX hF => by rfl) ?_
  simp only [Act.put, List.setIfInBounds_toArray, List.set_cons_succ, List.set_cons_zero]
  refine lx_val (by rfl) (.int .i64 0) (fun X hX hF => by rfl) ?_
  simp only [Act.put, List.setIfInBounds_toArray, List.set_cons_succ, List.set_cons_zero]
  refine lx_val (by rfl) (.string ⟨(be ((val b) / (Nat.gcd (val a) (val b)))).toArray⟩) (fun X hX hF => by rfl) ?_
  simp only [Act.put, List.setIfInBounds_toArray, List.set_cons_succ, List.set_cons_zero]
  refine lx_val (by rfl) (.string ⟨(be ((val b) % (Nat.gcd (val a) (val b)))).toArray⟩) (fun X hX hF => by rfl) ?_
  simp only [Act.put, List.setIfInBounds_toArray, List.set_cons_succ, List.set_cons_zero]
  refine lx_val (by rfl) (.int .i64 0) (fun X hX hF => by rfl) ?_
  simp only [Act.put, List.setIfInBounds_toArray, List.set_cons_succ, List.set_cons_zero]
  refine lx_nil ?_
  intro X6 hX6 hF
  have hb := bel_next hb hX6
  clear hF hX6
  go_upto_region 10 with (fail)
  refine lx_plain [] (lasts_nil) ?_
  simp only [its, Nat.zero_add, Nat.reduceAdd]
  refine lx_val (by rfl) (.int .i64 0) (fun X hX hF => by rfl) ?_
  simp only [Act.put, List.setIfInBounds_toArray, List.set_cons_succ, List.set_cons_zero]
  refine lx_val (by rfl) (.bool false) (fun X hX hF => exec_nei _ _ _ _ (by rfl) .i64 0 0 (by rfl) (by rfl) false (by rw [decide_eq_true (by omega)]; rfl) X) ?_
  simp only [Act.put, List.setIfInBounds_toArray, List.set_cons_succ, List.set_cons_zero]
  refine lx_val (by rfl) (.bool false) (fun X hX hF => by rfl) ?_
  simp only [Act.put, List.setIfInBounds_toArray, List.set_cons_succ, List.set_cons_zero]
  refine lx_val (by rfl) (.int .i64 0) (fun X hX hF => by rfl) ?_
  simp only [Act.put, List.setIfInBounds_toArray, List.set_cons_succ, List.set_cons_zero]
  refine lx_val (by rfl) (.bool false) (fun X hX hF => exec_nei _ _ _ _ (by rfl) .i64 0 0 (by rfl) (by rfl) false (by rw [decide_eq_true (by omega)]; rfl) X) ?_
  simp only [Act.put, List.setIfInBounds_toArray, List.set_cons_succ, List.set_cons_zero]
  refine lx_val (by rfl) (.bool false) (fun X hX hF => by rfl) ?_
  simp only [Act.put, List.setIfInBounds_toArray, List.set_cons_succ, List.set_cons_zero]
  refine lx_val (by rfl) (.bool false) (fun X hX hF => by rfl) ?_
  simp only [Act.put, List.setIfInBounds_toArray, List.set_cons_succ, List.set_cons_zero]
  refine lx_val (by rfl) (.string ⟨(be ((val a) % (Nat.gcd (val a) (val b)))).toArray⟩) (fun X hX hF => by rfl) ?_
  simp only [Act.put, List.setIfInBounds_toArray, List.set_cons_succ, List.set_cons_zero]
  refine lx_val (by rfl) (.bool false) (fun X hX hF => exec_nesB _ _ _ _ (by rfl) (be ((val a) % (Nat.gcd (val a) (val b)))) ([] : List UInt8) (by rfl) (by rfl) false (nes_f HRA.out) X) ?_
  simp only [Act.put, List.setIfInBounds_toArray, List.set_cons_succ, List.set_cons_zero]
  refine lx_val (by rfl) (.bool false) (fun X hX hF => by rfl) ?_
  simp only [Act.put, List.setIfInBounds_toArray, List.set_cons_succ, List.set_cons_zero]
  refine lx_val (by rfl) (.bool false) (fun X hX hF => by rfl) ?_
  simp only [Act.put, List.setIfInBounds_toArray, List.set_cons_succ, List.set_cons_zero]
  refine lx_val (by rfl) (.string ⟨(be ((val b) % (Nat.gcd (val a) (val b)))).toArray⟩) (fun X hX hF => by rfl) ?_
  simp only [Act.put, List.setIfInBounds_toArray, List.set_cons_succ, List.set_cons_zero]
  refine lx_val (by rfl) (.bool false) (fun X hX hF => exec_nesB _ _ _ _ (by rfl) (be ((val b) % (Nat.gcd (val a) (val b)))) ([] : List UInt8) (by rfl) (by rfl) false (nes_f HRB.out) X) ?_
  simp only [Act.put, List.setIfInBounds_toArray, List.set_cons_succ, List.set_cons_zero]
  refine lx_val (by rfl) (.bool false) (fun X hX hF => by rfl) ?_
  simp only [Act.put, List.setIfInBounds_toArray, List.set_cons_succ, List.set_cons_zero]
  refine lx_nil ?_
  intro X7 hX7 hF
  have hb := bel_next hb hX7
  clear hF hX7
  go_upto_region 12 with (fail)
  refine lx_plain [] (lasts_nil) ?_
  simp only [its, Nat.zero_add, Nat.reduceAdd]
  refine lx_val (by rfl) (.string ⟨c.toArray⟩) (fun X hX hF => by rfl) ?_
  simp only [Act.put, List.setIfInBounds_toArray, List.set_cons_succ, List.set_cons_zero]
  refine lx_call (by rfl) 16 _ _ (by rfl) (.string ⟨(be (val c)).toArray⟩) [.string ⟨c.toArray⟩] (by rfl) (by kernel_rfl) (fun _ => by go_simp) (fun X hX hF => (cleanC c X ).mono fun e X' ⟨h1, h2⟩ => ⟨by rw [h1], since_eq h2⟩) ?_
  simp only [Act.put, List.setIfInBounds_toArray, List.set_cons_succ, List.set_cons_zero]
  refine lx_val (by rfl) (.bool false) (fun X hX hF => exec_eqsB _ _ _ _ (by rfl) (be (val c)) ([] : List UInt8) (by rfl) (by rfl) false (eqs_f HC0.out) X) ?_
  simp only [Act.put, List.setIfInBounds_toArray, List.set_cons_succ, List.set_cons_zero]
  refine lx_nil ?_
  intro X8 hX8 hF
  have hb := bel_next hb hX8
  clear hF hX8
  go_upto_region 14 with (fail)
  refine lx_plain [] (lasts_nil) ?_
  simp only [its, Nat.zero_add, Nat.reduceAdd]
  refine lx_val (by rfl) (.string ⟨a.toArray⟩) (fun X hX hF => by rfl) ?_
  simp only [Act.put, List.setIfInBounds_toArray, List.set_cons_succ, List.set_cons_zero]
  refine lx_val (by rfl) (.string ⟨c.toArray⟩) (fun X hX hF => by rfl) ?_
  simp only [Act.put, List.setIfInBounds_toArray, List.set_cons_succ, List.set_cons_zero]
  refine lx_call (by rfl) 11 _ _ (by rfl) (.tuple #[.string ⟨(be ((val a) / (val c))).toArray⟩, .string ⟨(be ((val a) % (val c))).toArray⟩, .int .i64 0]) [.string ⟨a.toArray⟩, .string ⟨c.toArray⟩] (by rfl) (by kernel_rfl) (fun _ => by go_simp) (fun X hX hF => (ndivC a c X (by first | omega | decide) (by first | omega | decide) HCP.out).mono fun e X' ⟨h1, h2⟩ => ⟨by rw [h1], h2⟩) ?_
  simp only [Act.put, List.setIfInBounds_toArray, List.set_cons_succ, List.set_cons_zero]
  refine lx_val (by rfl) (.tuple #[.string ⟨(be ((val a) / (val c))).toArray⟩, .string ⟨(be ((val a) % (val c))).toArray⟩, .int .i64 0]) (fun X hX hF => by rfl) ?_
  simp only [Act.put, List.setIfInBounds_toArray, List.set_cons_succ, List.set_cons_zero]
  refine lx_val (by rfl) (.string ⟨(be ((val a) / (val c))).toArray⟩) (fun X hX hF => by rfl) ?_
  simp only [Act.put, List.setIfInBounds_toArray, List.set_cons_succ, List.set_cons_zero]
  refine lx_val (by rfl) (.string ⟨(be ((val a) % (val c))).toArray⟩) (fun X hX hF => by rfl) ?_
  simp only [Act.put, List.setIfInBounds_toArray, List.set_cons_succ, List.set_cons_zero]
  refine lx_val (by rfl) (.int .i64 0) (fun X hX hF => by rfl) ?_
  simp only [Act.put, List.setIfInBounds_toArray, List.set_cons_succ, List.set_cons_zero]
  refine lx_val (by rfl) (.string ⟨(be ((val a) % (val c))).toArray⟩) (fun X hX hF => by rfl) ?_
  simp only [Act.put, List.setIfInBounds_toArray, List.set_cons_succ, List.set_cons_zero]
  refine lx_val (by rfl) (.int .i64 0) (fun X hX hF => by rfl) ?_
  simp only [Act.put, List.setIfInBounds_toArray, List.set_cons_succ, List.set_cons_zero]
  refine lx_nil ?_
  intro X9 hX9 hF
  have hb := bel_next hb hX9
  clear hF hX9
  go_upto_region 15 with (fail)
  refine lx_plain [] (lasts_nil) ?_
  simp only [its, Nat.zero_add, Nat.reduceAdd]
  refine lx_val (by rfl) (.string ⟨b.toArray⟩) (fun X hX hF => by rfl) ?_
  simp only [Act.put, List.setIfInBounds_toArray, List.set_cons_succ, List.set_cons_zero]
  refine lx_val (by rfl) (.string ⟨c.toArray⟩) (fun X hX hF => by rfl) ?_
  simp only [Act.put, List.setIfInBounds_toArray, List.set_cons_succ, List.set_cons_zero]
  refine lx_call (by rfl) 11 _ _ (by rfl) (.tuple #[.string ⟨(be ((val b) / (val c))).toArray⟩, .string ⟨(be ((val b) % (val c))).toArray⟩, .int .i64 0]) [.string ⟨b.toArray⟩, .string ⟨c.toArray⟩] (by rfl) (by kernel_rfl) (fun _ => by go_simp) (fun X hX hF => (ndivC b c X (by first | omega | decide) (by first | omega | decide) HCP.out).mono fun e X' ⟨h1, h2⟩ => ⟨by rw [h1], h2⟩) ?_
  simp only [Act.put, List.setIfInBounds_toArray, List.set_cons_succ, List.set_cons_zero]
  refine lx_val (by rfl) (.tuple #[.string ⟨(be ((val b) / (val c))).toArray⟩, .string ⟨(be ((val b) % (val c))).toArray⟩, .int .i64 0]) (fun X hX hF => by rfl) ?_
  simp only [Act.put, List.setIfInBounds_toArray, List.set_cons_succ, List.set_cons_zero]
  refine lx_val (by rfl) (.string ⟨(be ((val b) / (val c))).toArray⟩) (fun X hX hF => by rfl) ?_
  simp only [Act.put, List.setIfInBounds_toArray, List.set_cons_succ, List.set_cons_zero]
  refine lx_val (by rfl) (.string ⟨(be ((val b) % (val c))).toArray⟩) (fun X hX hF => by rfl) ?_
  simp only [Act.put, List.setIfInBounds_toArray, List.set_cons_succ, List.set_cons_zero]
  refine lx_val (by rfl) (.int .i64 0) (fun X hX hF => by rfl) ?_
  simp only [Act.put, List.setIfInBounds_toArray, List.set_cons_succ, List.set_cons_zero]
  refine lx_val (by rfl) (.string ⟨(be ((val b) % (val c))).toArray⟩) (fun X hX hF => by rfl) ?_
  simp only [Act.put, List.setIfInBounds_toArray, List.set_cons_succ, List.set_cons_zero]
  refine lx_val (by rfl) (.int .i64 0) (fun X hX hF => by rfl) ?_
  simp only [Act.put, List.setIfInBounds_toArray, List.set_cons_succ, List.set_cons_zero]
  refine lx_nil ?_
  intro X10 hX10 hF
  have hb := bel_next hb hX10
  clear hF hX10
  go_upto_region 16 with (fail)
  refine lx_plain [] (lasts_nil) ?_
  simp only [its, Nat.zero_add, Nat.reduceAdd]
  refine lx_val (by rfl) (.string ⟨(be (Nat.gcd (val a) (val b))).toArray⟩) (fun X hX hF => by rfl) ?_
  simp only [Act.put, List.setIfInBounds_toArray, List.set_cons_succ, List.set_cons_zero]
  refine lx_val (by rfl) (.string ⟨c.toArray⟩) (fun X hX hF => by rfl) ?_
  simp only [Act.put, List.setIfInBounds_toArray, List.set_cons_succ, List.set_cons_zero]
  refine lx_call (by rfl) 11 _ _ (by rfl) (.tuple #[.string ⟨(be ((Nat.gcd (val a) (val b)) / (val c))).toArray⟩, .string ⟨(be ((Nat.gcd (val a) (val b)) % (val c))).toArray⟩, .int .i64 0]) [.string ⟨(be (Nat.gcd (val a) (val b))).toArray⟩, .string ⟨c.toArray⟩] (by rfl) (by kernel_rfl) (fun _ => by go_simp) (fun X hX hF => (ndivC (be (Nat.gcd (val a) (val b))) c X (by first | omega | decide) (by first | omega | decide) HCP.out).mono fun e X' ⟨h1, h2⟩ => ⟨by rw [h1]; simp only [val_be], h2⟩) ?_
  simp only [Act.put, List.setIfInBounds_toArray, List.set_cons_succ, List.set_cons_zero]
  refine lx_val (by rfl) (.tuple #[.string ⟨(be ((Nat.gcd (val a) (val b)) / (val c))).toArray⟩, .string ⟨(be ((Nat.gcd (val a) (val b)) % (val c))).toArray⟩, .int .i64 0]) (fun X hX hF => by rfl) ?_
  simp only [Act.put, List.setIfInBounds_toArray, List.set_cons_succ, List.set_cons_zero]
  refine lx_val (by rfl) (.string ⟨(be ((Nat.gcd (val a) (val b)) / (val c))).toArray⟩) (fun X hX hF => by rfl) ?_
  simp only [Act.put, List.setIfInBounds_toArray, List.set_cons_succ, List.set_cons_zero]
  refine lx_val (by rfl) (.string ⟨(be ((Nat.gcd (val a) (val b)) % (val c))).toArray⟩) (fun X hX hF => by rfl) ?_
  simp only [Act.put, List.setIfInBounds_toArray, List.set_cons_succ, List.set_cons_zero]
  refine lx_val (by rfl) (.int .i64 0) (fun X hX hF => by rfl) ?_
  simp only [Act.put, List.setIfInBounds_toArray, List.set_cons_succ, List.set_cons_zero]
  refine lx_val (by rfl) (.string ⟨(be ((Nat.gcd (val a) (val b)) / (val c))).toArray⟩) (fun X hX hF => by rfl) ?_
  simp only [Act.put, List.setIfInBounds_toArray, List.set_cons_succ, List.set_cons_zero]
  refine lx_val (by rfl) (.string ⟨(be ((Nat.gcd (val a) (val b)) % (val c))).toArray⟩) (fun X hX hF => by rfl) ?_
  simp only [Act.put, List.setIfInBounds_toArray, List.set_cons_succ, List.set_cons_zero]
  refine lx_val (by rfl) (.int .i64 0) (fun X hX hF => by rfl) ?_
  simp only [Act.put, List.setIfInBounds_toArray, List.set_cons_succ, List.set_cons_zero]
  refine lx_nil ?_
  intro X11 hX11 hF
  have hb := bel_next hb hX11
  clear hF hX11
  go_upto_region 17 with (fail)
  refine lx_plain [] (lasts_nil) ?_
  simp only [its, Nat.zero_add, Nat.reduceAdd]
  refine lx_call (by rfl) 9 _ _ (by rfl) (.bool true) [] (by rfl) (by kernel_rfl) (fun _ => by go_simp) (fun X hX hF => sanityC X) ?_
  simp only [Act.put, List.setIfInBounds_toArray, List.set_cons_succ, List.set_cons_zero]
  refine lx_val (by rfl) (.bool true) (fun X hX hF => by rfl) ?_
  simp only [Act.put, List.setIfInBounds_toArray, List.set_cons_succ, List.set_cons_zero]
  refine lx_val (by rfl) (.int .i64 0) (fun X hX hF => by rfl) ?_
  simp only [Act.put, List.setIfInBounds_toArray, List.set_cons_succ, List.set_cons_zero]
  refine lx_val (by rfl) (.bool true) (fun X hX hF => exec_eqi _ _ _ _ (by rfl) .i64 0 0 (by rfl) (by rfl) true (decide_eq_true (by omega)) X) ?_
  simp only [Act.put, List.setIfInBounds_toArray, List.set_cons_succ, List.set_cons_zero]
  refine lx_val (by rfl) (.bool true) (fun X hX hF => by rfl) ?_
  simp only [Act.put, List.setIfInBounds_toArray, List.set_cons_succ, List.set_cons_zero]
  refine lx_val (by rfl) (.bool true) (fun X hX hF => by rfl) ?_
  simp only [Act.put, List.setIfInBounds_toArray, List.set_cons_succ, List.set_cons_zero]
  refine lx_val (by rfl) (.int .i64 0) (fun X hX hF => by rfl) ?_
  simp only [Act.put, List.setIfInBounds_toArray, List.set_cons_succ, List.set_cons_zero]
  refine lx_val (by rfl) (.bool true) (fun X hX hF => exec_eqi _ _ _ _ (by rfl) .i64 0 0 (by rfl) (by rfl) true (decide_eq_true (by omega)) X) ?_
  simp only [Act.put, List.setIfInBounds_toArray, List.set_cons_succ, List.set_cons_zero]
  refine lx_val (by rfl) (.bool true) (fun X hX hF => by rfl) ?_
  simp only [Act.put, List.setIfInBounds_toArray, List.set_cons_succ, List.set_cons_zero]
  refine lx_val (by rfl) (.bool true) (fun X hX hF => by rfl) ?_
  simp only [Act.put, List.setIfInBounds_toArray, List.set_cons_succ, List.set_cons_zero]
  refine lx_val (by rfl) (.int .i64 0) (fun X hX hF => by rfl) ?_
  simp only [Act.put, List.setIfInBounds_toArray, List.set_cons_succ, List.set_cons_zero]
  refine lx_val (by rfl) (.bool true) (fun X hX hF => exec_eqi _ _ _ _ (by rfl) .i64 0 0 (by rfl) (by rfl) true (decide_eq_true (by omega)) X) ?_
  simp only [Act.put, List.setIfInBounds_toArray, List.set_cons_succ, List.set_cons_zero]
  refine lx_val (by rfl) (.bool true) (fun X hX hF => by rfl) ?_
  simp only [Act.put, List.setIfInBounds_toArray, List.set_cons_succ, List.set_cons_zero]
  refine lx_val (by rfl) (.bool true) (fun X hX hF => by rfl) ?_
  simp only [Act.put, List.setIfInBounds_toArray, List.set_cons_succ, List.set_cons_zero]
  refine lx_val (by rfl) (.string ⟨(be ((val a) % (val c))).toArray⟩) (fun X hX hF => by rfl) ?_
  simp only [Act.put, List.setIfInBounds_toArray, List.set_cons_succ, List.set_cons_zero]
  refine lx_val (by rfl) (.bool false) (fun X hX hF => exec_nesB _ _ _ _ (by rfl) (be ((val a) % (val c))) ([] : List UInt8) (by rfl) (by rfl) false (nes_f HRC.out) X) ?_
  simp only [Act.put, List.setIfInBounds_toArray, List.set_cons_succ, List.set_cons_zero]
  refine lx_val (by rfl) (.bool false) (fun X hX hF => by rfl) ?_
  simp only [Act.put, List.setIfInBounds_toArray, List.set_cons_succ, List.set_cons_zero]
  refine lx_val (by rfl) (.string ⟨(be ((val b) % (val c))).toArray⟩) (fun X hX hF => by rfl) ?_
  simp only [Act.put, List.setIfInBounds_toArray, List.set_cons_succ, List.set_cons_zero]
  refine lx_val (by rfl) (.bool true) (fun X hX hF => exec_nesB _ _ _ _ (by rfl) (be ((val b) % (val c))) ([] : List UInt8) (by rfl) (by rfl) true (nes_t HSC.out) X) ?_
  simp only [Act.put, List.setIfInBounds_toArray, List.set_cons_succ, List.set_cons_zero]
  refine lx_val (by rfl) (.bool true) (fun X hX hF => by rfl) ?_
  simp only [Act.put, List.setIfInBounds_toArray, List.set_cons_succ, List.set_cons_zero]
  refine lx_val (by rfl) (.bool true) (fun X hX hF => by rfl) ?_
  simp only [Act.put, List.setIfInBounds_toArray, List.set_cons_succ, List.set_cons_zero]
  refine lx_skip (by rfl) ?_
  simp only [Act.put, List.setIfInBounds_toArray, List.set_cons_succ, List.set_cons_zero]
  refine lx_skip (by rfl) ?_
  simp only [Act.put, List.setIfInBounds_toArray, List.set_cons_succ, List.set_cons_zero]
  refine lx_val (by rfl) (.bool true) (fun X hX hF => by rfl) ?_
  simp only [Act.put, List.setIfInBounds_toArray, List.set_cons_succ, List.set_cons_zero]
  refine lx_val (by rfl) (.bool true) (fun X hX hF => by rfl) ?_
  simp only [Act.put, List.setIfInBounds_toArray, List.set_cons_succ, List.set_cons_zero]
  refine lx_val (by rfl) (.bool true) (fun X hX hF => by rfl) ?_
  simp only [Act.put, List.setIfInBounds_toArray, List.set_cons_succ, List.set_cons_zero]
  refine lx_nil ?_
  intro X12 hX12 hF
  have hb := bel_next hb hX12
  clear hF hX12
  go_wp2
  go_ret
  exact ⟨rfl, hb⟩

set_option maxRecDepth 100000 in
set_option maxHeartbeats 1600000 in
theorem cC (a b c : List UInt8) (w : World) (ha : a.length ≤ 100) (hb0 : b.length ≤ 100) (hc : c.length ≤ 100) (h0 : 0 < (Nat.gcd (val a) (val b))) (h3 : 0 < val c) (h4 : val a % val c = 0) (h5 : val b % val c = 0) : Calls Tryd.prog 7 #[.string ⟨a.toArray⟩, .string ⟨b.toArray⟩, .string ⟨c.toArray⟩] w fun e w' => e = .returned (.bool true) ∧ Since w w' := by
  have HGP : Hid (0 < (Nat.gcd (val a) (val b))) := h0
  have HG1 : Hid (be (Nat.gcd (val a) (val b)) ≠ []) := be_ne h0
  have HRA : Hid (be ((val a) % (Nat.gcd (val a) (val b))) = []) := be_nil.2 (Nat.mod_eq_zero_of_dvd (Nat.gcd_dvd_left _ _))
  have HRB : Hid (be ((val b) % (Nat.gcd (val a) (val b))) = []) := be_nil.2 (Nat.mod_eq_zero_of_dvd (Nat.gcd_dvd_right _ _))
  clear h0
  have HC0 : Hid (be (val c) ≠ []) := be_ne h3
  have HCP : Hid (0 < val c) := h3
  have HRC : Hid (be ((val a) % (val c)) = []) := be_nil.2 h4
  have HSC : Hid (be ((val b) % (val c)) = []) := be_nil.2 h5
  have HTC : Hid (be ((Nat.gcd (val a) (val b)) % (val c)) = []) := be_nil.2 (Nat.mod_eq_zero_of_dvd (Nat.dvd_gcd (Nat.dvd_of_mod_eq_zero h4) (Nat.dvd_of_mod_eq_zero h5)))
  clear h3 h4 h5
  have LB0 : (be ((val a) * (val c))).length ≤ 200 := be_mulL (be_valL ha) (be_valL hc)
  have LB1 : (be ((val b) * (val c))).length ≤ 200 := be_mulL (be_valL hb0) (be_valL hc)
  have LB2 : (be (Nat.gcd (val a) (val b))).length ≤ 200 := be_gcdL (be_valL ha) (be_valL hb0)
  go_enter Tryd.func7, Tryd.ntmps7
  go_upto_region 1 with (fail)
  refine lx_plain [] (lasts_nil) ?_
  simp only [its, Nat.zero_add, Nat.reduceAdd]
  refine lx_val (by rfl) (.string ⟨a.toArray⟩) (fun X hX hF => by rfl) ?_
  simp only [Act.put, List.setIfInBounds_toArray, List.set_cons_succ, List.set_cons_zero]
  refine lx_val (by rfl) (.int .i64 (a.length : Int)) (fun X hX hF => exec_lens Tryd.underlying9 _ (by rfl) a (by rfl) _ rfl X) ?_
  simp only [Act.put, List.setIfInBounds_toArray, List.set_cons_succ, List.set_cons_zero]
  refine lx_val (by rfl) (.bool false) (fun X hX hF => exec_gtr _ _ _ _ (by rfl) .i64 (a.length : Int) 100 (by rfl) (by rfl) false (decide_eq_false (by omega)) X) ?_
  simp only [Act.put, List.setIfInBounds_toArray, List.set_cons_succ, List.set_cons_zero]
  refine lx_val (by rfl) (.bool false) (fun X hX hF => by rfl) ?_
  simp only [Act.put, List.setIfInBounds_toArray, List.set_cons_succ, List.set_cons_zero]
  refine lx_val (by rfl) (.string ⟨b.toArray⟩) (fun X hX hF => by rfl) ?_
  simp only [Act.put, List.setIfInBounds_toArray, List.set_cons_succ, List.set_cons_zero]
  refine lx_val (by rfl) (.int .i64 (b.length : Int)) (fun X hX hF => exec_lens Tryd.underlying9 _ (by rfl) b (by rfl) _ rfl X) ?_
  simp only [Act.put, List.setIfInBounds_toArray, List.set_cons_succ, List.set_cons_zero]
  refine lx_val (by rfl) (.bool false) (fun X hX hF => exec_gtr _ _ _ _ (by rfl) .i64 (b.length : Int) 100 (by rfl) (by rfl) false (decide_eq_false (by omega)) X) ?_
  simp only [Act.put, List.setIfInBounds_toArray, List.set_cons_succ, List.set_cons_zero]
  refine lx_val (by rfl) (.bool false) (fun X hX hF => by rfl) ?_
  simp only [Act.put, List.setIfInBounds_toArray, List.set_cons_succ, List.set_cons_zero]
  refine lx_val (by rfl) (.bool false) (fun X hX hF => by rfl) ?_
  simp only [Act.put, List.setIfInBounds_toArray, List.set_cons_succ, List.set_cons_zero]
  refine lx_val (by rfl) (.string ⟨c.toArray⟩) (fun X hX hF => by rfl) ?_
  simp only [Act.put, List.setIfInBounds_toArray, List.set_cons_succ, List.set_cons_zero]
  refine lx_val (by rfl) (.int .i64 (c.length : Int)) (fun X hX hF => exec_lens Tryd.underlying9 _ (by rfl) c (by rfl) _ rfl X) ?_
  simp only [Act.put, List.setIfInBounds_toArray, List.set_cons_succ, List.set_cons_zero]
  refine lx_val (by rfl) (.bool false) (fun X hX hF => exec_gtr _ _ _ _ (by rfl) .i64 (c.length : Int) 100 (by rfl) (by rfl) false (decide_eq_false (by omega)) X) ?_
  simp only [Act.put, List.setIfInBounds_toArray, List.set_cons_succ, List.set_cons_zero]
  refine lx_val (by rfl) (.bool false) (fun X hX hF => by rfl) ?_
  simp only [Act.put, List.setIfInBounds_toArray, List.set_cons_succ, List.set_cons_zero]
  refine lx_nil ?_
  intro X1 hX1 hF
  have hb : Below w.heap.size w X1 := hX1
  clear hF hX1
  go_upto_region 3 with (fail)
  refine lx_plain [] (lasts_nil) ?_
  simp only [its, Nat.zero_add, Nat.reduceAdd]
  refine lx_val (by rfl) (.string ⟨a.toArray⟩) (fun X hX hF => by rfl) ?_
  simp only [Act.put, List.setIfInBounds_toArray, List.set_cons_succ, List.set_cons_zero]
  refine lx_val (by rfl) (.string ⟨b.toArray⟩) (fun X hX hF => by rfl) ?_
  simp only [Act.put, List.setIfInBounds_toArray, List.set_cons_succ, List.set_cons_zero]
  refine lx_call (by rfl) 24 _ _ (by rfl) (.string ⟨(be (Nat.gcd (val a) (val b))).toArray⟩) [.string ⟨a.toArray⟩, .string ⟨b.toArray⟩] (by rfl) (by kernel_rfl) (fun _ => by go_simp) (fun X hX hF => (ngcdC a b X (by first | omega | decide) (by first | omega | decide)).mono fun e X' ⟨h1, h2⟩ => ⟨by rw [h1], h2⟩) ?_
  simp only [Act.put, List.setIfInBounds_toArray, List.set_cons_succ, List.set_cons_zero]
  refine lx_val (by rfl) (.string ⟨(be (Nat.gcd (val a) (val b))).toArray⟩) (fun X hX hF => by rfl) ?_
  simp only [Act.put, List.setIfInBounds_toArray, List.set_cons_succ, List.set_cons_zero]
  refine lx_nil ?_
  intro X2 hX2 hF
  have hb := bel_next hb hX2
  clear hF hX2
  go_upto_region 4 with (fail)
  refine lx_plain [] (lasts_nil) ?_
  simp only [its, Nat.zero_add, Nat.reduceAdd]
  refine lx_val (by rfl) (.string ⟨(be (Nat.gcd (val a) (val b))).toArray⟩) (fun X hX hF => by rfl) ?_
  simp only [Act.put, List.setIfInBounds_toArray, List.set_cons_succ, List.set_cons_zero]
  refine lx_val (by rfl) (.string ⟨b.toArray⟩) (fun X hX hF => by rfl) ?_
  simp only [Act.put, List.setIfInBounds_toArray, List.set_cons_succ, List.set_cons_zero]
  refine lx_val (by rfl) (.string ⟨a.toArray⟩) (fun X hX hF => by rfl) ?_
  simp only [Act.put, List.setIfInBounds_toArray, List.set_cons_succ, List.set_cons_zero]
  refine lx_call (by rfl) 24 _ _ (by rfl) (.string ⟨(be (Nat.gcd (val b) (val a))).toArray⟩) [.string ⟨b.toArray⟩, .string ⟨a.toArray⟩] (by rfl) (by kernel_rfl) (fun _ => by go_simp) (fun X hX hF => (ngcdC b a X (by first | omega | decide) (by first | omega | decide)).mono fun e X' ⟨h1, h2⟩ => ⟨by rw [h1], h2⟩) ?_
  simp only [Act.put, List.setIfInBounds_toArray, List.set_cons_succ, List.set_cons_zero]
  refine lx_val (by rfl) (.bool false) (fun X hX hF => exec_nesB _ _ _ _ (by rfl) (be (Nat.gcd (val a) (val b))) (be (Nat.gcd (val b) (val a))) (by rfl) (by rfl) false (nes_f (congrArg be (Nat.gcd_comm _ _))) X) ?_
  simp only [Act.put, List.setIfInBounds_toArray, List.set_cons_succ, List.set_cons_zero]
  refine lx_val (by rfl) (.bool false) (fun X hX hF => by rfl) ?_
  simp only [Act.put, List.setIfInBounds_toArray, List.set_cons_succ, List.set_cons_zero]
  refine lx_val (by rfl) (.string ⟨a.toArray⟩) (fun X hX hF => by rfl) ?_
  simp only [Act.put, List.setIfInBounds_toArray, List.set_cons_succ, List.set_cons_zero]
  refine lx_val (by rfl) (.string ⟨c.toArray⟩) (fun X hX hF => by rfl) ?_
  simp only [Act.put, List.setIfInBounds_toArray, List.set_cons_succ, List.set_cons_zero]
  refine lx_call (by rfl) 22 _ _ (by rfl) (.string ⟨(be ((val a) * (val c))).toArray⟩) [.string ⟨a.toArray⟩, .string ⟨c.toArray⟩] (by rfl) (by kernel_rfl) (fun _ => by go_simp) (fun X hX hF => (nmulC a c X (by first | omega | decide) (by first | omega | decide)).mono fun e X' ⟨h1, h2⟩ => ⟨by rw [h1], h2⟩) ?_
  simp only [Act.put, List.setIfInBounds_toArray, List.set_cons_succ, List.set_cons_zero]
  refine lx_val (by rfl) (.string ⟨b.toArray⟩) (fun X hX hF => by rfl) ?_
  simp only [Act.put, List.setIfInBounds_toArray, List.set_cons_succ, List.set_cons_zero]
  refine lx_val (by rfl) (.string ⟨c.toArray⟩) (fun X hX hF => by rfl) ?_
  simp only [Act.put, List.setIfInBounds_toArray, List.set_cons_succ, List.set_cons_zero]
  refine lx_call (by rfl) 22 _ _ (by rfl) (.string ⟨(be ((val b) * (val c))).toArray⟩) [.string ⟨b.toArray⟩, .string ⟨c.toArray⟩] (by rfl) (by kernel_rfl) (fun _ => by go_simp) (fun X hX hF => (nmulC b c X (by first | omega | decide) (by first | omega | decide)).mono fun e X' ⟨h1, h2⟩ => ⟨by rw [h1], h2⟩) ?_
  simp only [Act.put, List.setIfInBounds_toArray, List.set_cons_succ, List.set_cons_zero]
  refine lx_call (by rfl) 24 _ _ (by rfl) (.string ⟨(be (Nat.gcd ((val a) * (val c)) ((val b) * (val c)))).toArray⟩) [.string ⟨(be ((val a) * (val c))).toArray⟩, .string ⟨(be ((val b) * (val c))).toArray⟩] (by rfl) (by kernel_rfl) (fun _ => by go_simp) (fun X hX hF => (ngcdC (be ((val a) * (val c))) (be ((val b) * (val c))) X (by first | omega | decide) (by first | omega | decide)).mono fun e X' ⟨h1, h2⟩ => ⟨by rw [h1]; simp only [val_be], h2⟩) ?_
  simp only [Act.put, List.setIfInBounds_toArray, List.set_cons_succ, List.set_cons_zero]
  refine lx_val (by rfl) (.string ⟨(be (Nat.gcd (val a) (val b))).toArray⟩) (fun X hX hF => by rfl) ?_
  simp only [Act.put, List.setIfInBounds_toArray, List.set_cons_succ, List.set_cons_zero]
  refine lx_val (by rfl) (.string ⟨c.toArray⟩) (fun X hX hF => by rfl) ?_
  simp only [Act.put, List.setIfInBounds_toArray, List.set_cons_succ, List.set_cons_zero]
  refine lx_call (by rfl) 22 _ _ (by rfl) (.string ⟨(be ((Nat.gcd (val a) (val b)) * (val c))).toArray⟩) [.string ⟨(be (Nat.gcd (val a) (val b))).toArray⟩, .string ⟨c.toArray⟩] (by rfl) (by kernel_rfl) (fun _ => by go_simp) (fun X hX hF => (nmulC (be (Nat.gcd (val a) (val b))) c X (by first | omega | decide) (by first | omega | decide)).mono fun e X' ⟨h1, h2⟩ => ⟨by rw [h1]; simp only [val_be], h2⟩) ?_
  simp only [Act.put, List.setIfInBounds_toArray, List.set_cons_succ, List.set_cons_zero]
  refine lx_val (by rfl) (.bool false) (fun X hX hF => exec_nesB _ _ _ _ (by rfl) (be (Nat.gcd ((val a) * (val c)) ((val b) * (val c)))) (be ((Nat.gcd (val a) (val b)) * (val c))) (by rfl) (by rfl) false (nes_f (congrArg be (Nat.gcd_mul_right _ _ _))) X) ?_
  simp only [Act.put, List.setIfInBounds_toArray, List.set_cons_succ, List.set_cons_zero]
  refine lx_val (by rfl) (.bool false) (fun X hX hF => by rfl) ?_
  simp only [Act.put, List.setIfInBounds_toArray, List.set_cons_succ, List.set_cons_zero]
  refine lx_nil ?_
  intro X3 hX3 hF
  have hb := bel_next hb hX3
  clear hF hX3
  go_upto_region 6 with (fail)
  refine lx_plain [] (lasts_nil) ?_
  simp only [its, Nat.zero_add, Nat.reduceAdd]
  refine lx_val (by rfl) (.string ⟨(be (Nat.gcd (val a) (val b))).toArray⟩) (fun X hX hF => by rfl) ?_
  simp only [Act.put, List.setIfInBounds_toArray, List.set_cons_succ, List.set_cons_zero]
  refine lx_val (by rfl) (.bool false) (fun X hX hF => exec_eqsB _ _ _ _ (by rfl) (be (Nat.gcd (val a) (val b))) ([] : List UInt8) (by rfl) (by rfl) false (eqs_f HG1.out) X) ?_
  simp only [Act.put, List.setIfInBounds_toArray, List.set_cons_succ, List.set_cons_zero]
  refine lx_nil ?_
  intro X4 hX4 hF
  have hb := bel_next hb hX4
  clear hF hX4
  go_upto_region 8 with (fail)
  refine lx_plain [] (lasts_nil) ?_
  simp only [its, Nat.zero_add, Nat.reduceAdd]
  refine lx_val (by rfl) (.string ⟨a.toArray⟩) (fun X hX hF => by rfl) ?_
  simp only [Act.put, List.setIfInBounds_toArray, List.set_cons_succ, List.set_cons_zero]
  refine lx_val (by rfl) (.string ⟨(be (Nat.gcd (val a) (val b))).toArray⟩) (fun X hX hF => by rfl) ?_
  simp only [Act.put, List.setIfInBounds_toArray, List.set_cons_succ, List.set_cons_zero]
  refine lx_call (by rfl) 11 _ _ (by rfl) (.tuple #[.string ⟨(be ((val a) / (Nat.gcd (val a) (val b)))).toArray⟩, .string ⟨(be ((val a) % (Nat.gcd (val a) (val b)))).toArray⟩, .int .i64 0]) [.string ⟨a.toArray⟩, .string ⟨(be (Nat.gcd (val a) (val b))).toArray⟩] (by rfl) (by kernel_rfl) (fun _ => by go_simp) (fun X hX hF => (ndivC a (be (Nat.gcd (val a) (val b))) X (by first | omega | decide) (by first | omega | decide) (by rw [val_be]; exact HGP.out)).mono fun e X' ⟨h1, h2⟩ => ⟨by rw [h1]; simp only [val_be], h2⟩) ?_
  simp only [Act.put, List.setIfInBounds_toArray, List.set_cons_succ, List.set_cons_zero]
  refine lx_val (by rfl) (.tuple #[.string ⟨(be ((val a) / (Nat.gcd (val a) (val b)))).toArray⟩, .string ⟨(be ((val a) % (Nat.gcd (val a) (val b)))).toArray⟩, .int .i64 0]) (fun X hX hF => by rfl) ?_
  simp only [Act.put, List.setIfInBounds_toArray, List.set_cons_succ, List.set_cons_zero]
  refine lx_val (by rfl) (.string ⟨(be ((val a) / (Nat.gcd (val a) (val b)))).toArray⟩) (fun X hX hF => by rfl) ?_
  simp only [Act.put, List.setIfInBounds_toArray, List.set_cons_succ, List.set_cons_zero]
  refine lx_val (by rfl) (.string ⟨(be ((val a) % (Nat.gcd (val a) (val b)))).toArray⟩) (fun X hX hF => by rfl) ?_
  simp only [Act.put, List.setIfInBounds_toArray, List.set_cons_succ, List.set_cons_zero]
  refine lx_val (by rfl) (.int .i64 0) (fun X hX hF => by rfl) ?_
  simp only [Act.put, List.setIfInBounds_toArray, List.set_cons_succ, List.set_cons_zero]
  refine lx_val (by rfl) (.string ⟨(be ((val a) / (Nat.gcd (val a) (val b)))).toArray⟩) (fun X hX hF => by rfl) ?_
  simp only [Act.put, List.setIfInBounds_toArray, List.set_cons_succ, List.set_cons_zero]
  refine lx_val (by rfl) (.string ⟨(be ((val a) % (Nat.gcd (val a) (val b)))).toArray⟩) (fun X hX hF => by rfl) ?_
  simp only [Act.put, List.setIfInBounds_toArray, List.set_cons_succ, List.set_cons_zero]
  refine lx_val (by rfl) (.int .i64 0) (fun X hX hF => by rfl) ?_
  simp only [Act.put, List.setIfInBounds_toArray, List.set_cons_succ, List.set_cons_zero]
  refine lx_nil ?_
  intro X5 hX5 hF
  have hb := bel_next hb hX5
  clear hF hX5
  go_upto_region 9 with (fail)
  refine lx_plain [] (lasts_nil) ?_
  simp only [its, Nat.zero_add, Nat.reduceAdd]
  refine lx_val (by rfl) (.string ⟨b.toArray⟩) (fun X hX hF => by rfl) ?_
  simp only [Act.put, List.setIfInBounds_toArray, List.set_cons_succ, List.set_cons_zero]
  refine lx_val (by rfl) (.string ⟨(be (Nat.gcd (val a) (val b))).toArray⟩) (fun X hX hF => by rfl) ?_
  simp only [Act.put, List.setIfInBounds_toArray, List.set_cons_succ, List.set_cons_zero]
  refine lx_call (by rfl) 11 _ _ (by rfl) (.tuple #[.string ⟨(be ((val b) / (Nat.gcd (val a) (val b)))).toArray⟩, .string ⟨(be ((val b) % (Nat.gcd (val a) (val b)))).toArray⟩, .int .i64 0]) [.string ⟨b.toArray⟩, .string ⟨(be (Nat.gcd (val a) (val b))).toArray⟩] (by rfl) (by kernel_rfl) (fun _ => by go_simp) (fun X hX hF => (ndivC b (be (Nat.gcd (val a) (val b))) X (by first | omega | decide) (by first | omega | decide) (by rw [val_be]; exact HGP.out)).mono fun e X' ⟨h1, h2⟩ => ⟨by rw [h1]; simp only [val_be], h2⟩) ?_
  simp only [Act.put, List.setIfInBounds_toArray, List.set_cons_succ, List.set_cons_zero]
  refine lx_val (by rfl) (.tuple #[.string ⟨(be ((val b) / (Nat.gcd (val a) (val b)))).toArray⟩, .string ⟨(be ((val b) % (Nat.gcd (val a) (val b)))).toArray⟩, .int .i64 0]) (fun X hX hF => by rfl) ?_
  simp only [Act.put, List.setIfInBounds_toArray, List.set_cons_succ, List.set_cons_zero]
  refine lx_val (by rfl) (.string ⟨(be ((val b) / (Nat.gcd (val a) (val b)))).toArray⟩) (fun X hX hF => by rfl) ?_
  simp only [Act.put, List.setIfInBounds_toArray, List.set_cons_succ, List.set_cons_zero]
  refine lx_val (by rfl) (.string ⟨(be ((val b) % (Nat.gcd (val a) (val b)))).toArray⟩) (fun X hX hF => by rfl) ?_
  simp only [Act.put, List.setIfInBounds_toArray, List.set_cons_succ, List.set_cons_zero]
  refine lx_val (by rfl) (.int .i64 0) (fun X hX hF => by rfl) ?_
  simp only [Act.put, List.setIfInBounds_toArray, List.set_cons_succ, List.set_cons_zero]
  refine lx_val (by rfl) (.string ⟨(be ((val b) / (Nat.gcd (val a) (val b)))).toArray⟩) (fun X hX hF => by rfl) ?_
  simp only [Act.put, List.setIfInBounds_toArray, List.set_cons_succ, List.set_cons_zero]
  refine lx_val (by rfl) (.string ⟨(be ((val b) % (Nat.gcd (val a) (val b)))).toArray⟩) (fun X hX hF => by rfl) ?_
  simp only [Act.put, List.setIfInBounds_toArray, List.set_cons_succ, List.set_cons_zero]
  refine lx_val (by rfl) (.int .i64 0) (fun X hX hF => by rfl) ?_
  simp only [Act.put, List.setIfInBounds_toArray, List.set_cons_succ, List.set_cons_zero]
  refine lx_nil ?_
  intro X6 hX6 hF
  have hb := bel_next hb hX6
  clear hF hX6
  go_upto_region 10 with (fail)
  refine lx_plain [] (lasts_nil) ?_
  simp only [its, Nat.zero_add, Nat.reduceAdd]
  refine lx_val (by rfl) (.int .i64 0) (fun X hX hF => by rfl) ?_
  simp only [Act.put, List.setIfInBounds_toArray, List.set_cons_succ, List.set_cons_zero]
  refine lx_val (by rfl) (.bool false) (fun X hX hF => exec_nei _ _ _ _ (by rfl) .i64 0 0 (by rfl) (by rfl) false (by rw [decide_eq_true (by omega)]; rfl) X) ?_
  simp only [Act.put, List.setIfInBounds_toArray, List.set_cons_succ, List.set_cons_zero]
  refine lx_val (by rfl) (.bool false) (fun X hX hF => by rfl) ?_
  simp only [Act.put, List.setIfInBounds_toArray, List.set_cons_succ, List.set_cons_zero]
  refine lx_val (by rfl) (.int .i64 0) (fun X hX hF => by rfl) ?_
  simp only [Act.put, List.setIfInBounds_toArray, List.set_cons_succ, List.set_cons_zero]
  refine lx_val (by rfl) (.bool false) (fun X hX hF => exec_nei _ _ _ _ (by rfl) .i64 0 0 (by rfl) (by rfl) false (by rw [decide_eq_true (by omega)]; rfl) X) ?_
  simp only [Act.put, List.setIfInBounds_toArray, List.set_cons_succ, List.set_cons_zero]
  refine lx_val (by rfl) (.bool false) (fun X hX hF => by rfl) ?_
  simp only [Act.put, List.setIfInBounds_toArray, List.set_cons_succ, List.set_cons_zero]
  refine lx_val (by rfl) (.bool false) (fun X hX hF => by rfl) ?_
  simp only [Act.put, List.setIfInBounds_toArray, List.set_cons_succ, List.set_cons_zero]
  refine lx_val (by rfl) (.string ⟨(be ((val a) % (Nat.gcd (val a) (val b)))).toArray⟩) (fun X hX hF => by rfl) ?_
  simp only [Act.put, List.setIfInBounds_toArray, List.set_cons_succ, List.set_cons_zero]
  refine lx_val (by rfl) (.bool false) (fun X hX hF => exec_nesB _ _ _ _ (by rfl) (be ((val a) % (Nat.gcd (val a) (val b)))) ([] : List UInt8) (by rfl) (by rfl) false (nes_f HRA.out) X) ?_
  simp only [Act.put, List.setIfInBounds_toArray, List.set_cons_succ, List.set_cons_zero]
  refine lx_val (by rfl) (.bool false) (fun X hX hF => by rfl) ?_
  simp only [Act.put, List.setIfInBounds_toArray, List.set_cons_succ, List.set_cons_zero]
  refine lx_val (by rfl) (.bool false) (fun X hX hF => by rfl) ?_
  simp only [Act.put, List.setIfInBounds_toArray, List.set_cons_succ, List.set_cons_zero]
  refine lx_val (by rfl) (.string ⟨(be ((val b) % (Nat.gcd (val a) (val b)))).toArray⟩) (fun X hX hF => by rfl) ?_
  simp only [Act.put, List.setIfInBounds_toArray, List.set_cons_succ, List.set_cons_zero]
  refine lx_val (by rfl) (.bool false) (fun X hX hF => exec_nesB _ _ _ _ (by rfl) (be ((val b) % (Nat.gcd (val a) (val b)))) ([] : List UInt8) (by rfl) (by rfl) false (nes_f HRB.out) X) ?_
  simp only [Act.put, List.setIfInBounds_toArray, List.set_cons_succ, List.set_cons_zero]
  refine lx_val (by rfl) (.bool false) (fun X hX hF => by rfl) ?_
  simp only [Act.put, List.setIfInBounds_toArray, List.set_cons_succ, List.set_cons_zero]
  refine lx_nil ?_
  intro X7 hX7 hF
  have hb := bel_next hb hX7
  clear hF hX7
  go_upto_region 12 with (fail)
  refine lx_plain [] (lasts_nil) ?_
  simp only [its, Nat.zero_add, Nat.reduceAdd]
  refine lx_val (by rfl) (.string ⟨c.toArray⟩) (fun X hX hF => by rfl) ?_
  simp only [Act.put, List.setIfInBounds_toArray, List.set_cons_succ, List.set_cons_zero]
  refine lx_call (by rfl) 16 _ _ (by rfl) (.string ⟨(be (val c)).toArray⟩) [.string ⟨c.toArray⟩] (by rfl) (by kernel_rfl) (fun _ => by go_simp) (fun X hX hF => (cleanC c X ).mono fun e X' ⟨h1, h2⟩ => ⟨by rw [h1], since_eq h2⟩) ?_
  simp only [Act.put, List.setIfInBounds_toArray, List.set_cons_succ, List.set_cons_zero]
  refine lx_val (by rfl) (.bool false) (fun X hX hF => exec_eqsB _ _ _ _ (by rfl) (be (val c)) ([] : List UInt8) (by rfl) (by rfl) false (eqs_f HC0.out) X) ?_
  simp only [Act.put, List.setIfInBounds_toArray, List.set_cons_succ, List.set_cons_zero]
  refine lx_nil ?_
  intro X8 hX8 hF
  have hb := bel_next hb hX8
  clear hF hX8
  go_upto_region 14 with (fail)
  refine lx_plain [] (lasts_nil) ?_
  simp only [its, Nat.zero_add, Nat.reduceAdd]
  refine lx_val (by rfl) (.string ⟨a.toArray⟩) (fun X hX hF => by rfl) ?_
  simp only [Act.put, List.setIfInBounds_toArray, List.set_cons_succ, List.set_cons_zero]
  refine lx_val (by rfl) (.string ⟨c.toArray⟩) (fun X hX hF => by rfl) ?_
  simp only [Act.put, List.setIfInBounds_toArray, List.set_cons_succ, List.set_cons_zero]
  refine lx_call (by rfl) 11 _ _ (by rfl) (.tuple #[.string ⟨(be ((val a) / (val c))).toArray⟩, .string ⟨(be ((val a) % (val c))).toArray⟩, .int .i64 0]) [.string ⟨a.toArray⟩, .string ⟨c.toArray⟩] (by rfl) (by kernel_rfl) (fun _ => by go_simp) (fun X hX hF => (ndivC a c X (by first | omega | decide) (by first | omega | decide) HCP.out).mono fun e X' ⟨h1, h2⟩ => ⟨by rw [h1], h2⟩) ?_
  simp only [Act.put, List.setIfInBounds_toArray, List.set_cons_succ, List.set_cons_zero]
  refine lx_val (by rfl) (.tuple #[.string ⟨(be ((val a) / (val c))).toArray⟩, .string ⟨(be ((val a) % (val c))).toArray⟩, .int .i64 0]) (fun X hX hF => by rfl) ?_
  simp only [Act.put, List.setIfInBounds_toArray, List.set_cons_succ, List.set_cons_zero]
  refine lx_val (by rfl) (.string ⟨(be ((val a) / (val c))).toArray⟩) (fun X hX hF => by rfl) ?_
  simp only [Act.put, List.setIfInBounds_toArray, List.set_cons_succ, List.set_cons_zero]
  refine lx_val (by rfl) (.string ⟨(be ((val a) % (val c))).toArray⟩) (fun X hX hF => by rfl) ?_
  simp only [Act.put, List.setIfInBounds_toArray, List.set_cons_succ, List.set_cons_zero]
  refine lx_val (by rfl) (.int .i64 0) (fun X hX hF => by rfl) ?_
  simp only [Act.put, List.setIfInBounds_toArray, List.set_cons_succ, List.set_cons_zero]
  refine lx_val (by rfl) (.string ⟨(be ((val a) % (val c))).toArray⟩) (fun X hX hF => by rfl) ?_
  simp only [Act.put, List.setIfInBounds_toArray, List.set_cons_succ, List.set_cons_zero]
  refine lx_val (by rfl) (.int .i64 0) (fun X hX hF => by rfl) ?_
  simp only [Act.put, List.setIfInBounds_toArray, List.set_cons_succ, List.set_cons_zero]
  refine lx_nil ?_
  intro X9 hX9 hF
  have hb := bel_next hb hX9
  clear hF hX9
  go_upto_region 15 with (fail)
  refine lx_plain [] (lasts_nil) ?_
  simp only [its, Nat.zero_add, Nat.reduceAdd]
  refine lx_val (by rfl) (.string ⟨b.toArray⟩) (fun X hX hF => by rfl) ?_
  simp only [Act.put, List.setIfInBounds_toArray, List.set_cons_succ, List.set_cons_zero]
  refine lx_val (by rfl) (.string ⟨c.toArray⟩) (fun X hX hF => by rfl) ?_
  simp only [Act.put, List.setIfInBounds_toArray, List.set_cons_succ, List.set_cons_zero]
  refine lx_call (by rfl) 11 _ _ (by rfl) (.tuple #[.string ⟨(be ((val b) / (val c))).toArray⟩, .string ⟨(be ((val b) % (val c))).toArray⟩, .int .i64 0]) [.string ⟨b.toArray⟩, .string ⟨c.toArray⟩] (by rfl) (by kernel_rfl) (fun _ => by go_simp) (fun X hX hF => (ndivC b c X (by first | omega | decide) (by first | omega | decide) HCP.out).mono fun e X' ⟨h1, h2⟩ => ⟨by rw [h1], h2⟩) ?_
  simp only [Act.put, List.setIfInBounds_toArray, List.set_cons_succ, List.set_cons_zero]
  refine lx_val (by rfl) (.tuple #[.string ⟨(be ((val b) / (val c))).toArray⟩, .string ⟨(be ((val b) % (val c))).toArray⟩, .int .i64 0]) (fun X hX hF => by rfl) ?_
  simp only [Act.put, List.setIfInBounds_toArray, List.set_cons_succ, List.set_cons_zero]
  refine lx_val (by rfl) (.string ⟨(be ((val b) / (val c))).toArray⟩) (fun X hX hF => by rfl) ?_
  simp only [Act.put, List.setIfInBounds_toArray, List.set_cons_succ, List.set_cons_zero]
  refine lx_val (by rfl) (.string ⟨(be ((val b) % (val c))).toArray⟩) (fun X hX hF => by rfl) ?_
  simp only [Act.put, List.setIfInBounds_toArray, List.set_cons_succ, List.set_cons_zero]
  refine lx_val (by rfl) (.int .i64 0) (fun X hX hF => by rfl) ?_
  simp only [Act.put, List.setIfInBounds_toArray, List.set_cons_succ, List.set_cons_zero]
  refine lx_val (by rfl) (.string ⟨(be ((val b) % (val c))).toArray⟩) (fun X hX hF => by rfl) ?_
  simp only [Act.put, List.setIfInBounds_toArray, List.set_cons_succ, List.set_cons_zero]
  refine lx_val (by rfl) (.int .i64 0) (fun X hX hF => by rfl) ?_
  simp only [Act.put, List.setIfInBounds_toArray, List.set_cons_succ, List.set_cons_zero]
  refine lx_nil ?_
  intro X10 hX10 hF
  have hb := bel_next hb hX10
  clear hF hX10
  go_upto_region 16 with (fail)
  refine lx_plain [] (lasts_nil) ?_
  simp only [its, Nat.zero_add, Nat.reduceAdd]
  refine lx_val (by rfl) (.string ⟨(be (Nat.gcd (val a) (val b))).toArray⟩) (fun X hX hF => by rfl) ?_
  simp only [Act.put, List.setIfInBounds_toArray, List.set_cons_succ, List.set_cons_zero]
  refine lx_val (by rfl) (.string ⟨c.toArray⟩) (fun X hX hF => by rfl) ?_
  simp only [Act.put, List.setIfInBounds_toArray, List.set_cons_succ, List.set_cons_zero]
  refine lx_call (by rfl) 11 _ _ (by rfl) (.tuple #[.string ⟨(be ((Nat.gcd (val a) (val b)) / (val c))).toArray⟩, .string ⟨(be ((Nat.gcd (val a) (val b)) % (val c))).toArray⟩, .int .i64 0]) [.string ⟨(be (Nat.gcd (val a) (val b))).toArray⟩, .string ⟨c.toArray⟩] (by rfl) (by kernel_rfl) (fun _ => by go_simp) (fun X hX hF => (ndivC (be (Nat.gcd (val a) (val b))) c X (by first | omega | decide) (by first | omega | decide) HCP.out).mono fun e X' ⟨h1, h2⟩ => ⟨by rw [h1]; simp only [val_be], h2⟩) ?_
  simp only [Act.put, List.setIfInBounds_toArray, List.set_cons_succ, List.set_cons_zero]
  refine lx_val (by rfl) (.tuple #[.string ⟨(be ((Nat.gcd (val a) (val b)) / (val c))).toArray⟩, .string ⟨(be ((Nat.gcd (val a) (val b)) % (val c))).toArray⟩, .int .i64 0]) (fun X hX hF => by rfl) ?_
  simp only [Act.put, List.setIfInBounds_toArray, List.set_cons_succ, List.set_cons_zero]
  refine lx_val (by rfl) (.string ⟨(be ((Nat.gcd (val a) (val b)) / (val c))).toArray⟩) (fun X hX hF => by rfl) ?_
  simp only [Act.put, List.setIfInBounds_toArray, List.set_cons_succ, List.set_cons_zero]
  refine lx_val (by rfl) (.string ⟨(be ((Nat.gcd (val a) (val b)) % (val c))).toArray⟩) (fun X hX hF => by rfl) ?_
  simp only [Act.put, List.setIfInBounds_toArray, List.set_cons_succ, List.set_cons_zero]
  refine lx_val (by rfl) (.int .i64 0) (fun X hX hF => by rfl) ?_
  simp only [Act.put, List.setIfInBounds_toArray, List.set_cons_succ, List.set_cons_zero]
  refine lx_val (by rfl) (.string ⟨(be ((Nat.gcd (val a) (val b)) / (val c))).toArray⟩) (fun X hX hF => by rfl) ?_
  simp only [Act.put, List.setIfInBounds_toArray, List.set_cons_succ, List.set_cons_zero]
  refine lx_val (by rfl) (.string ⟨(be ((Nat.gcd (val a) (val b)) % (val c))).toArray⟩) (fun X hX hF => by rfl) ?_
  simp only [Act.put, List.setIfInBounds_toArray, List.set_cons_succ, List.set_cons_zero]
  refine lx_val (by rfl) (.int .i64 0) (fun X hX hF => by rfl) ?_
  simp only [Act.put, List.setIfInBounds_toArray, List.set_cons_succ, List.set_cons_zero]
  refine lx_nil ?_
  intro X11 hX11 hF
  have hb := bel_next hb hX11
  clear hF hX11
  go_upto_region 17 with (fail)
  refine lx_plain [] (lasts_nil) ?_
  simp only [its, Nat.zero_add, Nat.reduceAdd]
  refine lx_call (by rfl) 9 _ _ (by rfl) (.bool true) [] (by rfl) (by kernel_rfl) (fun _ => by go_simp) (fun X hX hF => sanityC X) ?_
  simp only [Act.put, List.setIfInBounds_toArray, List.set_cons_succ, List.set_cons_zero]
  refine lx_val (by rfl) (.bool true) (fun X hX hF => by rfl) ?_
  simp only [Act.put, List.setIfInBounds_toArray, List.set_cons_succ, List.set_cons_zero]
  refine lx_val (by rfl) (.int .i64 0) (fun X hX hF => by rfl) ?_
  simp only [Act.put, List.setIfInBounds_toArray, List.set_cons_succ, List.set_cons_zero]
  refine lx_val (by rfl) (.bool true) (fun X hX hF => exec_eqi _ _ _ _ (by rfl) .i64 0 0 (by rfl) (by rfl) true (decide_eq_true (by omega)) X) ?_
  simp only [Act.put, List.setIfInBounds_toArray, List.set_cons_succ, List.set_cons_zero]
  refine lx_val (by rfl) (.bool true) (fun X hX hF => by rfl) ?_
  simp only [Act.put, List.setIfInBounds_toArray, List.set_cons_succ, List.set_cons_zero]
  refine lx_val (by rfl) (.bool true) (fun X hX hF => by rfl) ?_
  simp only [Act.put, List.setIfInBounds_toArray, List.set_cons_succ, List.set_cons_zero]
  refine lx_val (by rfl) (.int .i64 0) (fun X hX hF => by rfl) ?_
  simp only [Act.put, List.setIfInBounds_toArray, List.set_cons_succ, List.set_cons_zero]
  refine lx_val (by rfl) (.bool true) (fun X hX hF => exec_eqi _ _ _ _ (by rfl) .i64 0 0 (by rfl) (by rfl) true (decide_eq_true (by omega)) X) ?_
  simp only [Act.put, List.setIfInBounds_toArray, List.set_cons_succ, List.set_cons_zero]
  refine lx_val (by rfl) (.bool true) (fun X hX hF => by rfl) ?_
  simp only [Act.put, List.setIfInBounds_toArray, List.set_cons_succ, List.set_cons_zero]
  refine lx_val (by rfl) (.bool true) (fun X hX hF => by rfl) ?_
  simp only [Act.put, List.setIfInBounds_toArray, List.set_cons_succ, List.set_cons_zero]
  refine lx_val (by rfl) (.int .i64 0) (fun X hX hF => by rfl) ?_
  simp only [Act.put, List.setIfInBounds_toArray, List.set_cons_succ, List.set_cons_zero]
  refine lx_val (by rfl) (.bool true) (fun X hX hF => exec_eqi _ _ _ _ (by rfl) .i64 0 0 (by rfl) (by rfl) true (decide_eq_true (by omega)) X) ?_
  simp only [Act.put, List.setIfInBounds_toArray, List.set_cons_succ, List.set_cons_zero]
  refine lx_val (by rfl) (.bool true) (fun X hX hF => by rfl) ?_
  simp only [Act.put, List.setIfInBounds_toArray, List.set_cons_succ, List.set_cons_zero]
  refine lx_val (by rfl) (.bool true) (fun X hX hF => by rfl) ?_
  simp only [Act.put, List.setIfInBounds_toArray, List.set_cons_succ, List.set_cons_zero]
  refine lx_val (by rfl) (.string ⟨(be ((val a) % (val c))).toArray⟩) (fun X hX hF => by rfl) ?_
  simp only [Act.put, List.setIfInBounds_toArray, List.set_cons_succ, List.set_cons_zero]
  refine lx_val (by rfl) (.bool false) (fun X hX hF => exec_nesB _ _ _ _ (by rfl) (be ((val a) % (val c))) ([] : List UInt8) (by rfl) (by rfl) false (nes_f HRC.out) X) ?_
  simp only [Act.put, List.setIfInBounds_toArray, List.set_cons_succ, List.set_cons_zero]
  refine lx_val (by rfl) (.bool false) (fun X hX hF => by rfl) ?_
  simp only [Act.put, List.setIfInBounds_toArray, List.set_cons_succ, List.set_cons_zero]
  refine lx_val (by rfl) (.string ⟨(be ((val b) % (val c))).toArray⟩) (fun X hX hF => by rfl) ?_
  simp only [Act.put, List.setIfInBounds_toArray, List.set_cons_succ, List.set_cons_zero]
  refine lx_val (by rfl) (.bool false) (fun X hX hF => exec_nesB _ _ _ _ (by rfl) (be ((val b) % (val c))) ([] : List UInt8) (by rfl) (by rfl) false (nes_f HSC.out) X) ?_
  simp only [Act.put, List.setIfInBounds_toArray, List.set_cons_succ, List.set_cons_zero]
  refine lx_val (by rfl) (.bool false) (fun X hX hF => by rfl) ?_
  simp only [Act.put, List.setIfInBounds_toArray, List.set_cons_succ, List.set_cons_zero]
  refine lx_val (by rfl) (.bool false) (fun X hX hF => by rfl) ?_
  simp only [Act.put, List.setIfInBounds_toArray, List.set_cons_succ, List.set_cons_zero]
  refine lx_val (by rfl) (.string ⟨(be ((Nat.gcd (val a) (val b)) % (val c))).toArray⟩) (fun X hX hF => by rfl) ?_
  simp only [Act.put, List.setIfInBounds_toArray, List.set_cons_succ, List.set_cons_zero]
  refine lx_val (by rfl) (.bool true) (fun X hX hF => exec_eqsB _ _ _ _ (by rfl) (be ((Nat.gcd (val a) (val b)) % (val c))) ([] : List UInt8) (by rfl) (by rfl) true (eqs_t HTC.out) X) ?_
  simp only [Act.put, List.setIfInBounds_toArray, List.set_cons_succ, List.set_cons_zero]
  refine lx_val (by rfl) (.bool true) (fun X hX hF => by rfl) ?_
  simp only [Act.put, List.setIfInBounds_toArray, List.set_cons_succ, List.set_cons_zero]
  refine lx_val (by rfl) (.bool true) (fun X hX hF => by rfl) ?_
  simp only [Act.put, List.setIfInBounds_toArray, List.set_cons_succ, List.set_cons_zero]
  refine lx_val (by rfl) (.bool true) (fun X hX hF => by rfl) ?_
  simp only [Act.put, List.setIfInBounds_toArray, List.set_cons_succ, List.set_cons_zero]
  refine lx_nil ?_
  intro X12 hX12 hF
  have hb := bel_next hb hX12
  clear hF hX12
  go_wp2
  go_ret
  exact ⟨rfl, hb⟩

theorem all (a b c : List UInt8) (w : World) (za : a.length ≤ 140737488351232) (zb : b.length ≤ 140737488351232) (zc : c.length ≤ 140737488351232) : Calls Tryd.prog 7 #[.string ⟨a.toArray⟩, .string ⟨b.toArray⟩, .string ⟨c.toArray⟩] w fun e w' => e = .returned (.bool true) ∧ Since w w' := by
  rcases Nat.lt_or_ge 100 a.length with h | h
  · exact bad0 a b c w za zb zc h
  · rcases Nat.lt_or_ge 100 b.length with h1 | h1
    · exact bad1 a b c w za zb zc h h1
    · rcases Nat.lt_or_ge 100 c.length with h2 | h2
      · exact bad2 a b c w za zb zc h h1 h2
      · rcases Nat.eq_zero_or_pos (Nat.gcd (val a) (val b)) with h3 | h3
        · exact zero a b c w h h1 h2 h3
        · rcases Nat.eq_zero_or_pos (val c) with h4 | h4
          · exact czero a b c w h h1 h2 h3 h4
          · by_cases h5 : val a % val c = 0
            · by_cases h6 : val b % val c = 0
              · exact cC a b c w h h1 h2 h3 h4 h5 h6
              · exact cB a b c w h h1 h2 h3 h4 h5 h6
            · exact cA a b c w h h1 h2 h3 h4 h5
end commonW
end Go.Proofs.YtglnabciomlmmaaDoor
