/-
  NatTextsMatchSpec: the walk.
-/
import Derived.Test.YtglnabciomlmmaaDoorLw04
namespace Go.Proofs.YtglnabciomlmmaaDoor
open Go.RowKit

namespace textsW
set_option maxRecDepth 100000 in
set_option maxHeartbeats 1600000 in
theorem bad0 (n : Int) (a s : List UInt8) (w : World) (hn : n < 9223372036854775808) (za : a.length ≤ 140737488351232) (zs : s.length ≤ 140737488351232) (h0 : 40 < a.length) : Calls Tryd.prog 4 #[.int .i64 n, .string ⟨a.toArray⟩, .string ⟨s.toArray⟩] w fun e w' => e = .returned (.bool true) ∧ Since w w' := by
  go_enter Tryd.func4, Tryd.ntmps4
  go_upto_region 1 with (fail)
  refine lx_plain [] (lasts_nil) ?_
  simp only [its, Nat.zero_add, Nat.reduceAdd]
  refine lx_val (by rfl) (.string ⟨a.toArray⟩) (fun X hX hF => by rfl) ?_
  simp only [Act.put, List.setIfInBounds_toArray, List.set_cons_succ, List.set_cons_zero]
  refine lx_val (by rfl) (.int .i64 (a.length : Int)) (fun X hX hF => exec_lens Tryd.underlying9 _ (by rfl) a (by rfl) _ rfl X) ?_
  simp only [Act.put, List.setIfInBounds_toArray, List.set_cons_succ, List.set_cons_zero]
  refine lx_val (by rfl) (.bool true) (fun X hX hF => exec_gtr _ _ _ _ (by rfl) .i64 (a.length : Int) 40 (by rfl) (by rfl) true (decide_eq_true (by omega)) X) ?_
  simp only [Act.put, List.setIfInBounds_toArray, List.set_cons_succ, List.set_cons_zero]
  refine lx_val (by rfl) (.bool true) (fun X hX hF => by rfl) ?_
  simp only [Act.put, List.setIfInBounds_toArray, List.set_cons_succ, List.set_cons_zero]
  refine lx_skip (by rfl) ?_
  simp only [Act.put, List.setIfInBounds_toArray, List.set_cons_succ, List.set_cons_zero]
  refine lx_skip (by rfl) ?_
  simp only [Act.put, List.setIfInBounds_toArray, List.set_cons_succ, List.set_cons_zero]
  refine lx_skip (by rfl) ?_
  simp only [Act.put, List.setIfInBounds_toArray, List.set_cons_succ, List.set_cons_zero]
  refine lx_val (by rfl) (.bool true) (fun X hX hF => by rfl) ?_
  simp only [Act.put, List.setIfInBounds_toArray, List.set_cons_succ, List.set_cons_zero]
  refine lx_nil ?_
  intro X1 hX1 hF
  have hb : Below w.heap.size w X1 := hX1
  clear hF hX1
  go_upto_region 2 with (fail)
  refine lx_plain [] (lasts_nil) ?_
  simp only [its, Nat.zero_add, Nat.reduceAdd]
  refine lx_call (by rfl) 9 _ _ (by rfl) (.bool true) [] (by rfl) (by kernel_rfl) (fun _ => by go_simp) (fun X hX hF => sanityC X) ?_
  simp only [Act.put, List.setIfInBounds_toArray, List.set_cons_succ, List.set_cons_zero]
  refine lx_val (by rfl) (.bool true) (fun X hX hF => by rfl) ?_
  simp only [Act.put, List.setIfInBounds_toArray, List.set_cons_succ, List.set_cons_zero]
  refine lx_nil ?_
  intro X2 hX2 hF
  have hb := bel_next hb hX2
  clear hF hX2
  go_wp2
  go_ret
  exact ⟨rfl, hb⟩

set_option maxRecDepth 100000 in
set_option maxHeartbeats 1600000 in
theorem bad1 (n : Int) (a s : List UInt8) (w : World) (hn : n < 9223372036854775808) (za : a.length ≤ 140737488351232) (zs : s.length ≤ 140737488351232) (h0 : a.length ≤ 40) (h1 : 100 < s.length) : Calls Tryd.prog 4 #[.int .i64 n, .string ⟨a.toArray⟩, .string ⟨s.toArray⟩] w fun e w' => e = .returned (.bool true) ∧ Since w w' := by
  go_enter Tryd.func4, Tryd.ntmps4
  go_upto_region 1 with (fail)
  refine lx_plain [] (lasts_nil) ?_
  simp only [its, Nat.zero_add, Nat.reduceAdd]
  refine lx_val (by rfl) (.string ⟨a.toArray⟩) (fun X hX hF => by rfl) ?_
  simp only [Act.put, List.setIfInBounds_toArray, List.set_cons_succ, List.set_cons_zero]
  refine lx_val (by rfl) (.int .i64 (a.length : Int)) (fun X hX hF => exec_lens Tryd.underlying9 _ (by rfl) a (by rfl) _ rfl X) ?_
  simp only [Act.put, List.setIfInBounds_toArray, List.set_cons_succ, List.set_cons_zero]
  refine lx_val (by rfl) (.bool false) (fun X hX hF => exec_gtr _ _ _ _ (by rfl) .i64 (a.length : Int) 40 (by rfl) (by rfl) false (decide_eq_false (by omega)) X) ?_
  simp only [Act.put, List.setIfInBounds_toArray, List.set_cons_succ, List.set_cons_zero]
  refine lx_val (by rfl) (.bool false) (fun X hX hF => by rfl) ?_
  simp only [Act.put, List.setIfInBounds_toArray, List.set_cons_succ, List.set_cons_zero]
  refine lx_val (by rfl) (.string ⟨s.toArray⟩) (fun X hX hF => by rfl) ?_
  simp only [Act.put, List.setIfInBounds_toArray, List.set_cons_succ, List.set_cons_zero]
  refine lx_val (by rfl) (.int .i64 (s.length : Int)) (fun X hX hF => exec_lens Tryd.underlying9 _ (by rfl) s (by rfl) _ rfl X) ?_
  simp only [Act.put, List.setIfInBounds_toArray, List.set_cons_succ, List.set_cons_zero]
  refine lx_val (by rfl) (.bool true) (fun X hX hF => exec_gtr _ _ _ _ (by rfl) .i64 (s.length : Int) 100 (by rfl) (by rfl) true (decide_eq_true (by omega)) X) ?_
  simp only [Act.put, List.setIfInBounds_toArray, List.set_cons_succ, List.set_cons_zero]
  refine lx_val (by rfl) (.bool true) (fun X hX hF => by rfl) ?_
  simp only [Act.put, List.setIfInBounds_toArray, List.set_cons_succ, List.set_cons_zero]
  refine lx_nil ?_
  intro X1 hX1 hF
  have hb : Below w.heap.size w X1 := hX1
  clear hF hX1
  go_upto_region 2 with (fail)
  refine lx_plain [] (lasts_nil) ?_
  simp only [its, Nat.zero_add, Nat.reduceAdd]
  refine lx_call (by rfl) 9 _ _ (by rfl) (.bool true) [] (by rfl) (by kernel_rfl) (fun _ => by go_simp) (fun X hX hF => sanityC X) ?_
  simp only [Act.put, List.setIfInBounds_toArray, List.set_cons_succ, List.set_cons_zero]
  refine lx_val (by rfl) (.bool true) (fun X hX hF => by rfl) ?_
  simp only [Act.put, List.setIfInBounds_toArray, List.set_cons_succ, List.set_cons_zero]
  refine lx_nil ?_
  intro X2 hX2 hF
  have hb := bel_next hb hX2
  clear hF hX2
  go_wp2
  go_ret
  exact ⟨rfl, hb⟩

set_option maxRecDepth 100000 in
set_option maxHeartbeats 1600000 in
theorem good (n : Int) (a s : List UInt8) (w : World) (hn : n < 9223372036854775808) (ha : a.length ≤ 40) (hs : s.length ≤ 100) : Calls Tryd.prog 4 #[.int .i64 n, .string ⟨a.toArray⟩, .string ⟨s.toArray⟩] w fun e w' => e = .returned (.bool true) ∧ Since w w' := by
  go_enter Tryd.func4, Tryd.ntmps4
  go_upto_region 1 with (fail)
  refine lx_plain [] (lasts_nil) ?_
  simp only [its, Nat.zero_add, Nat.reduceAdd]
  refine lx_val (by rfl) (.string ⟨a.toArray⟩) (fun X hX hF => by rfl) ?_
  simp only [Act.put, List.setIfInBounds_toArray, List.set_cons_succ, List.set_cons_zero]
  refine lx_val (by rfl) (.int .i64 (a.length : Int)) (fun X hX hF => exec_lens Tryd.underlying9 _ (by rfl) a (by rfl) _ rfl X) ?_
  simp only [Act.put, List.setIfInBounds_toArray, List.set_cons_succ, List.set_cons_zero]
  refine lx_val (by rfl) (.bool false) (fun X hX hF => exec_gtr _ _ _ _ (by rfl) .i64 (a.length : Int) 40 (by rfl) (by rfl) false (decide_eq_false (by omega)) X) ?_
  simp only [Act.put, List.setIfInBounds_toArray, List.set_cons_succ, List.set_cons_zero]
  refine lx_val (by rfl) (.bool false) (fun X hX hF => by rfl) ?_
  simp only [Act.put, List.setIfInBounds_toArray, List.set_cons_succ, List.set_cons_zero]
  refine lx_val (by rfl) (.string ⟨s.toArray⟩) (fun X hX hF => by rfl) ?_
  simp only [Act.put, List.setIfInBounds_toArray, List.set_cons_succ, List.set_cons_zero]
  refine lx_val (by rfl) (.int .i64 (s.length : Int)) (fun X hX hF => exec_lens Tryd.underlying9 _ (by rfl) s (by rfl) _ rfl X) ?_
  simp only [Act.put, List.setIfInBounds_toArray, List.set_cons_succ, List.set_cons_zero]
  refine lx_val (by rfl) (.bool false) (fun X hX hF => exec_gtr _ _ _ _ (by rfl) .i64 (s.length : Int) 100 (by rfl) (by rfl) false (decide_eq_false (by omega)) X) ?_
  simp only [Act.put, List.setIfInBounds_toArray, List.set_cons_succ, List.set_cons_zero]
  refine lx_val (by rfl) (.bool false) (fun X hX hF => by rfl) ?_
  simp only [Act.put, List.setIfInBounds_toArray, List.set_cons_succ, List.set_cons_zero]
  refine lx_nil ?_
  intro X1 hX1 hF
  have hb : Below w.heap.size w X1 := hX1
  clear hF hX1
  go_upto_region 3 with (fail)
  refine lx_plain [] (lasts_nil) ?_
  simp only [its, Nat.zero_add, Nat.reduceAdd]
  refine lx_val (by rfl) (.int .i64 n) (fun X hX hF => by rfl) ?_
  simp only [Act.put, List.setIfInBounds_toArray, List.set_cons_succ, List.set_cons_zero]
  refine lx_call (by rfl) 26 _ _ (by rfl) (.tuple #[.string ⟨(intS n).toArray⟩, .int .i64 (intE n)]) [.int .i64 n] (by rfl) (by kernel_rfl) (fun _ => by go_simp) (fun X hX hF => nintA X n (by omega)) ?_
  simp only [Act.put, List.setIfInBounds_toArray, List.set_cons_succ, List.set_cons_zero]
  refine lx_val (by rfl) (.tuple #[.string ⟨(intS n).toArray⟩, .int .i64 (intE n)]) (fun X hX hF => by rfl) ?_
  simp only [Act.put, List.setIfInBounds_toArray, List.set_cons_succ, List.set_cons_zero]
  refine lx_val (by rfl) (.string ⟨(intS n).toArray⟩) (fun X hX hF => by rfl) ?_
  simp only [Act.put, List.setIfInBounds_toArray, List.set_cons_succ, List.set_cons_zero]
  refine lx_val (by rfl) (.int .i64 (intE n)) (fun X hX hF => by rfl) ?_
  simp only [Act.put, List.setIfInBounds_toArray, List.set_cons_succ, List.set_cons_zero]
  refine lx_val (by rfl) (.string ⟨(intS n).toArray⟩) (fun X hX hF => by rfl) ?_
  simp only [Act.put, List.setIfInBounds_toArray, List.set_cons_succ, List.set_cons_zero]
  refine lx_val (by rfl) (.int .i64 (intE n)) (fun X hX hF => by rfl) ?_
  simp only [Act.put, List.setIfInBounds_toArray, List.set_cons_succ, List.set_cons_zero]
  refine lx_nil ?_
  intro X2 hX2 hF
  have hb := bel_next hb hX2
  clear hF hX2
  go_upto_region 4 with (fail)
  refine lx_plain [] (lasts_nil) ?_
  simp only [its, Nat.zero_add, Nat.reduceAdd]
  refine lx_val (by rfl) (.string ⟨a.toArray⟩) (fun X hX hF => by rfl) ?_
  simp only [Act.put, List.setIfInBounds_toArray, List.set_cons_succ, List.set_cons_zero]
  refine lx_call (by rfl) 27 _ _ (by rfl) (.tuple #[.int .i64 (valN (val a)), .int .i64 (valE (val a))]) [.string ⟨a.toArray⟩] (by rfl) (by kernel_rfl) (fun _ => by go_simp) (fun X hX hF => (nvalA a X (by first | omega | decide)).mono fun e X' ⟨h1, h2⟩ => ⟨by rw [h1], h2⟩) ?_
  simp only [Act.put, List.setIfInBounds_toArray, List.set_cons_succ, List.set_cons_zero]
  refine lx_val (by rfl) (.tuple #[.int .i64 (valN (val a)), .int .i64 (valE (val a))]) (fun X hX hF => by rfl) ?_
  simp only [Act.put, List.setIfInBounds_toArray, List.set_cons_succ, List.set_cons_zero]
  refine lx_val (by rfl) (.int .i64 (valN (val a))) (fun X hX hF => by rfl) ?_
  simp only [Act.put, List.setIfInBounds_toArray, List.set_cons_succ, List.set_cons_zero]
  refine lx_val (by rfl) (.int .i64 (valE (val a))) (fun X hX hF => by rfl) ?_
  simp only [Act.put, List.setIfInBounds_toArray, List.set_cons_succ, List.set_cons_zero]
  refine lx_val (by rfl) (.int .i64 (valN (val a))) (fun X hX hF => by rfl) ?_
  simp only [Act.put, List.setIfInBounds_toArray, List.set_cons_succ, List.set_cons_zero]
  refine lx_val (by rfl) (.int .i64 (valE (val a))) (fun X hX hF => by rfl) ?_
  simp only [Act.put, List.setIfInBounds_toArray, List.set_cons_succ, List.set_cons_zero]
  refine lx_nil ?_
  intro X3 hX3 hF
  have hb := bel_next hb hX3
  clear hF hX3
  go_upto_region 5 with (fail)
  refine lx_plain [] (lasts_nil) ?_
  simp only [its, Nat.zero_add, Nat.reduceAdd]
  refine lx_val (by rfl) (.string ⟨s.toArray⟩) (fun X hX hF => by rfl) ?_
  simp only [Act.put, List.setIfInBounds_toArray, List.set_cons_succ, List.set_cons_zero]
  refine lx_call (by rfl) 28 _ _ (by rfl) (.tuple #[.string ⟨(parS s).toArray⟩, .int .i64 (parE s)]) [.string ⟨s.toArray⟩] (by rfl) (by kernel_rfl) (fun _ => by go_simp) (fun X hX hF => (nparseC s X (by omega)).mono fun e X' ⟨h1, h2⟩ => ⟨by rw [h1, parV_eq], h2⟩) ?_
  simp only [Act.put, List.setIfInBounds_toArray, List.set_cons_succ, List.set_cons_zero]
  refine lx_val (by rfl) (.tuple #[.string ⟨(parS s).toArray⟩, .int .i64 (parE s)]) (fun X hX hF => by rfl) ?_
  simp only [Act.put, List.setIfInBounds_toArray, List.set_cons_succ, List.set_cons_zero]
  refine lx_val (by rfl) (.string ⟨(parS s).toArray⟩) (fun X hX hF => by rfl) ?_
  simp only [Act.put, List.setIfInBounds_toArray, List.set_cons_succ, List.set_cons_zero]
  refine lx_val (by rfl) (.int .i64 (parE s)) (fun X hX hF => by rfl) ?_
  simp only [Act.put, List.setIfInBounds_toArray, List.set_cons_succ, List.set_cons_zero]
  refine lx_val (by rfl) (.string ⟨(parS s).toArray⟩) (fun X hX hF => by rfl) ?_
  simp only [Act.put, List.setIfInBounds_toArray, List.set_cons_succ, List.set_cons_zero]
  refine lx_val (by rfl) (.int .i64 (parE s)) (fun X hX hF => by rfl) ?_
  simp only [Act.put, List.setIfInBounds_toArray, List.set_cons_succ, List.set_cons_zero]
  refine lx_nil ?_
  intro X4 hX4 hF
  have hb := bel_next hb hX4
  clear hF hX4
  go_upto_region 6 with (fail)
  refine lx_plain_to 2 [] (lasts_nil) ?_
  simp only [its, List.take, List.drop, Nat.zero_add, Nat.reduceAdd]
  refine lx_val (by rfl) (.int .i64 n) (fun X hX hF => by rfl) ?_
  simp only [Act.put, List.setIfInBounds_toArray, List.set_cons_succ, List.set_cons_zero]
  refine lx_call (by rfl) 29 _ _ (by rfl) (.agg #[.string ⟨(intS n).toArray⟩, .int .i64 (intE n)]) [.int .i64 n] (by rfl) (by kernel_rfl) (fun _ => by go_simp) (fun X hX hF => rintA X n (by omega)) ?_
  simp only [Act.put, List.setIfInBounds_toArray, List.set_cons_succ, List.set_cons_zero]
  refine lx_nil ?_
  intro X5 hX5 hF
  have hb := bel_next hb hX5
  clear hF hX5
  go_upto_region 7 with (refine op_store_new _ _ _ rfl 29 (.tmp 13) (.tmp 41) (by rfl) (by rfl) #[.string ⟨(intS n).toArray⟩, .int .i64 (intE n)] (by rfl) rfl (by intro u hu; simp only [List.mem_cons, List.not_mem_nil, or_false] at hu; rcases hu with rfl | rfl <;> rfl) info_made ?_)
  have hD13 : Blk (X5.alloc (.cells #[.string ⟨(intS n).toArray⟩, .int .i64 (intE n)] 29)) X5.heap.size 29 [.string ⟨(intS n).toArray⟩, .int .i64 (intE n)] := Blk.new rfl
  have hb := bel_alloc hb (.cells #[.string ⟨(intS n).toArray⟩, .int .i64 (intE n)] 29)
  generalize X5.alloc (.cells #[.string ⟨(intS n).toArray⟩, .int .i64 (intE n)] 29) = Y5 at *
  generalize X5.heap.size = g13 at *
  go_upto_region 7 with (fail)
  refine lx_plain_to 2 [] (lasts_nil) ?_
  simp only [its, List.take, List.drop, Nat.zero_add, Nat.reduceAdd]
  refine lx_val (by rfl) (.string ⟨a.toArray⟩) (fun X hX hF => by rfl) ?_
  simp only [Act.put, List.setIfInBounds_toArray, List.set_cons_succ, List.set_cons_zero]
  refine lx_call (by rfl) 30 _ _ (by rfl) (.agg #[.int .i64 (valN (val a)), .int .i64 (valE (val a))]) [.string ⟨a.toArray⟩] (by rfl) (by kernel_rfl) (fun _ => by go_simp) (fun X hX hF => (rvalA a X (by first | omega | decide)).mono fun e X' ⟨h1, h2⟩ => ⟨by rw [h1], h2⟩) ?_
  simp only [Act.put, List.setIfInBounds_toArray, List.set_cons_succ, List.set_cons_zero]
  refine lx_nil ?_
  intro X6 hX6 hF
  have hD13 := hD13.bel hX6
  have hb := bel_next hb hX6
  clear hF hX6
  go_upto_region 8 with (refine op_store_new _ _ _ rfl 45 (.tmp 14) (.tmp 43) (by rfl) (by rfl) #[.int .i64 (valN (val a)), .int .i64 (valE (val a))] (by rfl) rfl (by intro u hu; simp only [List.mem_cons, List.not_mem_nil, or_false] at hu; rcases hu with rfl | rfl <;> rfl) info_cnt ?_)
  have hD14 : Blk (X6.alloc (.cells #[.int .i64 (valN (val a)), .int .i64 (valE (val a))] 45)) X6.heap.size 45 [.int .i64 (valN (val a)), .int .i64 (valE (val a))] := Blk.new rfl
  have hb := bel_alloc hb (.cells #[.int .i64 (valN (val a)), .int .i64 (valE (val a))] 45)
  have hD13 := hD13.bel (since_alloc X6 (.cells #[.int .i64 (valN (val a)), .int .i64 (valE (val a))] 45))
  generalize X6.alloc (.cells #[.int .i64 (valN (val a)), .int .i64 (valE (val a))] 45) = Y6 at *
  generalize X6.heap.size = g14 at *
  go_upto_region 8 with (fail)
  refine lx_plain_to 2 [] (lasts_nil) ?_
  simp only [its, List.take, List.drop, Nat.zero_add, Nat.reduceAdd]
  refine lx_val (by rfl) (.string ⟨s.toArray⟩) (fun X hX hF => by rfl) ?_
  simp only [Act.put, List.setIfInBounds_toArray, List.set_cons_succ, List.set_cons_zero]
  refine lx_call (by rfl) 31 _ _ (by rfl) (.agg #[.string ⟨(parS s).toArray⟩, .int .i64 (parE s)]) [.string ⟨s.toArray⟩] (by rfl) (by kernel_rfl) (fun _ => by go_simp) (fun X hX hF => (rparseC s X (by omega)).mono fun e X' ⟨h1, h2⟩ => ⟨by rw [h1, rparV_eq], h2⟩) ?_
  simp only [Act.put, List.setIfInBounds_toArray, List.set_cons_succ, List.set_cons_zero]
  refine lx_nil ?_
  intro X7 hX7 hF
  have hD13 := hD13.bel hX7
  have hD14 := hD14.bel hX7
  have hb := bel_next hb hX7
  clear hF hX7
  go_upto_region 9 with (refine op_store_new _ _ _ rfl 29 (.tmp 15) (.tmp 45) (by rfl) (by rfl) #[.string ⟨(parS s).toArray⟩, .int .i64 (parE s)] (by rfl) rfl (by intro u hu; simp only [List.mem_cons, List.not_mem_nil, or_false] at hu; rcases hu with rfl | rfl <;> rfl) info_made ?_)
  have hD15 : Blk (X7.alloc (.cells #[.string ⟨(parS s).toArray⟩, .int .i64 (parE s)] 29)) X7.heap.size 29 [.string ⟨(parS s).toArray⟩, .int .i64 (parE s)] := Blk.new rfl
  have hb := bel_alloc hb (.cells #[.string ⟨(parS s).toArray⟩, .int .i64 (parE s)] 29)
  have hD13 := hD13.bel (since_alloc X7 (.cells #[.string ⟨(parS s).toArray⟩, .int .i64 (parE s)] 29))
  have hD14 := hD14.bel (since_alloc X7 (.cells #[.string ⟨(parS s).toArray⟩, .int .i64 (parE s)] 29))
  generalize X7.alloc (.cells #[.string ⟨(parS s).toArray⟩, .int .i64 (parE s)] 29) = Y7 at *
  generalize X7.heap.size = g15 at *
  go_upto_region 9 with (fail)
  refine lx_plain [] (lasts_nil) ?_
  simp only [its, Nat.zero_add, Nat.reduceAdd]
  refine lx_call (by rfl) 9 _ _ (by rfl) (.bool true) [] (by rfl) (by kernel_rfl) (fun _ => by go_simp) (fun X hX hF => sanityC X) ?_
  simp only [Act.put, List.setIfInBounds_toArray, List.set_cons_succ, List.set_cons_zero]
  refine lx_val (by rfl) (.bool true) (fun X hX hF => by rfl) ?_
  simp only [Act.put, List.setIfInBounds_toArray, List.set_cons_succ, List.set_cons_zero]
  refine lx_val (by rfl) (.string ⟨(intS n).toArray⟩) (fun X hX hF => by rfl) ?_
  simp only [Act.put, List.setIfInBounds_toArray, List.set_cons_succ, List.set_cons_zero]
  refine lx_val (by rfl) (.pointer (some ⟨g13, 0, none⟩)) (fun X hX hF => by (unfold execOp; go_simp)) ?_
  simp only [Act.put, List.setIfInBounds_toArray, List.set_cons_succ, List.set_cons_zero]
  refine lx_val (by rfl) (.string ⟨(intS n).toArray⟩) (fun X hX hF => exec_ld 9 _ (by rfl) g13 0 (by rfl) _ X ((hD13.bel hX).cell (j := 0) rfl) (fun X u h => load_str g13 0 X u h)) ?_
  simp only [Act.put, List.setIfInBounds_toArray, List.set_cons_succ, List.set_cons_zero]
  refine lx_val (by rfl) (.bool true) (fun X hX hF => exec_eqsB _ _ _ _ (by rfl) (intS n) (intS n) (by rfl) (by rfl) true (eqs_t rfl) X) ?_
  simp only [Act.put, List.setIfInBounds_toArray, List.set_cons_succ, List.set_cons_zero]
  refine lx_val (by rfl) (.bool true) (fun X hX hF => by rfl) ?_
  simp only [Act.put, List.setIfInBounds_toArray, List.set_cons_succ, List.set_cons_zero]
  refine lx_val (by rfl) (.bool true) (fun X hX hF => by rfl) ?_
  simp only [Act.put, List.setIfInBounds_toArray, List.set_cons_succ, List.set_cons_zero]
  refine lx_val (by rfl) (.int .i64 (intE n)) (fun X hX hF => by rfl) ?_
  simp only [Act.put, List.setIfInBounds_toArray, List.set_cons_succ, List.set_cons_zero]
  refine lx_val (by rfl) (.pointer (some ⟨g13, 1, none⟩)) (fun X hX hF => by (unfold execOp; go_simp)) ?_
  simp only [Act.put, List.setIfInBounds_toArray, List.set_cons_succ, List.set_cons_zero]
  refine lx_val (by rfl) (.int .i64 (intE n)) (fun X hX hF => exec_ld 23 _ (by rfl) g13 1 (by rfl) _ X ((hD13.bel hX).cell (j := 1) rfl) (fun X u h => load_err g13 1 X u h)) ?_
  simp only [Act.put, List.setIfInBounds_toArray, List.set_cons_succ, List.set_cons_zero]
  refine lx_val (by rfl) (.bool true) (fun X hX hF => exec_eqi _ _ _ _ (by rfl) .i64 (intE n) (intE n) (by rfl) (by rfl) true (decide_eq_true rfl) X) ?_
  simp only [Act.put, List.setIfInBounds_toArray, List.set_cons_succ, List.set_cons_zero]
  refine lx_val (by rfl) (.bool true) (fun X hX hF => by rfl) ?_
  simp only [Act.put, List.setIfInBounds_toArray, List.set_cons_succ, List.set_cons_zero]
  refine lx_val (by rfl) (.bool true) (fun X hX hF => by rfl) ?_
  simp only [Act.put, List.setIfInBounds_toArray, List.set_cons_succ, List.set_cons_zero]
  refine lx_val (by rfl) (.int .i64 (valN (val a))) (fun X hX hF => by rfl) ?_
  simp only [Act.put, List.setIfInBounds_toArray, List.set_cons_succ, List.set_cons_zero]
  refine lx_val (by rfl) (.pointer (some ⟨g14, 0, none⟩)) (fun X hX hF => by (unfold execOp; go_simp)) ?_
  simp only [Act.put, List.setIfInBounds_toArray, List.set_cons_succ, List.set_cons_zero]
  refine lx_val (by rfl) (.int .i64 (valN (val a))) (fun X hX hF => exec_ld 3 _ (by rfl) g14 0 (by rfl) _ X ((hD14.bel hX).cell (j := 0) rfl) (fun X u h => load_int g14 0 X u h)) ?_
  simp only [Act.put, List.setIfInBounds_toArray, List.set_cons_succ, List.set_cons_zero]
  refine lx_val (by rfl) (.bool true) (fun X hX hF => exec_eqi _ _ _ _ (by rfl) .i64 (valN (val a)) (valN (val a)) (by rfl) (by rfl) true (decide_eq_true rfl) X) ?_
  simp only [Act.put, List.setIfInBounds_toArray, List.set_cons_succ, List.set_cons_zero]
  refine lx_val (by rfl) (.bool true) (fun X hX hF => by rfl) ?_
  simp only [Act.put, List.setIfInBounds_toArray, List.set_cons_succ, List.set_cons_zero]
  refine lx_val (by rfl) (.bool true) (fun X hX hF => by rfl) ?_
  simp only [Act.put, List.setIfInBounds_toArray, List.set_cons_succ, List.set_cons_zero]
  refine lx_val (by rfl) (.int .i64 (valE (val a))) (fun X hX hF => by rfl) ?_
  simp only [Act.put, List.setIfInBounds_toArray, List.set_cons_succ, List.set_cons_zero]
  refine lx_val (by rfl) (.pointer (some ⟨g14, 1, none⟩)) (fun X hX hF => by (unfold execOp; go_simp)) ?_
  simp only [Act.put, List.setIfInBounds_toArray, List.set_cons_succ, List.set_cons_zero]
  refine lx_val (by rfl) (.int .i64 (valE (val a))) (fun X hX hF => exec_ld 23 _ (by rfl) g14 1 (by rfl) _ X ((hD14.bel hX).cell (j := 1) rfl) (fun X u h => load_err g14 1 X u h)) ?_
  simp only [Act.put, List.setIfInBounds_toArray, List.set_cons_succ, List.set_cons_zero]
  refine lx_val (by rfl) (.bool true) (fun X hX hF => exec_eqi _ _ _ _ (by rfl) .i64 (valE (val a)) (valE (val a)) (by rfl) (by rfl) true (decide_eq_true rfl) X) ?_
  simp only [Act.put, List.setIfInBounds_toArray, List.set_cons_succ, List.set_cons_zero]
  refine lx_val (by rfl) (.bool true) (fun X hX hF => by rfl) ?_
  simp only [Act.put, List.setIfInBounds_toArray, List.set_cons_succ, List.set_cons_zero]
  refine lx_val (by rfl) (.bool true) (fun X hX hF => by rfl) ?_
  simp only [Act.put, List.setIfInBounds_toArray, List.set_cons_succ, List.set_cons_zero]
  refine lx_val (by rfl) (.string ⟨(parS s).toArray⟩) (fun X hX hF => by rfl) ?_
  simp only [Act.put, List.setIfInBounds_toArray, List.set_cons_succ, List.set_cons_zero]
  refine lx_val (by rfl) (.pointer (some ⟨g15, 0, none⟩)) (fun X hX hF => by (unfold execOp; go_simp)) ?_
  simp only [Act.put, List.setIfInBounds_toArray, List.set_cons_succ, List.set_cons_zero]
  refine lx_val (by rfl) (.string ⟨(parS s).toArray⟩) (fun X hX hF => exec_ld 9 _ (by rfl) g15 0 (by rfl) _ X ((hD15.bel hX).cell (j := 0) rfl) (fun X u h => load_str g15 0 X u h)) ?_
  simp only [Act.put, List.setIfInBounds_toArray, List.set_cons_succ, List.set_cons_zero]
  refine lx_val (by rfl) (.bool true) (fun X hX hF => exec_eqsB _ _ _ _ (by rfl) (parS s) (parS s) (by rfl) (by rfl) true (eqs_t rfl) X) ?_
  simp only [Act.put, List.setIfInBounds_toArray, List.set_cons_succ, List.set_cons_zero]
  refine lx_val (by rfl) (.bool true) (fun X hX hF => by rfl) ?_
  simp only [Act.put, List.setIfInBounds_toArray, List.set_cons_succ, List.set_cons_zero]
  refine lx_val (by rfl) (.bool true) (fun X hX hF => by rfl) ?_
  simp only [Act.put, List.setIfInBounds_toArray, List.set_cons_succ, List.set_cons_zero]
  refine lx_val (by rfl) (.int .i64 (parE s)) (fun X hX hF => by rfl) ?_
  simp only [Act.put, List.setIfInBounds_toArray, List.set_cons_succ, List.set_cons_zero]
  refine lx_val (by rfl) (.pointer (some ⟨g15, 1, none⟩)) (fun X hX hF => by (unfold execOp; go_simp)) ?_
  simp only [Act.put, List.setIfInBounds_toArray, List.set_cons_succ, List.set_cons_zero]
  refine lx_val (by rfl) (.int .i64 (parE s)) (fun X hX hF => exec_ld 23 _ (by rfl) g15 1 (by rfl) _ X ((hD15.bel hX).cell (j := 1) rfl) (fun X u h => load_err g15 1 X u h)) ?_
  simp only [Act.put, List.setIfInBounds_toArray, List.set_cons_succ, List.set_cons_zero]
  refine lx_val (by rfl) (.bool true) (fun X hX hF => exec_eqi _ _ _ _ (by rfl) .i64 (parE s) (parE s) (by rfl) (by rfl) true (decide_eq_true rfl) X) ?_
  simp only [Act.put, List.setIfInBounds_toArray, List.set_cons_succ, List.set_cons_zero]
  refine lx_val (by rfl) (.bool true) (fun X hX hF => by rfl) ?_
  simp only [Act.put, List.setIfInBounds_toArray, List.set_cons_succ, List.set_cons_zero]
  refine lx_val (by rfl) (.bool true) (fun X hX hF => by rfl) ?_
  simp only [Act.put, List.setIfInBounds_toArray, List.set_cons_succ, List.set_cons_zero]
  refine lx_val (by rfl) (.string ⟨a.toArray⟩) (fun X hX hF => by rfl) ?_
  simp only [Act.put, List.setIfInBounds_toArray, List.set_cons_succ, List.set_cons_zero]
  refine lx_call (by rfl) 32 _ _ (by rfl) (.string ⟨(txt (val a)).toArray⟩) [.string ⟨a.toArray⟩] (by rfl) (by kernel_rfl) (fun _ => by go_simp) (fun X hX hF => (ntextC a X (by first | omega | decide)).mono fun e X' ⟨h1, h2⟩ => ⟨by rw [h1], h2⟩) ?_
  simp only [Act.put, List.setIfInBounds_toArray, List.set_cons_succ, List.set_cons_zero]
  refine lx_val (by rfl) (.string ⟨a.toArray⟩) (fun X hX hF => by rfl) ?_
  simp only [Act.put, List.setIfInBounds_toArray, List.set_cons_succ, List.set_cons_zero]
  refine lx_call (by rfl) 33 _ _ (by rfl) (.string ⟨(txt (val a)).toArray⟩) [.string ⟨a.toArray⟩] (by rfl) (by kernel_rfl) (fun _ => by go_simp) (fun X hX hF => (rtextC a X (by first | omega | decide)).mono fun e X' ⟨h1, h2⟩ => ⟨by rw [h1], h2⟩) ?_
  simp only [Act.put, List.setIfInBounds_toArray, List.set_cons_succ, List.set_cons_zero]
  refine lx_val (by rfl) (.bool true) (fun X hX hF => exec_eqsB _ _ _ _ (by rfl) (txt (val a)) (txt (val a)) (by rfl) (by rfl) true (eqs_t rfl) X) ?_
  simp only [Act.put, List.setIfInBounds_toArray, List.set_cons_succ, List.set_cons_zero]
  refine lx_val (by rfl) (.bool true) (fun X hX hF => by rfl) ?_
  simp only [Act.put, List.setIfInBounds_toArray, List.set_cons_succ, List.set_cons_zero]
  refine lx_val (by rfl) (.bool true) (fun X hX hF => by rfl) ?_
  simp only [Act.put, List.setIfInBounds_toArray, List.set_cons_succ, List.set_cons_zero]
  refine lx_nil ?_
  intro X8 hX8 hF
  have hD13 := hD13.bel hX8
  have hD14 := hD14.bel hX8
  have hD15 := hD15.bel hX8
  have hb := bel_next hb hX8
  clear hF hX8
  go_wp2
  go_ret
  exact ⟨rfl, hb⟩

theorem all (n : Int) (a s : List UInt8) (w : World) (hn : n ≤ 9223372036854775807) (za : a.length ≤ 140737488351232) (zs : s.length ≤ 140737488351232) : Calls Tryd.prog 4 #[.int .i64 n, .string ⟨a.toArray⟩, .string ⟨s.toArray⟩] w fun e w' => e = .returned (.bool true) ∧ Since w w' := by
  rcases Nat.lt_or_ge 40 a.length with h | h
  · exact bad0 n a s w (by omega) za zs h
  · rcases Nat.lt_or_ge 100 s.length with h1 | h1
    · exact bad1 n a s w (by omega) za zs h h1
    · exact good n a s w (by omega) h h1
end textsW
end Go.Proofs.YtglnabciomlmmaaDoor
