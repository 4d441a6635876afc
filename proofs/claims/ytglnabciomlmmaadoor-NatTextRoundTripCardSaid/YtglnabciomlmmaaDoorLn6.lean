/-
  NatTextRoundTrip: the walk.
-/
import Derived.Test.YtglnabciomlmmaaDoorLw04
import Derived.Test.YtglnabciomlmmaaDoorPl04u
namespace Go.Proofs.YtglnabciomlmmaaDoor
open Go.RowKit

namespace tripW
set_option maxRecDepth 100000 in
set_option maxHeartbeats 1600000 in
theorem bad0 (a b : List UInt8) (w : World) (za : a.length ≤ 140737488351232) (zb : b.length ≤ 140737488351232) (h0 : 100 < a.length) : Calls Tryd.prog 8 #[.string ⟨a.toArray⟩, .string ⟨b.toArray⟩] w fun e w' => e = .returned (.bool true) ∧ Since w w' := by
  go_enter Tryd.func8, Tryd.ntmps8
  go_upto_region 1 with (fail)
  refine lx_plain [] (lasts_nil) ?_
  simp only [its, Nat.zero_add, Nat.reduceAdd]
  refine lx_val (by rfl) (.string ⟨a.toArray⟩) (fun X hX hF => by rfl) ?_
  simp only [Act.put, List.setIfInBounds_toArray, List.set_cons_succ, List.set_cons_zero]
  refine lx_val (by rfl) (.int .i64 (a.length : Int)) (fun X hX hF => exec_lens Tryd.underlying9 _ (by rfl) a (by rfl) _ rfl X) ?_
  simp only [Act.put, List.setIfInBounds_toArray, List.set_cons_succ, List.set_cons_zero]
  refine lx_val (by rfl) (.bool true) (fun X hX hF => exec_gtr _ _ _ _ (by rfl) .i64 (a.length : Int) 100 (by rfl) (by rfl) true (decide_eq_true (by omega)) X) ?_
  simp only [Act.put, List.setIfInBounds_toArray, List.set_cons_succ, List.set_cons_zero]
  refine lx_val (by rfl) (.bool true) (fun X hX hF => by rfl) ?_
  simp only [Act.put, List.setIfInBounds_toArray, List.set_cons_succ, List.set_cons_zero]
  refine lx_skip (by rfl) ?_
  simp only [Act.put, List.setIfInBounds_toArray, List.set_cons_succ, List.set_cons_zero]
  refine lx_skip (by rfl) ?_
  simp only [Act.put, List.setIfInBounds_toArray, List.set_cons_succ, List.set_cons_zero]
  refine lx_skip (by rfl) ?_
  simp only [Act.put, List.setIfInBounds_toArray, List.set_cons_succ, List.set_cons_zero]
  refine lx_val (by rfl) (.bool true) (fun X hX hF => by rfl) ?_
  simp only [Act.put, List.setIfInBounds_toArray, List.set_cons_succ, List.set_cons_zero]
  refine lx_nil ?_
  intro X1 hX1 hF
  have hb : Below w.heap.size w X1 := hX1
  clear hF hX1
  go_upto_region 2 with (fail)
  refine lx_plain [] (lasts_nil) ?_
  simp only [its, Nat.zero_add, Nat.reduceAdd]
  refine lx_call (by rfl) 9 _ _ (by rfl) (.bool true) [] (by rfl) (by kernel_rfl) (fun _ => by go_simp) (fun X hX hF => sanityC X) ?_
  simp only [Act.put, List.setIfInBounds_toArray, List.set_cons_succ, List.set_cons_zero]
  refine lx_val (by rfl) (.bool true) (fun X hX hF => by rfl) ?_
  simp only [Act.put, List.setIfInBounds_toArray, List.set_cons_succ, List.set_cons_zero]
  refine lx_nil ?_
  intro X2 hX2 hF
  have hb := bel_next hb hX2
  clear hF hX2
  go_wp2
  go_ret
  exact ⟨rfl, hb⟩

set_option maxRecDepth 100000 in
set_option maxHeartbeats 1600000 in
theorem bad1 (a b : List UInt8) (w : World) (za : a.length ≤ 140737488351232) (zb : b.length ≤ 140737488351232) (h0 : a.length ≤ 100) (h1 : 100 < b.length) : Calls Tryd.prog 8 #[.string ⟨a.toArray⟩, .string ⟨b.toArray⟩] w fun e w' => e = .returned (.bool true) ∧ Since w w' := by
  go_enter Tryd.func8, Tryd.ntmps8
  go_upto_region 1 with (fail)
  refine lx_plain [] (lasts_nil) ?_
  simp only [its, Nat.zero_add, Nat.reduceAdd]
  refine lx_val (by rfl) (.string ⟨a.toArray⟩) (fun X hX hF => by rfl) ?_
  simp only [Act.put, List.setIfInBounds_toArray, List.set_cons_succ, List.set_cons_zero]
  refine lx_val (by rfl) (.int .i64 (a.length : Int)) (fun X hX hF => exec_lens Tryd.underlying9 _ (by rfl) a (by rfl) _ rfl X) ?_
  simp only [Act.put, List.setIfInBounds_toArray, List.set_cons_succ, List.set_cons_zero]
  refine lx_val (by rfl) (.bool false) (fun X hX hF => exec_gtr _ _ _ _ (by rfl) .i64 (a.length : Int) 100 (by rfl) (by rfl) false (decide_eq_false (by omega)) X) ?_
  simp only [Act.put, List.setIfInBounds_toArray, List.set_cons_succ, List.set_cons_zero]
  refine lx_val (by rfl) (.bool false) (fun X hX hF => by rfl) ?_
  simp only [Act.put, List.setIfInBounds_toArray, List.set_cons_succ, List.set_cons_zero]
  refine lx_val (by rfl) (.string ⟨b.toArray⟩) (fun X hX hF => by rfl) ?_
  simp only [Act.put, List.setIfInBounds_toArray, List.set_cons_succ, List.set_cons_zero]
  refine lx_val (by rfl) (.int .i64 (b.length : Int)) (fun X hX hF => exec_lens Tryd.underlying9 _ (by rfl) b (by rfl) _ rfl X) ?_
  simp only [Act.put, List.setIfInBounds_toArray, List.set_cons_succ, List.set_cons_zero]
  refine lx_val (by rfl) (.bool true) (fun X hX hF => exec_gtr _ _ _ _ (by rfl) .i64 (b.length : Int) 100 (by rfl) (by rfl) true (decide_eq_true (by omega)) X) ?_
  simp only [Act.put, List.setIfInBounds_toArray, List.set_cons_succ, List.set_cons_zero]
  refine lx_val (by rfl) (.bool true) (fun X hX hF => by rfl) ?_
  simp only [Act.put, List.setIfInBounds_toArray, List.set_cons_succ, List.set_cons_zero]
  refine lx_nil ?_
  intro X1 hX1 hF
  have hb : Below w.heap.size w X1 := hX1
  clear hF hX1
  go_upto_region 2 with (fail)
  refine lx_plain [] (lasts_nil) ?_
  simp only [its, Nat.zero_add, Nat.reduceAdd]
  refine lx_call (by rfl) 9 _ _ (by rfl) (.bool true) [] (by rfl) (by kernel_rfl) (fun _ => by go_simp) (fun X hX hF => sanityC X) ?_
  simp only [Act.put, List.setIfInBounds_toArray, List.set_cons_succ, List.set_cons_zero]
  refine lx_val (by rfl) (.bool true) (fun X hX hF => by rfl) ?_
  simp only [Act.put, List.setIfInBounds_toArray, List.set_cons_succ, List.set_cons_zero]
  refine lx_nil ?_
  intro X2 hX2 hF
  have hb := bel_next hb hX2
  clear hF hX2
  go_wp2
  go_ret
  exact ⟨rfl, hb⟩

set_option maxRecDepth 100000 in
set_option maxHeartbeats 1600000 in
theorem shorter (a b : List UInt8) (w : World) (ha : a.length ≤ 100) (hb0 : b.length ≤ 100) (h : (txt (val a)).length < (txt (val b)).length) : Calls Tryd.prog 8 #[.string ⟨a.toArray⟩, .string ⟨b.toArray⟩] w fun e w' => e = .returned (.bool true) ∧ Since w w' := by
  have lta := txt_bytes (m := 100) (by omega) ha
  have ltb := txt_bytes (m := 100) (by omega) hb0
  have hlt : val a < val b := by
    rcases Nat.lt_or_ge (val a) (val b) with h9 | h9
    · exact h9
    · have := txt_mono h9
      omega
  go_enter Tryd.func8, Tryd.ntmps8
  go_upto_region 1 with (fail)
  refine lx_plain [] (lasts_nil) ?_
  simp only [its, Nat.zero_add, Nat.reduceAdd]
  refine lx_val (by rfl) (.string ⟨a.toArray⟩) (fun X hX hF => by rfl) ?_
  simp only [Act.put, List.setIfInBounds_toArray, List.set_cons_succ, List.set_cons_zero]
  refine lx_val (by rfl) (.int .i64 (a.length : Int)) (fun X hX hF => exec_lens Tryd.underlying9 _ (by rfl) a (by rfl) _ rfl X) ?_
  simp only [Act.put, List.setIfInBounds_toArray, List.set_cons_succ, List.set_cons_zero]
  refine lx_val (by rfl) (.bool false) (fun X hX hF => exec_gtr _ _ _ _ (by rfl) .i64 (a.length : Int) 100 (by rfl) (by rfl) false (decide_eq_false (by omega)) X) ?_
  simp only [Act.put, List.setIfInBounds_toArray, List.set_cons_succ, List.set_cons_zero]
  refine lx_val (by rfl) (.bool false) (fun X hX hF => by rfl) ?_
  simp only [Act.put, List.setIfInBounds_toArray, List.set_cons_succ, List.set_cons_zero]
  refine lx_val (by rfl) (.string ⟨b.toArray⟩) (fun X hX hF => by rfl) ?_
  simp only [Act.put, List.setIfInBounds_toArray, List.set_cons_succ, List.set_cons_zero]
  refine lx_val (by rfl) (.int .i64 (b.length : Int)) (fun X hX hF => exec_lens Tryd.underlying9 _ (by rfl) b (by rfl) _ rfl X) ?_
  simp only [Act.put, List.setIfInBounds_toArray, List.set_cons_succ, List.set_cons_zero]
  refine lx_val (by rfl) (.bool false) (fun X hX hF => exec_gtr _ _ _ _ (by rfl) .i64 (b.length : Int) 100 (by rfl) (by rfl) false (decide_eq_false (by omega)) X) ?_
  simp only [Act.put, List.setIfInBounds_toArray, List.set_cons_succ, List.set_cons_zero]
  refine lx_val (by rfl) (.bool false) (fun X hX hF => by rfl) ?_
  simp only [Act.put, List.setIfInBounds_toArray, List.set_cons_succ, List.set_cons_zero]
  refine lx_nil ?_
  intro X1 hX1 hF
  have hb : Below w.heap.size w X1 := hX1
  clear hF hX1
  go_upto_region 3 with (fail)
  refine lx_plain [] (lasts_nil) ?_
  simp only [its, Nat.zero_add, Nat.reduceAdd]
  refine lx_val (by rfl) (.string ⟨a.toArray⟩) (fun X hX hF => by rfl) ?_
  simp only [Act.put, List.setIfInBounds_toArray, List.set_cons_succ, List.set_cons_zero]
  refine lx_call (by rfl) 32 _ _ (by rfl) (.string ⟨(txt (val a)).toArray⟩) [.string ⟨a.toArray⟩] (by rfl) (by kernel_rfl) (fun _ => by go_simp) (fun X hX hF => (ntextC a X (by first | omega | decide)).mono fun e X' ⟨h1, h2⟩ => ⟨by rw [h1], h2⟩) ?_
  simp only [Act.put, List.setIfInBounds_toArray, List.set_cons_succ, List.set_cons_zero]
  refine lx_val (by rfl) (.string ⟨b.toArray⟩) (fun X hX hF => by rfl) ?_
  simp only [Act.put, List.setIfInBounds_toArray, List.set_cons_succ, List.set_cons_zero]
  refine lx_call (by rfl) 32 _ _ (by rfl) (.string ⟨(txt (val b)).toArray⟩) [.string ⟨b.toArray⟩] (by rfl) (by kernel_rfl) (fun _ => by go_simp) (fun X hX hF => (ntextC b X (by first | omega | decide)).mono fun e X' ⟨h1, h2⟩ => ⟨by rw [h1], h2⟩) ?_
  simp only [Act.put, List.setIfInBounds_toArray, List.set_cons_succ, List.set_cons_zero]
  refine lx_val (by rfl) (.string ⟨(txt (val a)).toArray⟩) (fun X hX hF => by rfl) ?_
  simp only [Act.put, List.setIfInBounds_toArray, List.set_cons_succ, List.set_cons_zero]
  refine lx_val (by rfl) (.string ⟨(txt (val b)).toArray⟩) (fun X hX hF => by rfl) ?_
  simp only [Act.put, List.setIfInBounds_toArray, List.set_cons_succ, List.set_cons_zero]
  refine lx_nil ?_
  intro X2 hX2 hF
  have hb := bel_next hb hX2
  clear hF hX2
  go_upto_region 4 with (fail)
  refine lx_plain [] (lasts_nil) ?_
  simp only [its, Nat.zero_add, Nat.reduceAdd]
  refine lx_val (by rfl) (.string ⟨(txt (val a)).toArray⟩) (fun X hX hF => by rfl) ?_
  simp only [Act.put, List.setIfInBounds_toArray, List.set_cons_succ, List.set_cons_zero]
  refine lx_call (by rfl) 28 _ _ (by rfl) (.tuple #[.string ⟨(be (val a)).toArray⟩, .int .i64 0]) [.string ⟨(txt (val a)).toArray⟩] (by rfl) (by kernel_rfl) (fun _ => by go_simp) (fun X hX hF => (nparseC (txt (val a)) X (by omega)).mono fun e X' ⟨h1, h2⟩ => ⟨by rw [h1, parV_t (pok_txt _), dval_txt], h2⟩) ?_
  simp only [Act.put, List.setIfInBounds_toArray, List.set_cons_succ, List.set_cons_zero]
  refine lx_val (by rfl) (.tuple #[.string ⟨(be (val a)).toArray⟩, .int .i64 0]) (fun X hX hF => by rfl) ?_
  simp only [Act.put, List.setIfInBounds_toArray, List.set_cons_succ, List.set_cons_zero]
  refine lx_val (by rfl) (.string ⟨(be (val a)).toArray⟩) (fun X hX hF => by rfl) ?_
  simp only [Act.put, List.setIfInBounds_toArray, List.set_cons_succ, List.set_cons_zero]
  refine lx_val (by rfl) (.int .i64 0) (fun X hX hF => by rfl) ?_
  simp only [Act.put, List.setIfInBounds_toArray, List.set_cons_succ, List.set_cons_zero]
  refine lx_val (by rfl) (.string ⟨(be (val a)).toArray⟩) (fun X hX hF => by rfl) ?_
  simp only [Act.put, List.setIfInBounds_toArray, List.set_cons_succ, List.set_cons_zero]
  refine lx_val (by rfl) (.int .i64 0) (fun X hX hF => by rfl) ?_
  simp only [Act.put, List.setIfInBounds_toArray, List.set_cons_succ, List.set_cons_zero]
  refine lx_nil ?_
  intro X3 hX3 hF
  have hb := bel_next hb hX3
  clear hF hX3
  go_upto_region 5 with (fail)
  refine lx_plain [] (lasts_nil) ?_
  simp only [its, Nat.zero_add, Nat.reduceAdd]
  refine lx_val (by rfl) (.string ⟨(txt (val a)).toArray⟩) (fun X hX hF => by rfl) ?_
  simp only [Act.put, List.setIfInBounds_toArray, List.set_cons_succ, List.set_cons_zero]
  refine lx_val (by rfl) (.int .i64 ((txt (val a)).length : Int)) (fun X hX hF => exec_lens Tryd.underlying9 _ (by rfl) (txt (val a)) (by rfl) _ rfl X) ?_
  simp only [Act.put, List.setIfInBounds_toArray, List.set_cons_succ, List.set_cons_zero]
  refine lx_val (by rfl) (.string ⟨(txt (val b)).toArray⟩) (fun X hX hF => by rfl) ?_
  simp only [Act.put, List.setIfInBounds_toArray, List.set_cons_succ, List.set_cons_zero]
  refine lx_val (by rfl) (.int .i64 ((txt (val b)).length : Int)) (fun X hX hF => exec_lens Tryd.underlying9 _ (by rfl) (txt (val b)) (by rfl) _ rfl X) ?_
  simp only [Act.put, List.setIfInBounds_toArray, List.set_cons_succ, List.set_cons_zero]
  refine lx_val (by rfl) (.bool true) (fun X hX hF => exec_lss _ _ _ _ (by rfl) .i64 ((txt (val a)).length : Int) ((txt (val b)).length : Int) (by rfl) (by rfl) true (decide_eq_true (by omega)) X) ?_
  simp only [Act.put, List.setIfInBounds_toArray, List.set_cons_succ, List.set_cons_zero]
  refine lx_val (by rfl) (.bool true) (fun X hX hF => by rfl) ?_
  simp only [Act.put, List.setIfInBounds_toArray, List.set_cons_succ, List.set_cons_zero]
  refine lx_skip (by rfl) ?_
  simp only [Act.put, List.setIfInBounds_toArray, List.set_cons_succ, List.set_cons_zero]
  refine lx_skip (by rfl) ?_
  simp only [Act.put, List.setIfInBounds_toArray, List.set_cons_succ, List.set_cons_zero]
  refine lx_skip (by rfl) ?_
  simp only [Act.put, List.setIfInBounds_toArray, List.set_cons_succ, List.set_cons_zero]
  refine lx_skip (by rfl) ?_
  simp only [Act.put, List.setIfInBounds_toArray, List.set_cons_succ, List.set_cons_zero]
  refine lx_skip (by rfl) ?_
  simp only [Act.put, List.setIfInBounds_toArray, List.set_cons_succ, List.set_cons_zero]
  refine lx_skip (by rfl) ?_
  simp only [Act.put, List.setIfInBounds_toArray, List.set_cons_succ, List.set_cons_zero]
  refine lx_skip (by rfl) ?_
  simp only [Act.put, List.setIfInBounds_toArray, List.set_cons_succ, List.set_cons_zero]
  refine lx_skip (by rfl) ?_
  simp only [Act.put, List.setIfInBounds_toArray, List.set_cons_succ, List.set_cons_zero]
  refine lx_skip (by rfl) ?_
  simp only [Act.put, List.setIfInBounds_toArray, List.set_cons_succ, List.set_cons_zero]
  refine lx_skip (by rfl) ?_
  simp only [Act.put, List.setIfInBounds_toArray, List.set_cons_succ, List.set_cons_zero]
  refine lx_val (by rfl) (.bool true) (fun X hX hF => by rfl) ?_
  simp only [Act.put, List.setIfInBounds_toArray, List.set_cons_succ, List.set_cons_zero]
  refine lx_val (by rfl) (.bool true) (fun X hX hF => by rfl) ?_
  simp only [Act.put, List.setIfInBounds_toArray, List.set_cons_succ, List.set_cons_zero]
  refine lx_nil ?_
  intro X4 hX4 hF
  have hb := bel_next hb hX4
  clear hF hX4
  go_upto_region 6 with (fail)
  refine lx_plain [] (lasts_nil) ?_
  simp only [its, Nat.zero_add, Nat.reduceAdd]
  refine lx_call (by rfl) 9 _ _ (by rfl) (.bool true) [] (by rfl) (by kernel_rfl) (fun _ => by go_simp) (fun X hX hF => sanityC X) ?_
  simp only [Act.put, List.setIfInBounds_toArray, List.set_cons_succ, List.set_cons_zero]
  refine lx_val (by rfl) (.bool true) (fun X hX hF => by rfl) ?_
  simp only [Act.put, List.setIfInBounds_toArray, List.set_cons_succ, List.set_cons_zero]
  refine lx_val (by rfl) (.int .i64 0) (fun X hX hF => by rfl) ?_
  simp only [Act.put, List.setIfInBounds_toArray, List.set_cons_succ, List.set_cons_zero]
  refine lx_val (by rfl) (.bool true) (fun X hX hF => exec_eqi _ _ _ _ (by rfl) .i64 0 0 (by rfl) (by rfl) true (decide_eq_true (by omega)) X) ?_
  simp only [Act.put, List.setIfInBounds_toArray, List.set_cons_succ, List.set_cons_zero]
  refine lx_val (by rfl) (.bool true) (fun X hX hF => by rfl) ?_
  simp only [Act.put, List.setIfInBounds_toArray, List.set_cons_succ, List.set_cons_zero]
  refine lx_val (by rfl) (.bool true) (fun X hX hF => by rfl) ?_
  simp only [Act.put, List.setIfInBounds_toArray, List.set_cons_succ, List.set_cons_zero]
  refine lx_val (by rfl) (.string ⟨(be (val a)).toArray⟩) (fun X hX hF => by rfl) ?_
  simp only [Act.put, List.setIfInBounds_toArray, List.set_cons_succ, List.set_cons_zero]
  refine lx_val (by rfl) (.string ⟨a.toArray⟩) (fun X hX hF => by rfl) ?_
  simp only [Act.put, List.setIfInBounds_toArray, List.set_cons_succ, List.set_cons_zero]
  refine lx_call (by rfl) 16 _ _ (by rfl) (.string ⟨(be (val a)).toArray⟩) [.string ⟨a.toArray⟩] (by rfl) (by kernel_rfl) (fun _ => by go_simp) (fun X hX hF => (cleanC a X ).mono fun e X' ⟨h1, h2⟩ => ⟨by rw [h1], since_eq h2⟩) ?_
  simp only [Act.put, List.setIfInBounds_toArray, List.set_cons_succ, List.set_cons_zero]
  refine lx_val (by rfl) (.bool true) (fun X hX hF => exec_eqsB _ _ _ _ (by rfl) (be (val a)) (be (val a)) (by rfl) (by rfl) true (eqs_t rfl) X) ?_
  simp only [Act.put, List.setIfInBounds_toArray, List.set_cons_succ, List.set_cons_zero]
  refine lx_val (by rfl) (.bool true) (fun X hX hF => by rfl) ?_
  simp only [Act.put, List.setIfInBounds_toArray, List.set_cons_succ, List.set_cons_zero]
  refine lx_val (by rfl) (.bool true) (fun X hX hF => by rfl) ?_
  simp only [Act.put, List.setIfInBounds_toArray, List.set_cons_succ, List.set_cons_zero]
  refine lx_val (by rfl) (.bool true) (fun X hX hF => by rfl) ?_
  simp only [Act.put, List.setIfInBounds_toArray, List.set_cons_succ, List.set_cons_zero]
  refine lx_val (by rfl) (.string ⟨a.toArray⟩) (fun X hX hF => by rfl) ?_
  simp only [Act.put, List.setIfInBounds_toArray, List.set_cons_succ, List.set_cons_zero]
  refine lx_val (by rfl) (.string ⟨b.toArray⟩) (fun X hX hF => by rfl) ?_
  simp only [Act.put, List.setIfInBounds_toArray, List.set_cons_succ, List.set_cons_zero]
  refine lx_call (by rfl) 18 _ _ (by rfl) (.int .i64 (cmpI (((val a) : Nat) : Int) (((val b) : Nat) : Int))) [.string ⟨a.toArray⟩, .string ⟨b.toArray⟩] (by rfl) (by kernel_rfl) (fun _ => by go_simp) (fun X hX hF => (ncmpC a b X (by first | omega | decide) (by first | omega | decide)).mono fun e X' ⟨h1, h2⟩ => ⟨by rw [h1], h2⟩) ?_
  simp only [Act.put, List.setIfInBounds_toArray, List.set_cons_succ, List.set_cons_zero]
  refine lx_val (by rfl) (.bool true) (fun X hX hF => exec_lss _ _ _ _ (by rfl) .i64 (cmpI (((val a) : Nat) : Int) (((val b) : Nat) : Int)) 0 (by rfl) (by rfl) true (by rw [cmpI_lt (by omega)]; rfl) X) ?_
  simp only [Act.put, List.setIfInBounds_toArray, List.set_cons_succ, List.set_cons_zero]
  refine lx_val (by rfl) (.bool true) (fun X hX hF => by rfl) ?_
  simp only [Act.put, List.setIfInBounds_toArray, List.set_cons_succ, List.set_cons_zero]
  refine lx_val (by rfl) (.bool true) (fun X hX hF => by rfl) ?_
  simp only [Act.put, List.setIfInBounds_toArray, List.set_cons_succ, List.set_cons_zero]
  refine lx_val (by rfl) (.bool true) (fun X hX hF => by rfl) ?_
  simp only [Act.put, List.setIfInBounds_toArray, List.set_cons_succ, List.set_cons_zero]
  refine lx_nil ?_
  intro X5 hX5 hF
  have hb := bel_next hb hX5
  clear hF hX5
  go_wp2
  go_ret
  exact ⟨rfl, hb⟩

set_option maxRecDepth 100000 in
set_option maxHeartbeats 1600000 in
theorem same1 (a b : List UInt8) (w : World) (ha : a.length ≤ 100) (hb0 : b.length ≤ 100) (h : (txt (val a)).length = (txt (val b)).length) (hlt : val a < val b) : Calls Tryd.prog 8 #[.string ⟨a.toArray⟩, .string ⟨b.toArray⟩] w fun e w' => e = .returned (.bool true) ∧ Since w w' := by
  have lta := txt_bytes (m := 100) (by omega) ha
  have ltb := txt_bytes (m := 100) (by omega) hb0
  have HBL : Hid (Op.bytesLess (txt (val a)) (txt (val b)) = true) := by show _ = _; rw [txt_less h]; exact decide_eq_true hlt
  have h9 : (txt (val a)).length ≤ (txt (val b)).length ∧ (txt (val b)).length ≤ (txt (val a)).length := by omega
  clear h
  go_enter Tryd.func8, Tryd.ntmps8
  go_upto_region 1 with (fail)
  refine lx_plain [] (lasts_nil) ?_
  simp only [its, Nat.zero_add, Nat.reduceAdd]
  refine lx_val (by rfl) (.string ⟨a.toArray⟩) (fun X hX hF => by rfl) ?_
  simp only [Act.put, List.setIfInBounds_toArray, List.set_cons_succ, List.set_cons_zero]
  refine lx_val (by rfl) (.int .i64 (a.length : Int)) (fun X hX hF => exec_lens Tryd.underlying9 _ (by rfl) a (by rfl) _ rfl X) ?_
  simp only [Act.put, List.setIfInBounds_toArray, List.set_cons_succ, List.set_cons_zero]
  refine lx_val (by rfl) (.bool false) (fun X hX hF => exec_gtr _ _ _ _ (by rfl) .i64 (a.length : Int) 100 (by rfl) (by rfl) false (decide_eq_false (by omega)) X) ?_
  simp only [Act.put, List.setIfInBounds_toArray, List.set_cons_succ, List.set_cons_zero]
  refine lx_val (by rfl) (.bool false) (fun X hX hF => by rfl) ?_
  simp only [Act.put, List.setIfInBounds_toArray, List.set_cons_succ, List.set_cons_zero]
  refine lx_val (by rfl) (.string ⟨b.toArray⟩) (fun X hX hF => by rfl) ?_
  simp only [Act.put, List.setIfInBounds_toArray, List.set_cons_succ, List.set_cons_zero]
  refine lx_val (by rfl) (.int .i64 (b.length : Int)) (fun X hX hF => exec_lens Tryd.underlying9 _ (by rfl) b (by rfl) _ rfl X) ?_
  simp only [Act.put, List.setIfInBounds_toArray, List.set_cons_succ, List.set_cons_zero]
  refine lx_val (by rfl) (.bool false) (fun X hX hF => exec_gtr _ _ _ _ (by rfl) .i64 (b.length : Int) 100 (by rfl) (by rfl) false (decide_eq_false (by omega)) X) ?_
  simp only [Act.put, List.setIfInBounds_toArray, List.set_cons_succ, List.set_cons_zero]
  refine lx_val (by rfl) (.bool false) (fun X hX hF => by rfl) ?_
  simp only [Act.put, List.setIfInBounds_toArray, List.set_cons_succ, List.set_cons_zero]
  refine lx_nil ?_
  intro X1 hX1 hF
  have hb : Below w.heap.size w X1 := hX1
  clear hF hX1
  go_upto_region 3 with (fail)
  refine lx_plain [] (lasts_nil) ?_
  simp only [its, Nat.zero_add, Nat.reduceAdd]
  refine lx_val (by rfl) (.string ⟨a.toArray⟩) (fun X hX hF => by rfl) ?_
  simp only [Act.put, List.setIfInBounds_toArray, List.set_cons_succ, List.set_cons_zero]
  refine lx_call (by rfl) 32 _ _ (by rfl) (.string ⟨(txt (val a)).toArray⟩) [.string ⟨a.toArray⟩] (by rfl) (by kernel_rfl) (fun _ => by go_simp) (fun X hX hF => (ntextC a X (by first | omega | decide)).mono fun e X' ⟨h1, h2⟩ => ⟨by rw [h1], h2⟩) ?_
  simp only [Act.put, List.setIfInBounds_toArray, List.set_cons_succ, List.set_cons_zero]
  refine lx_val (by rfl) (.string ⟨b.toArray⟩) (fun X hX hF => by rfl) ?_
  simp only [Act.put, List.setIfInBounds_toArray, List.set_cons_succ, List.set_cons_zero]
  refine lx_call (by rfl) 32 _ _ (by rfl) (.string ⟨(txt (val b)).toArray⟩) [.string ⟨b.toArray⟩] (by rfl) (by kernel_rfl) (fun _ => by go_simp) (fun X hX hF => (ntextC b X (by first | omega | decide)).mono fun e X' ⟨h1, h2⟩ => ⟨by rw [h1], h2⟩) ?_
  simp only [Act.put, List.setIfInBounds_toArray, List.set_cons_succ, List.set_cons_zero]
  refine lx_val (by rfl) (.string ⟨(txt (val a)).toArray⟩) (fun X hX hF => by rfl) ?_
  simp only [Act.put, List.setIfInBounds_toArray, List.set_cons_succ, List.set_cons_zero]
  refine lx_val (by rfl) (.string ⟨(txt (val b)).toArray⟩) (fun X hX hF => by rfl) ?_
  simp only [Act.put, List.setIfInBounds_toArray, List.set_cons_succ, List.set_cons_zero]
  refine lx_nil ?_
  intro X2 hX2 hF
  have hb := bel_next hb hX2
  clear hF hX2
  go_upto_region 4 with (fail)
  refine lx_plain [] (lasts_nil) ?_
  simp only [its, Nat.zero_add, Nat.reduceAdd]
  refine lx_val (by rfl) (.string ⟨(txt (val a)).toArray⟩) (fun X hX hF => by rfl) ?_
  simp only [Act.put, List.setIfInBounds_toArray, List.set_cons_succ, List.set_cons_zero]
  refine lx_call (by rfl) 28 _ _ (by rfl) (.tuple #[.string ⟨(be (val a)).toArray⟩, .int .i64 0]) [.string ⟨(txt (val a)).toArray⟩] (by rfl) (by kernel_rfl) (fun _ => by go_simp) (fun X hX hF => (nparseC (txt (val a)) X (by omega)).mono fun e X' ⟨h1, h2⟩ => ⟨by rw [h1, parV_t (pok_txt _), dval_txt], h2⟩) ?_
  simp only [Act.put, List.setIfInBounds_toArray, List.set_cons_succ, List.set_cons_zero]
  refine lx_val (by rfl) (.tuple #[.string ⟨(be (val a)).toArray⟩, .int .i64 0]) (fun X hX hF => by rfl) ?_
  simp only [Act.put, List.setIfInBounds_toArray, List.set_cons_succ, List.set_cons_zero]
  refine lx_val (by rfl) (.string ⟨(be (val a)).toArray⟩) (fun X hX hF => by rfl) ?_
  simp only [Act.put, List.setIfInBounds_toArray, List.set_cons_succ, List.set_cons_zero]
  refine lx_val (by rfl) (.int .i64 0) (fun X hX hF => by rfl) ?_
  simp only [Act.put, List.setIfInBounds_toArray, List.set_cons_succ, List.set_cons_zero]
  refine lx_val (by rfl) (.string ⟨(be (val a)).toArray⟩) (fun X hX hF => by rfl) ?_
  simp only [Act.put, List.setIfInBounds_toArray, List.set_cons_succ, List.set_cons_zero]
  refine lx_val (by rfl) (.int .i64 0) (fun X hX hF => by rfl) ?_
  simp only [Act.put, List.setIfInBounds_toArray, List.set_cons_succ, List.set_cons_zero]
  refine lx_nil ?_
  intro X3 hX3 hF
  have hb := bel_next hb hX3
  clear hF hX3
  go_upto_region 5 with (fail)
  refine lx_plain [] (lasts_nil) ?_
  simp only [its, Nat.zero_add, Nat.reduceAdd]
  refine lx_val (by rfl) (.string ⟨(txt (val a)).toArray⟩) (fun X hX hF => by rfl) ?_
  simp only [Act.put, List.setIfInBounds_toArray, List.set_cons_succ, List.set_cons_zero]
  refine lx_val (by rfl) (.int .i64 ((txt (val a)).length : Int)) (fun X hX hF => exec_lens Tryd.underlying9 _ (by rfl) (txt (val a)) (by rfl) _ rfl X) ?_
  simp only [Act.put, List.setIfInBounds_toArray, List.set_cons_succ, List.set_cons_zero]
  refine lx_val (by rfl) (.string ⟨(txt (val b)).toArray⟩) (fun X hX hF => by rfl) ?_
  simp only [Act.put, List.setIfInBounds_toArray, List.set_cons_succ, List.set_cons_zero]
  refine lx_val (by rfl) (.int .i64 ((txt (val b)).length : Int)) (fun X hX hF => exec_lens Tryd.underlying9 _ (by rfl) (txt (val b)) (by rfl) _ rfl X) ?_
  simp only [Act.put, List.setIfInBounds_toArray, List.set_cons_succ, List.set_cons_zero]
  refine lx_val (by rfl) (.bool false) (fun X hX hF => exec_lss _ _ _ _ (by rfl) .i64 ((txt (val a)).length : Int) ((txt (val b)).length : Int) (by rfl) (by rfl) false (decide_eq_false (by omega)) X) ?_
  simp only [Act.put, List.setIfInBounds_toArray, List.set_cons_succ, List.set_cons_zero]
  refine lx_val (by rfl) (.bool false) (fun X hX hF => by rfl) ?_
  simp only [Act.put, List.setIfInBounds_toArray, List.set_cons_succ, List.set_cons_zero]
  refine lx_val (by rfl) (.string ⟨(txt (val a)).toArray⟩) (fun X hX hF => by rfl) ?_
  simp only [Act.put, List.setIfInBounds_toArray, List.set_cons_succ, List.set_cons_zero]
  refine lx_val (by rfl) (.int .i64 ((txt (val a)).length : Int)) (fun X hX hF => exec_lens Tryd.underlying9 _ (by rfl) (txt (val a)) (by rfl) _ rfl X) ?_
  simp only [Act.put, List.setIfInBounds_toArray, List.set_cons_succ, List.set_cons_zero]
  refine lx_val (by rfl) (.string ⟨(txt (val b)).toArray⟩) (fun X hX hF => by rfl) ?_
  simp only [Act.put, List.setIfInBounds_toArray, List.set_cons_succ, List.set_cons_zero]
  refine lx_val (by rfl) (.int .i64 ((txt (val b)).length : Int)) (fun X hX hF => exec_lens Tryd.underlying9 _ (by rfl) (txt (val b)) (by rfl) _ rfl X) ?_
  simp only [Act.put, List.setIfInBounds_toArray, List.set_cons_succ, List.set_cons_zero]
  refine lx_val (by rfl) (.bool true) (fun X hX hF => exec_eqi _ _ _ _ (by rfl) .i64 ((txt (val a)).length : Int) ((txt (val b)).length : Int) (by rfl) (by rfl) true (decide_eq_true (by omega)) X) ?_
  simp only [Act.put, List.setIfInBounds_toArray, List.set_cons_succ, List.set_cons_zero]
  refine lx_val (by rfl) (.bool true) (fun X hX hF => by rfl) ?_
  simp only [Act.put, List.setIfInBounds_toArray, List.set_cons_succ, List.set_cons_zero]
  refine lx_val (by rfl) (.string ⟨(txt (val a)).toArray⟩) (fun X hX hF => by rfl) ?_
  simp only [Act.put, List.setIfInBounds_toArray, List.set_cons_succ, List.set_cons_zero]
  refine lx_val (by rfl) (.string ⟨(txt (val b)).toArray⟩) (fun X hX hF => by rfl) ?_
  simp only [Act.put, List.setIfInBounds_toArray, List.set_cons_succ, List.set_cons_zero]
  refine lx_val (by rfl) (.bool true) (fun X hX hF => exec_lssB _ _ _ _ (by rfl) (txt (val a)) (txt (val b)) (by rfl) (by rfl) true HBL.out X) ?_
  simp only [Act.put, List.setIfInBounds_toArray, List.set_cons_succ, List.set_cons_zero]
  refine lx_val (by rfl) (.bool true) (fun X hX hF => by rfl) ?_
  simp only [Act.put, List.setIfInBounds_toArray, List.set_cons_succ, List.set_cons_zero]
  refine lx_val (by rfl) (.bool true) (fun X hX hF => by rfl) ?_
  simp only [Act.put, List.setIfInBounds_toArray, List.set_cons_succ, List.set_cons_zero]
  refine lx_val (by rfl) (.bool true) (fun X hX hF => by rfl) ?_
  simp only [Act.put, List.setIfInBounds_toArray, List.set_cons_succ, List.set_cons_zero]
  refine lx_nil ?_
  intro X4 hX4 hF
  have hb := bel_next hb hX4
  clear hF hX4
  go_upto_region 6 with (fail)
  refine lx_plain [] (lasts_nil) ?_
  simp only [its, Nat.zero_add, Nat.reduceAdd]
  refine lx_call (by rfl) 9 _ _ (by rfl) (.bool true) [] (by rfl) (by kernel_rfl) (fun _ => by go_simp) (fun X hX hF => sanityC X) ?_
  simp only [Act.put, List.setIfInBounds_toArray, List.set_cons_succ, List.set_cons_zero]
  refine lx_val (by rfl) (.bool true) (fun X hX hF => by rfl) ?_
  simp only [Act.put, List.setIfInBounds_toArray, List.set_cons_succ, List.set_cons_zero]
  refine lx_val (by rfl) (.int .i64 0) (fun X hX hF => by rfl) ?_
  simp only [Act.put, List.setIfInBounds_toArray, List.set_cons_succ, List.set_cons_zero]
  refine lx_val (by rfl) (.bool true) (fun X hX hF => exec_eqi _ _ _ _ (by rfl) .i64 0 0 (by rfl) (by rfl) true (decide_eq_true (by omega)) X) ?_
  simp only [Act.put, List.setIfInBounds_toArray, List.set_cons_succ, List.set_cons_zero]
  refine lx_val (by rfl) (.bool true) (fun X hX hF => by rfl) ?_
  simp only [Act.put, List.setIfInBounds_toArray, List.set_cons_succ, List.set_cons_zero]
  refine lx_val (by rfl) (.bool true) (fun X hX hF => by rfl) ?_
  simp only [Act.put, List.setIfInBounds_toArray, List.set_cons_succ, List.set_cons_zero]
  refine lx_val (by rfl) (.string ⟨(be (val a)).toArray⟩) (fun X hX hF => by rfl) ?_
  simp only [Act.put, List.setIfInBounds_toArray, List.set_cons_succ, List.set_cons_zero]
  refine lx_val (by rfl) (.string ⟨a.toArray⟩) (fun X hX hF => by rfl) ?_
  simp only [Act.put, List.setIfInBounds_toArray, List.set_cons_succ, List.set_cons_zero]
  refine lx_call (by rfl) 16 _ _ (by rfl) (.string ⟨(be (val a)).toArray⟩) [.string ⟨a.toArray⟩] (by rfl) (by kernel_rfl) (fun _ => by go_simp) (fun X hX hF => (cleanC a X ).mono fun e X' ⟨h1, h2⟩ => ⟨by rw [h1], since_eq h2⟩) ?_
  simp only [Act.put, List.setIfInBounds_toArray, List.set_cons_succ, List.set_cons_zero]
  refine lx_val (by rfl) (.bool true) (fun X hX hF => exec_eqsB _ _ _ _ (by rfl) (be (val a)) (be (val a)) (by rfl) (by rfl) true (eqs_t rfl) X) ?_
  simp only [Act.put, List.setIfInBounds_toArray, List.set_cons_succ, List.set_cons_zero]
  refine lx_val (by rfl) (.bool true) (fun X hX hF => by rfl) ?_
  simp only [Act.put, List.setIfInBounds_toArray, List.set_cons_succ, List.set_cons_zero]
  refine lx_val (by rfl) (.bool true) (fun X hX hF => by rfl) ?_
  simp only [Act.put, List.setIfInBounds_toArray, List.set_cons_succ, List.set_cons_zero]
  refine lx_val (by rfl) (.bool true) (fun X hX hF => by rfl) ?_
  simp only [Act.put, List.setIfInBounds_toArray, List.set_cons_succ, List.set_cons_zero]
  refine lx_val (by rfl) (.string ⟨a.toArray⟩) (fun X hX hF => by rfl) ?_
  simp only [Act.put, List.setIfInBounds_toArray, List.set_cons_succ, List.set_cons_zero]
  refine lx_val (by rfl) (.string ⟨b.toArray⟩) (fun X hX hF => by rfl) ?_
  simp only [Act.put, List.setIfInBounds_toArray, List.set_cons_succ, List.set_cons_zero]
  refine lx_call (by rfl) 18 _ _ (by rfl) (.int .i64 (cmpI (((val a) : Nat) : Int) (((val b) : Nat) : Int))) [.string ⟨a.toArray⟩, .string ⟨b.toArray⟩] (by rfl) (by kernel_rfl) (fun _ => by go_simp) (fun X hX hF => (ncmpC a b X (by first | omega | decide) (by first | omega | decide)).mono fun e X' ⟨h1, h2⟩ => ⟨by rw [h1], h2⟩) ?_
  simp only [Act.put, List.setIfInBounds_toArray, List.set_cons_succ, List.set_cons_zero]
  refine lx_val (by rfl) (.bool true) (fun X hX hF => exec_lss _ _ _ _ (by rfl) .i64 (cmpI (((val a) : Nat) : Int) (((val b) : Nat) : Int)) 0 (by rfl) (by rfl) true (by rw [cmpI_lt (by omega)]; rfl) X) ?_
  simp only [Act.put, List.setIfInBounds_toArray, List.set_cons_succ, List.set_cons_zero]
  refine lx_val (by rfl) (.bool true) (fun X hX hF => by rfl) ?_
  simp only [Act.put, List.setIfInBounds_toArray, List.set_cons_succ, List.set_cons_zero]
  refine lx_val (by rfl) (.bool true) (fun X hX hF => by rfl) ?_
  simp only [Act.put, List.setIfInBounds_toArray, List.set_cons_succ, List.set_cons_zero]
  refine lx_val (by rfl) (.bool true) (fun X hX hF => by rfl) ?_
  simp only [Act.put, List.setIfInBounds_toArray, List.set_cons_succ, List.set_cons_zero]
  refine lx_nil ?_
  intro X5 hX5 hF
  have hb := bel_next hb hX5
  clear hF hX5
  go_wp2
  go_ret
  exact ⟨rfl, hb⟩

set_option maxRecDepth 100000 in
set_option maxHeartbeats 1600000 in
theorem same2 (a b : List UInt8) (w : World) (ha : a.length ≤ 100) (hb0 : b.length ≤ 100) (h : (txt (val a)).length = (txt (val b)).length) (hge : val b ≤ val a) : Calls Tryd.prog 8 #[.string ⟨a.toArray⟩, .string ⟨b.toArray⟩] w fun e w' => e = .returned (.bool true) ∧ Since w w' := by
  have lta := txt_bytes (m := 100) (by omega) ha
  have ltb := txt_bytes (m := 100) (by omega) hb0
  have HBL : Hid (Op.bytesLess (txt (val a)) (txt (val b)) = false) := by show _ = _; rw [txt_less h]; exact decide_eq_false (by omega)
  have h9 : (txt (val a)).length ≤ (txt (val b)).length ∧ (txt (val b)).length ≤ (txt (val a)).length := by omega
  clear h
  go_enter Tryd.func8, Tryd.ntmps8
  go_upto_region 1 with (fail)
  refine lx_plain [] (lasts_nil) ?_
  simp only [its, Nat.zero_add, Nat.reduceAdd]
  refine lx_val (by rfl) (.string ⟨a.toArray⟩) (fun X hX hF => by rfl) ?_
  simp only [Act.put, List.setIfInBounds_toArray, List.set_cons_succ, List.set_cons_zero]
  refine lx_val (by rfl) (.int .i64 (a.length : Int)) (fun X hX hF => exec_lens Tryd.underlying9 _ (by rfl) a (by rfl) _ rfl X) ?_
  simp only [Act.put, List.setIfInBounds_toArray, List.set_cons_succ, List.set_cons_zero]
  refine lx_val (by rfl) (.bool false) (fun X hX hF => exec_gtr _ _ _ _ (by rfl) .i64 (a.length : Int) 100 (by rfl) (by rfl) false (decide_eq_false (by omega)) X) ?_
  simp only [Act.put, List.setIfInBounds_toArray, List.set_cons_succ, List.set_cons_zero]
  refine lx_val (by rfl) (.bool false) (fun X hX hF => by rfl) ?_
  simp only [Act.put, List.setIfInBounds_toArray, List.set_cons_succ, List.set_cons_zero]
  refine lx_val (by rfl) (.string ⟨b.toArray⟩) (fun X hX hF => by rfl) ?_
  simp only [Act.put, List.setIfInBounds_toArray, List.set_cons_succ, List.set_cons_zero]
  refine lx_val (by rfl) (.int .i64 (b.length : Int)) (fun X hX hF => exec_lens Tryd.underlying9 _ (by rfl) b (by rfl) _ rfl X) ?_
  simp only [Act.put, List.setIfInBounds_toArray, List.set_cons_succ, List.set_cons_zero]
  refine lx_val (by rfl) (.bool false) (fun X hX hF => exec_gtr _ _ _ _ (by rfl) .i64 (b.length : Int) 100 (by rfl) (by rfl) false (decide_eq_false (by omega)) X) ?_
  simp only [Act.put, List.setIfInBounds_toArray, List.set_cons_succ, List.set_cons_zero]
  refine lx_val (by rfl) (.bool false) (fun X hX hF => by rfl) ?_
  simp only [Act.put, List.setIfInBounds_toArray, List.set_cons_succ, List.set_cons_zero]
  refine lx_nil ?_
  intro X1 hX1 hF
  have hb : Below w.heap.size w X1 := hX1
  clear hF hX1
  go_upto_region 3 with (fail)
  refine lx_plain [] (lasts_nil) ?_
  simp only [its, Nat.zero_add, Nat.reduceAdd]
  refine lx_val (by rfl) (.string ⟨a.toArray⟩) (fun X hX hF => by rfl) ?_
  simp only [Act.put, List.setIfInBounds_toArray, List.set_cons_succ, List.set_cons_zero]
  refine lx_call (by rfl) 32 _ _ (by rfl) (.string ⟨(txt (val a)).toArray⟩) [.string ⟨a.toArray⟩] (by rfl) (by kernel_rfl) (fun _ => by go_simp) (fun X hX hF => (ntextC a X (by first | omega | decide)).mono fun e X' ⟨h1, h2⟩ => ⟨by rw [h1], h2⟩) ?_
  simp only [Act.put, List.setIfInBounds_toArray, List.set_cons_succ, List.set_cons_zero]
  refine lx_val (by rfl) (.string ⟨b.toArray⟩) (fun X hX hF => by rfl) ?_
  simp only [Act.put, List.setIfInBounds_toArray, List.set_cons_succ, List.set_cons_zero]
  refine lx_call (by rfl) 32 _ _ (by rfl) (.string ⟨(txt (val b)).toArray⟩) [.string ⟨b.toArray⟩] (by rfl) (by kernel_rfl) (fun _ => by go_simp) (fun X hX hF => (ntextC b X (by first | omega | decide)).mono fun e X' ⟨h1, h2⟩ => ⟨by rw [h1], h2⟩) ?_
  simp only [Act.put, List.setIfInBounds_toArray, List.set_cons_succ, List.set_cons_zero]
  refine lx_val (by rfl) (.string ⟨(txt (val a)).toArray⟩) (fun X hX hF => by rfl) ?_
  simp only [Act.put, List.setIfInBounds_toArray, List.set_cons_succ, List.set_cons_zero]
  refine lx_val (by rfl) (.string ⟨(txt (val b)).toArray⟩) (fun X hX hF => by rfl) ?_
  simp only [Act.put, List.setIfInBounds_toArray, List.set_cons_succ, List.set_cons_zero]
  refine lx_nil ?_
  intro X2 hX2 hF
  have hb := bel_next hb hX2
  clear hF hX2
  go_upto_region 4 with (fail)
  refine lx_plain [] (lasts_nil) ?_
  simp only [its, Nat.zero_add, Nat.reduceAdd]
  refine lx_val (by rfl) (.string ⟨(txt (val a)).toArray⟩) (fun X hX hF => by rfl) ?_
  simp only [Act.put, List.setIfInBounds_toArray, List.set_cons_succ, List.set_cons_zero]
  refine lx_call (by rfl) 28 _ _ (by rfl) (.tuple #[.string ⟨(be (val a)).toArray⟩, .int .i64 0]) [.string ⟨(txt (val a)).toArray⟩] (by rfl) (by kernel_rfl) (fun _ => by go_simp) (fun X hX hF => (nparseC (txt (val a)) X (by omega)).mono fun e X' ⟨h1, h2⟩ => ⟨by rw [h1, parV_t (pok_txt _), dval_txt], h2⟩) ?_
  simp only [Act.put, List.setIfInBounds_toArray, List.set_cons_succ, List.set_cons_zero]
  refine lx_val (by rfl) (.tuple #[.string ⟨(be (val a)).toArray⟩, .int .i64 0]) (fun X hX hF => by rfl) ?_
  simp only [Act.put, List.setIfInBounds_toArray, List.set_cons_succ, List.set_cons_zero]
  refine lx_val (by rfl) (.string ⟨(be (val a)).toArray⟩) (fun X hX hF => by rfl) ?_
  simp only [Act.put, List.setIfInBounds_toArray, List.set_cons_succ, List.set_cons_zero]
  refine lx_val (by rfl) (.int .i64 0) (fun X hX hF => by rfl) ?_
  simp only [Act.put, List.setIfInBounds_toArray, List.set_cons_succ, List.set_cons_zero]
  refine lx_val (by rfl) (.string ⟨(be (val a)).toArray⟩) (fun X hX hF => by rfl) ?_
  simp only [Act.put, List.setIfInBounds_toArray, List.set_cons_succ, List.set_cons_zero]
  refine lx_val (by rfl) (.int .i64 0) (fun X hX hF => by rfl) ?_
  simp only [Act.put, List.setIfInBounds_toArray, List.set_cons_succ, List.set_cons_zero]
  refine lx_nil ?_
  intro X3 hX3 hF
  have hb := bel_next hb hX3
  clear hF hX3
  go_upto_region 5 with (fail)
  refine lx_plain [] (lasts_nil) ?_
  simp only [its, Nat.zero_add, Nat.reduceAdd]
  refine lx_val (by rfl) (.string ⟨(txt (val a)).toArray⟩) (fun X hX hF => by rfl) ?_
  simp only [Act.put, List.setIfInBounds_toArray, List.set_cons_succ, List.set_cons_zero]
  refine lx_val (by rfl) (.int .i64 ((txt (val a)).length : Int)) (fun X hX hF => exec_lens Tryd.underlying9 _ (by rfl) (txt (val a)) (by rfl) _ rfl X) ?_
  simp only [Act.put, List.setIfInBounds_toArray, List.set_cons_succ, List.set_cons_zero]
  refine lx_val (by rfl) (.string ⟨(txt (val b)).toArray⟩) (fun X hX hF => by rfl) ?_
  simp only [Act.put, List.setIfInBounds_toArray, List.set_cons_succ, List.set_cons_zero]
  refine lx_val (by rfl) (.int .i64 ((txt (val b)).length : Int)) (fun X hX hF => exec_lens Tryd.underlying9 _ (by rfl) (txt (val b)) (by rfl) _ rfl X) ?_
  simp only [Act.put, List.setIfInBounds_toArray, List.set_cons_succ, List.set_cons_zero]
  refine lx_val (by rfl) (.bool false) (fun X hX hF => exec_lss _ _ _ _ (by rfl) .i64 ((txt (val a)).length : Int) ((txt (val b)).length : Int) (by rfl) (by rfl) false (decide_eq_false (by omega)) X) ?_
  simp only [Act.put, List.setIfInBounds_toArray, List.set_cons_succ, List.set_cons_zero]
  refine lx_val (by rfl) (.bool false) (fun X hX hF => by rfl) ?_
  simp only [Act.put, List.setIfInBounds_toArray, List.set_cons_succ, List.set_cons_zero]
  refine lx_val (by rfl) (.string ⟨(txt (val a)).toArray⟩) (fun X hX hF => by rfl) ?_
  simp only [Act.put, List.setIfInBounds_toArray, List.set_cons_succ, List.set_cons_zero]
  refine lx_val (by rfl) (.int .i64 ((txt (val a)).length : Int)) (fun X hX hF => exec_lens Tryd.underlying9 _ (by rfl) (txt (val a)) (by rfl) _ rfl X) ?_
  simp only [Act.put, List.setIfInBounds_toArray, List.set_cons_succ, List.set_cons_zero]
  refine lx_val (by rfl) (.string ⟨(txt (val b)).toArray⟩) (fun X hX hF => by rfl) ?_
  simp only [Act.put, List.setIfInBounds_toArray, List.set_cons_succ, List.set_cons_zero]
  refine lx_val (by rfl) (.int .i64 ((txt (val b)).length : Int)) (fun X hX hF => exec_lens Tryd.underlying9 _ (by rfl) (txt (val b)) (by rfl) _ rfl X) ?_
  simp only [Act.put, List.setIfInBounds_toArray, List.set_cons_succ, List.set_cons_zero]
  refine lx_val (by rfl) (.bool true) (fun X hX hF => exec_eqi _ _ _ _ (by rfl) .i64 ((txt (val a)).length : Int) ((txt (val b)).length : Int) (by rfl) (by rfl) true (decide_eq_true (by omega)) X) ?_
  simp only [Act.put, List.setIfInBounds_toArray, List.set_cons_succ, List.set_cons_zero]
  refine lx_val (by rfl) (.bool true) (fun X hX hF => by rfl) ?_
  simp only [Act.put, List.setIfInBounds_toArray, List.set_cons_succ, List.set_cons_zero]
  refine lx_val (by rfl) (.string ⟨(txt (val a)).toArray⟩) (fun X hX hF => by rfl) ?_
  simp only [Act.put, List.setIfInBounds_toArray, List.set_cons_succ, List.set_cons_zero]
  refine lx_val (by rfl) (.string ⟨(txt (val b)).toArray⟩) (fun X hX hF => by rfl) ?_
  simp only [Act.put, List.setIfInBounds_toArray, List.set_cons_succ, List.set_cons_zero]
  refine lx_val (by rfl) (.bool false) (fun X hX hF => exec_lssB _ _ _ _ (by rfl) (txt (val a)) (txt (val b)) (by rfl) (by rfl) false HBL.out X) ?_
  simp only [Act.put, List.setIfInBounds_toArray, List.set_cons_succ, List.set_cons_zero]
  refine lx_val (by rfl) (.bool false) (fun X hX hF => by rfl) ?_
  simp only [Act.put, List.setIfInBounds_toArray, List.set_cons_succ, List.set_cons_zero]
  refine lx_val (by rfl) (.bool false) (fun X hX hF => by rfl) ?_
  simp only [Act.put, List.setIfInBounds_toArray, List.set_cons_succ, List.set_cons_zero]
  refine lx_val (by rfl) (.bool false) (fun X hX hF => by rfl) ?_
  simp only [Act.put, List.setIfInBounds_toArray, List.set_cons_succ, List.set_cons_zero]
  refine lx_nil ?_
  intro X4 hX4 hF
  have hb := bel_next hb hX4
  clear hF hX4
  go_upto_region 6 with (fail)
  refine lx_plain [] (lasts_nil) ?_
  simp only [its, Nat.zero_add, Nat.reduceAdd]
  refine lx_call (by rfl) 9 _ _ (by rfl) (.bool true) [] (by rfl) (by kernel_rfl) (fun _ => by go_simp) (fun X hX hF => sanityC X) ?_
  simp only [Act.put, List.setIfInBounds_toArray, List.set_cons_succ, List.set_cons_zero]
  refine lx_val (by rfl) (.bool true) (fun X hX hF => by rfl) ?_
  simp only [Act.put, List.setIfInBounds_toArray, List.set_cons_succ, List.set_cons_zero]
  refine lx_val (by rfl) (.int .i64 0) (fun X hX hF => by rfl) ?_
  simp only [Act.put, List.setIfInBounds_toArray, List.set_cons_succ, List.set_cons_zero]
  refine lx_val (by rfl) (.bool true) (fun X hX hF => exec_eqi _ _ _ _ (by rfl) .i64 0 0 (by rfl) (by rfl) true (decide_eq_true (by omega)) X) ?_
  simp only [Act.put, List.setIfInBounds_toArray, List.set_cons_succ, List.set_cons_zero]
  refine lx_val (by rfl) (.bool true) (fun X hX hF => by rfl) ?_
  simp only [Act.put, List.setIfInBounds_toArray, List.set_cons_succ, List.set_cons_zero]
  refine lx_val (by rfl) (.bool true) (fun X hX hF => by rfl) ?_
  simp only [Act.put, List.setIfInBounds_toArray, List.set_cons_succ, List.set_cons_zero]
  refine lx_val (by rfl) (.string ⟨(be (val a)).toArray⟩) (fun X hX hF => by rfl) ?_
  simp only [Act.put, List.setIfInBounds_toArray, List.set_cons_succ, List.set_cons_zero]
  refine lx_val (by rfl) (.string ⟨a.toArray⟩) (fun X hX hF => by rfl) ?_
  simp only [Act.put, List.setIfInBounds_toArray, List.set_cons_succ, List.set_cons_zero]
  refine lx_call (by rfl) 16 _ _ (by rfl) (.string ⟨(be (val a)).toArray⟩) [.string ⟨a.toArray⟩] (by rfl) (by kernel_rfl) (fun _ => by go_simp) (fun X hX hF => (cleanC a X ).mono fun e X' ⟨h1, h2⟩ => ⟨by rw [h1], since_eq h2⟩) ?_
  simp only [Act.put, List.setIfInBounds_toArray, List.set_cons_succ, List.set_cons_zero]
  refine lx_val (by rfl) (.bool true) (fun X hX hF => exec_eqsB _ _ _ _ (by rfl) (be (val a)) (be (val a)) (by rfl) (by rfl) true (eqs_t rfl) X) ?_
  simp only [Act.put, List.setIfInBounds_toArray, List.set_cons_succ, List.set_cons_zero]
  refine lx_val (by rfl) (.bool true) (fun X hX hF => by rfl) ?_
  simp only [Act.put, List.setIfInBounds_toArray, List.set_cons_succ, List.set_cons_zero]
  refine lx_val (by rfl) (.bool true) (fun X hX hF => by rfl) ?_
  simp only [Act.put, List.setIfInBounds_toArray, List.set_cons_succ, List.set_cons_zero]
  refine lx_val (by rfl) (.bool false) (fun X hX hF => by rfl) ?_
  simp only [Act.put, List.setIfInBounds_toArray, List.set_cons_succ, List.set_cons_zero]
  refine lx_val (by rfl) (.string ⟨a.toArray⟩) (fun X hX hF => by rfl) ?_
  simp only [Act.put, List.setIfInBounds_toArray, List.set_cons_succ, List.set_cons_zero]
  refine lx_val (by rfl) (.string ⟨b.toArray⟩) (fun X hX hF => by rfl) ?_
  simp only [Act.put, List.setIfInBounds_toArray, List.set_cons_succ, List.set_cons_zero]
  refine lx_call (by rfl) 18 _ _ (by rfl) (.int .i64 (cmpI (((val a) : Nat) : Int) (((val b) : Nat) : Int))) [.string ⟨a.toArray⟩, .string ⟨b.toArray⟩] (by rfl) (by kernel_rfl) (fun _ => by go_simp) (fun X hX hF => (ncmpC a b X (by first | omega | decide) (by first | omega | decide)).mono fun e X' ⟨h1, h2⟩ => ⟨by rw [h1], h2⟩) ?_
  simp only [Act.put, List.setIfInBounds_toArray, List.set_cons_succ, List.set_cons_zero]
  refine lx_val (by rfl) (.bool false) (fun X hX hF => exec_lss _ _ _ _ (by rfl) .i64 (cmpI (((val a) : Nat) : Int) (((val b) : Nat) : Int)) 0 (by rfl) (by rfl) false (decide_eq_false (by unfold cmpI; rw [if_neg (by omega)]; split <;> omega)) X) ?_
  simp only [Act.put, List.setIfInBounds_toArray, List.set_cons_succ, List.set_cons_zero]
  refine lx_val (by rfl) (.bool true) (fun X hX hF => by rfl) ?_
  simp only [Act.put, List.setIfInBounds_toArray, List.set_cons_succ, List.set_cons_zero]
  refine lx_val (by rfl) (.bool true) (fun X hX hF => by rfl) ?_
  simp only [Act.put, List.setIfInBounds_toArray, List.set_cons_succ, List.set_cons_zero]
  refine lx_val (by rfl) (.bool true) (fun X hX hF => by rfl) ?_
  simp only [Act.put, List.setIfInBounds_toArray, List.set_cons_succ, List.set_cons_zero]
  refine lx_nil ?_
  intro X5 hX5 hF
  have hb := bel_next hb hX5
  clear hF hX5
  go_wp2
  go_ret
  exact ⟨rfl, hb⟩

set_option maxRecDepth 100000 in
set_option maxHeartbeats 1600000 in
theorem longer (a b : List UInt8) (w : World) (ha : a.length ≤ 100) (hb0 : b.length ≤ 100) (h : (txt (val b)).length < (txt (val a)).length) : Calls Tryd.prog 8 #[.string ⟨a.toArray⟩, .string ⟨b.toArray⟩] w fun e w' => e = .returned (.bool true) ∧ Since w w' := by
  have lta := txt_bytes (m := 100) (by omega) ha
  have ltb := txt_bytes (m := 100) (by omega) hb0
  have hge : val b ≤ val a := by
    rcases Nat.lt_or_ge (val a) (val b) with h9 | h9
    · have := txt_mono (Nat.le_of_lt h9)
      omega
    · exact h9
  go_enter Tryd.func8, Tryd.ntmps8
  go_upto_region 1 with (fail)
  refine lx_plain [] (lasts_nil) ?_
  simp only [its, Nat.zero_add, Nat.reduceAdd]
  refine lx_val (by rfl) (.string ⟨a.toArray⟩) (fun X hX hF => by rfl) ?_
  simp only [Act.put, List.setIfInBounds_toArray, List.set_cons_succ, List.set_cons_zero]
  refine lx_val (by rfl) (.int .i64 (a.length : Int)) (fun X hX hF => exec_lens Tryd.underlying9 _ (by rfl) a (by rfl) _ rfl X) ?_
  simp only [Act.put, List.setIfInBounds_toArray, List.set_cons_succ, List.set_cons_zero]
  refine lx_val (by rfl) (.bool false) (fun X hX hF => exec_gtr _ _ _ _ (by rfl) .i64 (a.length : Int) 100 (by rfl) (by rfl) false (decide_eq_false (by omega)) X) ?_
  simp only [Act.put, List.setIfInBounds_toArray, List.set_cons_succ, List.set_cons_zero]
  refine lx_val (by rfl) (.bool false) (fun X hX hF => by rfl) ?_
  simp only [Act.put, List.setIfInBounds_toArray, List.set_cons_succ, List.set_cons_zero]
  refine lx_val (by rfl) (.string ⟨b.toArray⟩) (fun X hX hF => by rfl) ?_
  simp only [Act.put, List.setIfInBounds_toArray, List.set_cons_succ, List.set_cons_zero]
  refine lx_val (by rfl) (.int .i64 (b.length : Int)) (fun X hX hF => exec_lens Tryd.underlying9 _ (by rfl) b (by rfl) _ rfl X) ?_
  simp only [Act.put, List.setIfInBounds_toArray, List.set_cons_succ, List.set_cons_zero]
  refine lx_val (by rfl) (.bool false) (fun X hX hF => exec_gtr _ _ _ _ (by rfl) .i64 (b.length : Int) 100 (by rfl) (by rfl) false (decide_eq_false (by omega)) X) ?_
  simp only [Act.put, List.setIfInBounds_toArray, List.set_cons_succ, List.set_cons_zero]
  refine lx_val (by rfl) (.bool false) (fun X hX hF => by rfl) ?_
  simp only [Act.put, List.setIfInBounds_toArray, List.set_cons_succ, List.set_cons_zero]
  refine lx_nil ?_
  intro X1 hX1 hF
  have hb : Below w.heap.size w X1 := hX1
  clear hF hX1
  go_upto_region 3 with (fail)
  refine lx_plain [] (lasts_nil) ?_
  simp only [its, Nat.zero_add, Nat.reduceAdd]
  refine lx_val (by rfl) (.string ⟨a.toArray⟩) (fun X hX hF => by rfl) ?_
  simp only [Act.put, List.setIfInBounds_toArray, List.set_cons_succ, List.set_cons_zero]
  refine lx_call (by rfl) 32 _ _ (by rfl) (.string ⟨(txt (val a)).toArray⟩) [.string ⟨a.toArray⟩] (by rfl) (by kernel_rfl) (fun _ => by go_simp) (fun X hX hF => (ntextC a X (by first | omega | decide)).mono fun e X' ⟨h1, h2⟩ => ⟨by rw [h1], h2⟩) ?_
  simp only [Act.put, List.setIfInBounds_toArray, List.set_cons_succ, List.set_cons_zero]
  refine lx_val (by rfl) (.string ⟨b.toArray⟩) (fun X hX hF => by rfl) ?_
  simp only [Act.put, List.setIfInBounds_toArray, List.set_cons_succ, List.set_cons_zero]
  refine lx_call (by rfl) 32 _ _ (by rfl) (.string ⟨(txt (val b)).toArray⟩) [.string ⟨b.toArray⟩] (by rfl) (by kernel_rfl) (fun _ => by go_simp) (fun X hX hF => (ntextC b X (by first | omega | decide)).mono fun e X' ⟨h1, h2⟩ => ⟨by rw [h1], h2⟩) ?_
  simp only [Act.put, List.setIfInBounds_toArray, List.set_cons_succ, List.set_cons_zero]
  refine lx_val (by rfl) (.string ⟨(txt (val a)).toArray⟩) (fun X hX hF => by rfl) ?_
  simp only [Act.put, List.setIfInBounds_toArray, List.set_cons_succ, List.set_cons_zero]
  refine lx_val (by rfl) (.string ⟨(txt (val b)).toArray⟩) (fun X hX hF => by rfl) ?_
  simp only [Act.put, List.setIfInBounds_toArray, List.set_cons_succ, List.set_cons_zero]
  refine lx_nil ?_
  intro X2 hX2 hF
  have hb := bel_next hb hX2
  clear hF hX2
  go_upto_region 4 with (fail)
  refine lx_plain [] (lasts_nil) ?_
  simp only [its, Nat.zero_add, Nat.reduceAdd]
  refine lx_val (by rfl) (.string ⟨(txt (val a)).toArray⟩) (fun X hX hF => by rfl) ?_
  simp only [Act.put, List.setIfInBounds_toArray, List.set_cons_succ, List.set_cons_zero]
  refine lx_call (by rfl) 28 _ _ (by rfl) (.tuple #[.string ⟨(be (val a)).toArray⟩, .int .i64 0]) [.string ⟨(txt (val a)).toArray⟩] (by rfl) (by kernel_rfl) (fun _ => by go_simp) (fun X hX hF => (nparseC (txt (val a)) X (by omega)).mono fun e X' ⟨h1, h2⟩ => ⟨by rw [h1, parV_t (pok_txt _), dval_txt], h2⟩) ?_
  simp only [Act.put, List.setIfInBounds_toArray, List.set_cons_succ, List.set_cons_zero]
  refine lx_val (by rfl) (.tuple #[.string ⟨(be (val a)).toArray⟩, .int .i64 0]) (fun X hX hF => by rfl) ?_
  simp only [Act.put, List.setIfInBounds_toArray, List.set_cons_succ, List.set_cons_zero]
  refine lx_val (by rfl) (.string ⟨(be (val a)).toArray⟩) (fun X hX hF => by rfl) ?_
  simp only [Act.put, List.setIfInBounds_toArray, List.set_cons_succ, List.set_cons_zero]
  refine lx_val (by rfl) (.int .i64 0) (fun X hX hF => by rfl) ?_
  simp only [Act.put, List.setIfInBounds_toArray, List.set_cons_succ, List.set_cons_zero]
  refine lx_val (by rfl) (.string ⟨(be (val a)).toArray⟩) (fun X hX hF => by rfl) ?_
  simp only [Act.put, List.setIfInBounds_toArray, List.set_cons_succ, List.set_cons_zero]
  refine lx_val (by rfl) (.int .i64 0) (fun X hX hF => by rfl) ?_
  simp only [Act.put, List.setIfInBounds_toArray, List.set_cons_succ, List.set_cons_zero]
  refine lx_nil ?_
  intro X3 hX3 hF
  have hb := bel_next hb hX3
  clear hF hX3
  go_upto_region 5 with (fail)
  refine lx_plain [] (lasts_nil) ?_
  simp only [its, Nat.zero_add, Nat.reduceAdd]
  refine lx_val (by rfl) (.string ⟨(txt (val a)).toArray⟩) (fun X hX hF => by rfl) ?_
  simp only [Act.put, List.setIfInBounds_toArray, List.set_cons_succ, List.set_cons_zero]
  refine lx_val (by rfl) (.int .i64 ((txt (val a)).length : Int)) (fun X hX hF => exec_lens Tryd.underlying9 _ (by rfl) (txt (val a)) (by rfl) _ rfl X) ?_
  simp only [Act.put, List.setIfInBounds_toArray, List.set_cons_succ, List.set_cons_zero]
  refine lx_val (by rfl) (.string ⟨(txt (val b)).toArray⟩) (fun X hX hF => by rfl) ?_
  simp only [Act.put, List.setIfInBounds_toArray, List.set_cons_succ, List.set_cons_zero]
  refine lx_val (by rfl) (.int .i64 ((txt (val b)).length : Int)) (fun X hX hF => exec_lens Tryd.underlying9 _ (by rfl) (txt (val b)) (by rfl) _ rfl X) ?_
  simp only [Act.put, List.setIfInBounds_toArray, List.set_cons_succ, List.set_cons_zero]
  refine lx_val (by rfl) (.bool false) (fun X hX hF => exec_lss _ _ _ _ (by rfl) .i64 ((txt (val a)).length : Int) ((txt (val b)).length : Int) (by rfl) (by rfl) false (decide_eq_false (by omega)) X) ?_
  simp only [Act.put, List.setIfInBounds_toArray, List.set_cons_succ, List.set_cons_zero]
  refine lx_val (by rfl) (.bool false) (fun X hX hF => by rfl) ?_
  simp only [Act.put, List.setIfInBounds_toArray, List.set_cons_succ, List.set_cons_zero]
  refine lx_val (by rfl) (.string ⟨(txt (val a)).toArray⟩) (fun X hX hF => by rfl) ?_
  simp only [Act.put, List.setIfInBounds_toArray, List.set_cons_succ, List.set_cons_zero]
  refine lx_val (by rfl) (.int .i64 ((txt (val a)).length : Int)) (fun X hX hF => exec_lens Tryd.underlying9 _ (by rfl) (txt (val a)) (by rfl) _ rfl X) ?_
  simp only [Act.put, List.setIfInBounds_toArray, List.set_cons_succ, List.set_cons_zero]
  refine lx_val (by rfl) (.string ⟨(txt (val b)).toArray⟩) (fun X hX hF => by rfl) ?_
  simp only [Act.put, List.setIfInBounds_toArray, List.set_cons_succ, List.set_cons_zero]
  refine lx_val (by rfl) (.int .i64 ((txt (val b)).length : Int)) (fun X hX hF => exec_lens Tryd.underlying9 _ (by rfl) (txt (val b)) (by rfl) _ rfl X) ?_
  simp only [Act.put, List.setIfInBounds_toArray, List.set_cons_succ, List.set_cons_zero]
  refine lx_val (by rfl) (.bool false) (fun X hX hF => exec_eqi _ _ _ _ (by rfl) .i64 ((txt (val a)).length : Int) ((txt (val b)).length : Int) (by rfl) (by rfl) false (decide_eq_false (by omega)) X) ?_
  simp only [Act.put, List.setIfInBounds_toArray, List.set_cons_succ, List.set_cons_zero]
  refine lx_val (by rfl) (.bool false) (fun X hX hF => by rfl) ?_
  simp only [Act.put, List.setIfInBounds_toArray, List.set_cons_succ, List.set_cons_zero]
  refine lx_skip (by rfl) ?_
  simp only [Act.put, List.setIfInBounds_toArray, List.set_cons_succ, List.set_cons_zero]
  refine lx_skip (by rfl) ?_
  simp only [Act.put, List.setIfInBounds_toArray, List.set_cons_succ, List.set_cons_zero]
  refine lx_skip (by rfl) ?_
  simp only [Act.put, List.setIfInBounds_toArray, List.set_cons_succ, List.set_cons_zero]
  refine lx_val (by rfl) (.bool false) (fun X hX hF => by rfl) ?_
  simp only [Act.put, List.setIfInBounds_toArray, List.set_cons_succ, List.set_cons_zero]
  refine lx_val (by rfl) (.bool false) (fun X hX hF => by rfl) ?_
  simp only [Act.put, List.setIfInBounds_toArray, List.set_cons_succ, List.set_cons_zero]
  refine lx_val (by rfl) (.bool false) (fun X hX hF => by rfl) ?_
  simp only [Act.put, List.setIfInBounds_toArray, List.set_cons_succ, List.set_cons_zero]
  refine lx_nil ?_
  intro X4 hX4 hF
  have hb := bel_next hb hX4
  clear hF hX4
  go_upto_region 6 with (fail)
  refine lx_plain [] (lasts_nil) ?_
  simp only [its, Nat.zero_add, Nat.reduceAdd]
  refine lx_call (by rfl) 9 _ _ (by rfl) (.bool true) [] (by rfl) (by kernel_rfl) (fun _ => by go_simp) (fun X hX hF => sanityC X) ?_
  simp only [Act.put, List.setIfInBounds_toArray, List.set_cons_succ, List.set_cons_zero]
  refine lx_val (by rfl) (.bool true) (fun X hX hF => by rfl) ?_
  simp only [Act.put, List.setIfInBounds_toArray, List.set_cons_succ, List.set_cons_zero]
  refine lx_val (by rfl) (.int .i64 0) (fun X hX hF => by rfl) ?_
  simp only [Act.put, List.setIfInBounds_toArray, List.set_cons_succ, List.set_cons_zero]
  refine lx_val (by rfl) (.bool true) (fun X hX hF => exec_eqi _ _ _ _ (by rfl) .i64 0 0 (by rfl) (by rfl) true (decide_eq_true (by omega)) X) ?_
  simp only [Act.put, List.setIfInBounds_toArray, List.set_cons_succ, List.set_cons_zero]
  refine lx_val (by rfl) (.bool true) (fun X hX hF => by rfl) ?_
  simp only [Act.put, List.setIfInBounds_toArray, List.set_cons_succ, List.set_cons_zero]
  refine lx_val (by rfl) (.bool true) (fun X hX hF => by rfl) ?_
  simp only [Act.put, List.setIfInBounds_toArray, List.set_cons_succ, List.set_cons_zero]
  refine lx_val (by rfl) (.string ⟨(be (val a)).toArray⟩) (fun X hX hF => by rfl) ?_
  simp only [Act.put, List.setIfInBounds_toArray, List.set_cons_succ, List.set_cons_zero]
  refine lx_val (by rfl) (.string ⟨a.toArray⟩) (fun X hX hF => by rfl) ?_
  simp only [Act.put, List.setIfInBounds_toArray, List.set_cons_succ, List.set_cons_zero]
  refine lx_call (by rfl) 16 _ _ (by rfl) (.string ⟨(be (val a)).toArray⟩) [.string ⟨a.toArray⟩] (by rfl) (by kernel_rfl) (fun _ => by go_simp) (fun X hX hF => (cleanC a X ).mono fun e X' ⟨h1, h2⟩ => ⟨by rw [h1], since_eq h2⟩) ?_
  simp only [Act.put, List.setIfInBounds_toArray, List.set_cons_succ, List.set_cons_zero]
  refine lx_val (by rfl) (.bool true) (fun X hX hF => exec_eqsB _ _ _ _ (by rfl) (be (val a)) (be (val a)) (by rfl) (by rfl) true (eqs_t rfl) X) ?_
  simp only [Act.put, List.setIfInBounds_toArray, List.set_cons_succ, List.set_cons_zero]
  refine lx_val (by rfl) (.bool true) (fun X hX hF => by rfl) ?_
  simp only [Act.put, List.setIfInBounds_toArray, List.set_cons_succ, List.set_cons_zero]
  refine lx_val (by rfl) (.bool true) (fun X hX hF => by rfl) ?_
  simp only [Act.put, List.setIfInBounds_toArray, List.set_cons_succ, List.set_cons_zero]
  refine lx_val (by rfl) (.bool false) (fun X hX hF => by rfl) ?_
  simp only [Act.put, List.setIfInBounds_toArray, List.set_cons_succ, List.set_cons_zero]
  refine lx_val (by rfl) (.string ⟨a.toArray⟩) (fun X hX hF => by rfl) ?_
  simp only [Act.put, List.setIfInBounds_toArray, List.set_cons_succ, List.set_cons_zero]
  refine lx_val (by rfl) (.string ⟨b.toArray⟩) (fun X hX hF => by rfl) ?_
  simp only [Act.put, List.setIfInBounds_toArray, List.set_cons_succ, List.set_cons_zero]
  refine lx_call (by rfl) 18 _ _ (by rfl) (.int .i64 (cmpI (((val a) : Nat) : Int) (((val b) : Nat) : Int))) [.string ⟨a.toArray⟩, .string ⟨b.toArray⟩] (by rfl) (by kernel_rfl) (fun _ => by go_simp) (fun X hX hF => (ncmpC a b X (by first | omega | decide) (by first | omega | decide)).mono fun e X' ⟨h1, h2⟩ => ⟨by rw [h1], h2⟩) ?_
  simp only [Act.put, List.setIfInBounds_toArray, List.set_cons_succ, List.set_cons_zero]
  refine lx_val (by rfl) (.bool false) (fun X hX hF => exec_lss _ _ _ _ (by rfl) .i64 (cmpI (((val a) : Nat) : Int) (((val b) : Nat) : Int)) 0 (by rfl) (by rfl) false (decide_eq_false (by unfold cmpI; rw [if_neg (by omega)]; split <;> omega)) X) ?_
  simp only [Act.put, List.setIfInBounds_toArray, List.set_cons_succ, List.set_cons_zero]
  refine lx_val (by rfl) (.bool true) (fun X hX hF => by rfl) ?_
  simp only [Act.put, List.setIfInBounds_toArray, List.set_cons_succ, List.set_cons_zero]
  refine lx_val (by rfl) (.bool true) (fun X hX hF => by rfl) ?_
  simp only [Act.put, List.setIfInBounds_toArray, List.set_cons_succ, List.set_cons_zero]
  refine lx_val (by rfl) (.bool true) (fun X hX hF => by rfl) ?_
  simp only [Act.put, List.setIfInBounds_toArray, List.set_cons_succ, List.set_cons_zero]
  refine lx_nil ?_
  intro X5 hX5 hF
  have hb := bel_next hb hX5
  clear hF hX5
  go_wp2
  go_ret
  exact ⟨rfl, hb⟩

theorem all (a b : List UInt8) (w : World) (za : a.length ≤ 140737488351232) (zb : b.length ≤ 140737488351232) : Calls Tryd.prog 8 #[.string ⟨a.toArray⟩, .string ⟨b.toArray⟩] w fun e w' => e = .returned (.bool true) ∧ Since w w' := by
  rcases Nat.lt_or_ge 100 a.length with h | h
  · exact bad0 a b w za zb h
  · rcases Nat.lt_or_ge 100 b.length with h1 | h1
    · exact bad1 a b w za zb h h1
    · rcases Nat.lt_trichotomy (txt (val a)).length (txt (val b)).length with h2 | h2 | h2
      · exact shorter a b w h h1 h2
      · rcases Nat.lt_or_ge (val a) (val b) with h3 | h3
        · exact same1 a b w h h1 h2 h3
        · exact same2 a b w h h1 h2 h3
      · exact longer a b w h h1 h2
end tripW
end Go.Proofs.YtglnabciomlmmaaDoor
