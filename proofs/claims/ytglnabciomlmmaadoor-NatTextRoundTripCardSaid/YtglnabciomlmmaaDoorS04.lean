/-
  The law's sanity.
-/
import Derived.Test.YtglnabciomlmmaaDoorRtx
import Derived.Test.YtglnabciomlmmaaDoorNgd
namespace Go.Proofs.YtglnabciomlmmaaDoor
open Go.RowKit

theorem be_lit {l : List UInt8} {n : Nat} (h : val l = n) (h0 : l.head? ≠ some 0) : be n = l := by
  rw [← h]
  exact be_of h0
set_option maxRecDepth 100000 in
set_option maxHeartbeats 1600000 in
theorem sanityC (w : World) : Calls Tryd.prog 9 #[] w fun e w' => e = .returned (.bool true) ∧ Since w w' := by
  go_enter Tryd.func9, Tryd.ntmps9
  go_upto_region 1 with (fail)
  refine lx_plain [] (lasts_nil) ?_
  simp only [its, Nat.zero_add, Nat.reduceAdd]
  refine lx_call (by rfl) 26 _ _ (by rfl) (.tuple #[.string ⟨([1, 44] : List UInt8).toArray⟩, .int .i64 0]) [.int .i64 300] (by rfl) (by kernel_rfl) (fun _ => by go_simp) (fun X hX hF => (nintC 300 X (by omega)).mono fun e X' ⟨h1, h2⟩ => ⟨h1.trans (by rw [be_lit (l := [1, 44]) (n := 300) (by rfl) (by decide)]), h2⟩) ?_
  simp only [Act.put, List.setIfInBounds_toArray, List.set_cons_succ, List.set_cons_zero]
  refine lx_val (by rfl) (.tuple #[.string ⟨([1, 44] : List UInt8).toArray⟩, .int .i64 0]) (fun X hX hF => by rfl) ?_
  simp only [Act.put, List.setIfInBounds_toArray, List.set_cons_succ, List.set_cons_zero]
  refine lx_val (by rfl) (.string ⟨([1, 44] : List UInt8).toArray⟩) (fun X hX hF => by rfl) ?_
  simp only [Act.put, List.setIfInBounds_toArray, List.set_cons_succ, List.set_cons_zero]
  refine lx_val (by rfl) (.int .i64 0) (fun X hX hF => by rfl) ?_
  simp only [Act.put, List.setIfInBounds_toArray, List.set_cons_succ, List.set_cons_zero]
  refine lx_val (by rfl) (.string ⟨([1, 44] : List UInt8).toArray⟩) (fun X hX hF => by rfl) ?_
  simp only [Act.put, List.setIfInBounds_toArray, List.set_cons_succ, List.set_cons_zero]
  refine lx_val (by rfl) (.int .i64 0) (fun X hX hF => by rfl) ?_
  simp only [Act.put, List.setIfInBounds_toArray, List.set_cons_succ, List.set_cons_zero]
  refine lx_nil ?_
  intro X1 hX1 hF
  have hb : Below w.heap.size w X1 := hX1
  clear hF hX1
  go_upto_region 2 with (fail)
  refine lx_plain [] (lasts_nil) ?_
  simp only [its, Nat.zero_add, Nat.reduceAdd]
  refine lx_call (by rfl) 27 _ _ (by rfl) (.tuple #[.int .i64 300, .int .i64 0]) [.string ⟨([1, 44] : List UInt8).toArray⟩] (by rfl) (by kernel_rfl) (fun _ => by go_simp) (fun X hX hF => (nvalC [1, 44] X (by decide) (by decide)).mono fun e X' ⟨h1, h2⟩ => ⟨h1.trans (by rfl), h2⟩) ?_
  simp only [Act.put, List.setIfInBounds_toArray, List.set_cons_succ, List.set_cons_zero]
  refine lx_val (by rfl) (.tuple #[.int .i64 300, .int .i64 0]) (fun X hX hF => by rfl) ?_
  simp only [Act.put, List.setIfInBounds_toArray, List.set_cons_succ, List.set_cons_zero]
  refine lx_val (by rfl) (.int .i64 300) (fun X hX hF => by rfl) ?_
  simp only [Act.put, List.setIfInBounds_toArray, List.set_cons_succ, List.set_cons_zero]
  refine lx_val (by rfl) (.int .i64 0) (fun X hX hF => by rfl) ?_
  simp only [Act.put, List.setIfInBounds_toArray, List.set_cons_succ, List.set_cons_zero]
  refine lx_val (by rfl) (.int .i64 300) (fun X hX hF => by rfl) ?_
  simp only [Act.put, List.setIfInBounds_toArray, List.set_cons_succ, List.set_cons_zero]
  refine lx_val (by rfl) (.int .i64 0) (fun X hX hF => by rfl) ?_
  simp only [Act.put, List.setIfInBounds_toArray, List.set_cons_succ, List.set_cons_zero]
  refine lx_nil ?_
  intro X2 hX2 hF
  have hb := bel_next hb hX2
  clear hF hX2
  go_upto_region 3 with (fail)
  refine lx_plain [] (lasts_nil) ?_
  simp only [its, Nat.zero_add, Nat.reduceAdd]
  refine lx_call (by rfl) 10 _ _ (by rfl) (.tuple #[.string ⟨([255] : List UInt8).toArray⟩, .int .i64 0]) [.string ⟨([1, 0] : List UInt8).toArray⟩, .string ⟨([1] : List UInt8).toArray⟩] (by rfl) (by kernel_rfl) (fun _ => by go_simp) (fun X hX hF => (nsubC [1, 0] [1] X (by decide) (by decide) (by decide)).mono fun e X' ⟨h1, h2⟩ => ⟨h1.trans (by rw [show val [1, 0] - val [1] = 255 from rfl, be_lit (l := [255]) (n := 255) (by rfl) (by decide)]), h2⟩) ?_
  simp only [Act.put, List.setIfInBounds_toArray, List.set_cons_succ, List.set_cons_zero]
  refine lx_val (by rfl) (.tuple #[.string ⟨([255] : List UInt8).toArray⟩, .int .i64 0]) (fun X hX hF => by rfl) ?_
  simp only [Act.put, List.setIfInBounds_toArray, List.set_cons_succ, List.set_cons_zero]
  refine lx_val (by rfl) (.string ⟨([255] : List UInt8).toArray⟩) (fun X hX hF => by rfl) ?_
  simp only [Act.put, List.setIfInBounds_toArray, List.set_cons_succ, List.set_cons_zero]
  refine lx_val (by rfl) (.int .i64 0) (fun X hX hF => by rfl) ?_
  simp only [Act.put, List.setIfInBounds_toArray, List.set_cons_succ, List.set_cons_zero]
  refine lx_val (by rfl) (.string ⟨([255] : List UInt8).toArray⟩) (fun X hX hF => by rfl) ?_
  simp only [Act.put, List.setIfInBounds_toArray, List.set_cons_succ, List.set_cons_zero]
  refine lx_val (by rfl) (.int .i64 0) (fun X hX hF => by rfl) ?_
  simp only [Act.put, List.setIfInBounds_toArray, List.set_cons_succ, List.set_cons_zero]
  refine lx_nil ?_
  intro X3 hX3 hF
  have hb := bel_next hb hX3
  clear hF hX3
  go_upto_region 4 with (fail)
  refine lx_plain [] (lasts_nil) ?_
  simp only [its, Nat.zero_add, Nat.reduceAdd]
  refine lx_call (by rfl) 10 _ _ (by rfl) (.tuple #[.string ⟨([] : List UInt8).toArray⟩, .int .i64 3]) [.string ⟨([1] : List UInt8).toArray⟩, .string ⟨([2] : List UInt8).toArray⟩] (by rfl) (by kernel_rfl) (fun _ => by go_simp) (fun X hX hF => (nsubE [1] [2] X (by decide) (by decide) (by decide)).mono fun e X' ⟨h1, h2⟩ => ⟨h1.trans (by rfl), h2⟩) ?_
  simp only [Act.put, List.setIfInBounds_toArray, List.set_cons_succ, List.set_cons_zero]
  refine lx_val (by rfl) (.tuple #[.string ⟨([] : List UInt8).toArray⟩, .int .i64 3]) (fun X hX hF => by rfl) ?_
  simp only [Act.put, List.setIfInBounds_toArray, List.set_cons_succ, List.set_cons_zero]
  refine lx_val (by rfl) (.string ⟨([] : List UInt8).toArray⟩) (fun X hX hF => by rfl) ?_
  simp only [Act.put, List.setIfInBounds_toArray, List.set_cons_succ, List.set_cons_zero]
  refine lx_val (by rfl) (.int .i64 3) (fun X hX hF => by rfl) ?_
  simp only [Act.put, List.setIfInBounds_toArray, List.set_cons_succ, List.set_cons_zero]
  refine lx_val (by rfl) (.string ⟨([] : List UInt8).toArray⟩) (fun X hX hF => by rfl) ?_
  simp only [Act.put, List.setIfInBounds_toArray, List.set_cons_succ, List.set_cons_zero]
  refine lx_val (by rfl) (.int .i64 3) (fun X hX hF => by rfl) ?_
  simp only [Act.put, List.setIfInBounds_toArray, List.set_cons_succ, List.set_cons_zero]
  refine lx_nil ?_
  intro X4 hX4 hF
  have hb := bel_next hb hX4
  clear hF hX4
  go_upto_region 5 with (fail)
  refine lx_plain [] (lasts_nil) ?_
  simp only [its, Nat.zero_add, Nat.reduceAdd]
  refine lx_call (by rfl) 11 _ _ (by rfl) (.tuple #[.string ⟨([1, 44] : List UInt8).toArray⟩, .string ⟨([1] : List UInt8).toArray⟩, .int .i64 0]) [.string ⟨([1, 95, 145] : List UInt8).toArray⟩, .string ⟨([1, 44] : List UInt8).toArray⟩] (by rfl) (by kernel_rfl) (fun _ => by go_simp) (fun X hX hF => (ndivC [1, 95, 145] [1, 44] X (by decide) (by decide) (by decide)).mono fun e X' ⟨h1, h2⟩ => ⟨h1.trans (by rw [show val [1, 95, 145] / val [1, 44] = 300 from rfl, show val [1, 95, 145] % val [1, 44] = 1 from rfl, be_lit (l := [1, 44]) (n := 300) (by rfl) (by decide), be_lit (l := [1]) (n := 1) (by rfl) (by decide)]), h2⟩) ?_
  simp only [Act.put, List.setIfInBounds_toArray, List.set_cons_succ, List.set_cons_zero]
  refine lx_val (by rfl) (.tuple #[.string ⟨([1, 44] : List UInt8).toArray⟩, .string ⟨([1] : List UInt8).toArray⟩, .int .i64 0]) (fun X hX hF => by rfl) ?_
  simp only [Act.put, List.setIfInBounds_toArray, List.set_cons_succ, List.set_cons_zero]
  refine lx_val (by rfl) (.string ⟨([1, 44] : List UInt8).toArray⟩) (fun X hX hF => by rfl) ?_
  simp only [Act.put, List.setIfInBounds_toArray, List.set_cons_succ, List.set_cons_zero]
  refine lx_val (by rfl) (.string ⟨([1] : List UInt8).toArray⟩) (fun X hX hF => by rfl) ?_
  simp only [Act.put, List.setIfInBounds_toArray, List.set_cons_succ, List.set_cons_zero]
  refine lx_val (by rfl) (.int .i64 0) (fun X hX hF => by rfl) ?_
  simp only [Act.put, List.setIfInBounds_toArray, List.set_cons_succ, List.set_cons_zero]
  refine lx_val (by rfl) (.string ⟨([1, 44] : List UInt8).toArray⟩) (fun X hX hF => by rfl) ?_
  simp only [Act.put, List.setIfInBounds_toArray, List.set_cons_succ, List.set_cons_zero]
  refine lx_val (by rfl) (.string ⟨([1] : List UInt8).toArray⟩) (fun X hX hF => by rfl) ?_
  simp only [Act.put, List.setIfInBounds_toArray, List.set_cons_succ, List.set_cons_zero]
  refine lx_val (by rfl) (.int .i64 0) (fun X hX hF => by rfl) ?_
  simp only [Act.put, List.setIfInBounds_toArray, List.set_cons_succ, List.set_cons_zero]
  refine lx_nil ?_
  intro X5 hX5 hF
  have hb := bel_next hb hX5
  clear hF hX5
  go_upto_region 6 with (fail)
  refine lx_plain [] (lasts_nil) ?_
  simp only [its, Nat.zero_add, Nat.reduceAdd]
  refine lx_call (by rfl) 11 _ _ (by rfl) (.tuple #[.string ⟨([] : List UInt8).toArray⟩, .string ⟨([] : List UInt8).toArray⟩, .int .i64 1]) [.string ⟨([1] : List UInt8).toArray⟩, .string ⟨([] : List UInt8).toArray⟩] (by rfl) (by kernel_rfl) (fun _ => by go_simp) (fun X hX hF => (ndivE [1] [] X (by decide) (by decide) (by rfl)).mono fun e X' ⟨h1, h2⟩ => ⟨h1.trans (by rfl), h2⟩) ?_
  simp only [Act.put, List.setIfInBounds_toArray, List.set_cons_succ, List.set_cons_zero]
  refine lx_val (by rfl) (.tuple #[.string ⟨([] : List UInt8).toArray⟩, .string ⟨([] : List UInt8).toArray⟩, .int .i64 1]) (fun X hX hF => by rfl) ?_
  simp only [Act.put, List.setIfInBounds_toArray, List.set_cons_succ, List.set_cons_zero]
  refine lx_val (by rfl) (.string ⟨([] : List UInt8).toArray⟩) (fun X hX hF => by rfl) ?_
  simp only [Act.put, List.setIfInBounds_toArray, List.set_cons_succ, List.set_cons_zero]
  refine lx_val (by rfl) (.string ⟨([] : List UInt8).toArray⟩) (fun X hX hF => by rfl) ?_
  simp only [Act.put, List.setIfInBounds_toArray, List.set_cons_succ, List.set_cons_zero]
  refine lx_val (by rfl) (.int .i64 1) (fun X hX hF => by rfl) ?_
  simp only [Act.put, List.setIfInBounds_toArray, List.set_cons_succ, List.set_cons_zero]
  refine lx_val (by rfl) (.string ⟨([] : List UInt8).toArray⟩) (fun X hX hF => by rfl) ?_
  simp only [Act.put, List.setIfInBounds_toArray, List.set_cons_succ, List.set_cons_zero]
  refine lx_val (by rfl) (.string ⟨([] : List UInt8).toArray⟩) (fun X hX hF => by rfl) ?_
  simp only [Act.put, List.setIfInBounds_toArray, List.set_cons_succ, List.set_cons_zero]
  refine lx_val (by rfl) (.int .i64 1) (fun X hX hF => by rfl) ?_
  simp only [Act.put, List.setIfInBounds_toArray, List.set_cons_succ, List.set_cons_zero]
  refine lx_nil ?_
  intro X6 hX6 hF
  have hb := bel_next hb hX6
  clear hF hX6
  go_upto_region 7 with (fail)
  refine lx_plain [] (lasts_nil) ?_
  simp only [its, Nat.zero_add, Nat.reduceAdd]
  refine lx_call (by rfl) 28 _ _ (by rfl) (.tuple #[.string ⟨([1, 0, 0] : List UInt8).toArray⟩, .int .i64 0]) [.string ⟨([54, 53, 53, 51, 54] : List UInt8).toArray⟩] (by rfl) (by kernel_rfl) (fun _ => by go_simp) (fun X hX hF => (nparseC [54, 53, 53, 51, 54] X (by decide)).mono fun e X' ⟨h1, h2⟩ => ⟨h1.trans (by rw [parV_t (by decide), show dval [54, 53, 53, 51, 54] = 65536 from rfl, be_lit (l := [1, 0, 0]) (n := 65536) (by rfl) (by decide)]), h2⟩) ?_
  simp only [Act.put, List.setIfInBounds_toArray, List.set_cons_succ, List.set_cons_zero]
  refine lx_val (by rfl) (.tuple #[.string ⟨([1, 0, 0] : List UInt8).toArray⟩, .int .i64 0]) (fun X hX hF => by rfl) ?_
  simp only [Act.put, List.setIfInBounds_toArray, List.set_cons_succ, List.set_cons_zero]
  refine lx_val (by rfl) (.string ⟨([1, 0, 0] : List UInt8).toArray⟩) (fun X hX hF => by rfl) ?_
  simp only [Act.put, List.setIfInBounds_toArray, List.set_cons_succ, List.set_cons_zero]
  refine lx_val (by rfl) (.int .i64 0) (fun X hX hF => by rfl) ?_
  simp only [Act.put, List.setIfInBounds_toArray, List.set_cons_succ, List.set_cons_zero]
  refine lx_val (by rfl) (.string ⟨([1, 0, 0] : List UInt8).toArray⟩) (fun X hX hF => by rfl) ?_
  simp only [Act.put, List.setIfInBounds_toArray, List.set_cons_succ, List.set_cons_zero]
  refine lx_val (by rfl) (.int .i64 0) (fun X hX hF => by rfl) ?_
  simp only [Act.put, List.setIfInBounds_toArray, List.set_cons_succ, List.set_cons_zero]
  refine lx_nil ?_
  intro X7 hX7 hF
  have hb := bel_next hb hX7
  clear hF hX7
  go_upto_region 8 with (fail)
  refine lx_plain [] (lasts_nil) ?_
  simp only [its, Nat.zero_add, Nat.reduceAdd]
  refine lx_call (by rfl) 28 _ _ (by rfl) (.tuple #[.string ⟨([] : List UInt8).toArray⟩, .int .i64 27]) [.string ⟨([48, 48, 55] : List UInt8).toArray⟩] (by rfl) (by kernel_rfl) (fun _ => by go_simp) (fun X hX hF => (nparseC [48, 48, 55] X (by decide)).mono fun e X' ⟨h1, h2⟩ => ⟨h1.trans (by rw [parV_f (by decide)]), h2⟩) ?_
  simp only [Act.put, List.setIfInBounds_toArray, List.set_cons_succ, List.set_cons_zero]
  refine lx_val (by rfl) (.tuple #[.string ⟨([] : List UInt8).toArray⟩, .int .i64 27]) (fun X hX hF => by rfl) ?_
  simp only [Act.put, List.setIfInBounds_toArray, List.set_cons_succ, List.set_cons_zero]
  refine lx_val (by rfl) (.string ⟨([] : List UInt8).toArray⟩) (fun X hX hF => by rfl) ?_
  simp only [Act.put, List.setIfInBounds_toArray, List.set_cons_succ, List.set_cons_zero]
  refine lx_val (by rfl) (.int .i64 27) (fun X hX hF => by rfl) ?_
  simp only [Act.put, List.setIfInBounds_toArray, List.set_cons_succ, List.set_cons_zero]
  refine lx_val (by rfl) (.string ⟨([] : List UInt8).toArray⟩) (fun X hX hF => by rfl) ?_
  simp only [Act.put, List.setIfInBounds_toArray, List.set_cons_succ, List.set_cons_zero]
  refine lx_val (by rfl) (.int .i64 27) (fun X hX hF => by rfl) ?_
  simp only [Act.put, List.setIfInBounds_toArray, List.set_cons_succ, List.set_cons_zero]
  refine lx_nil ?_
  intro X8 hX8 hF
  have hb := bel_next hb hX8
  clear hF hX8
  go_upto_region 9 with (fail)
  refine lx_plain [] (lasts_nil) ?_
  simp only [its, Nat.zero_add, Nat.reduceAdd]
  refine lx_val (by rfl) (.int .i64 0) (fun X hX hF => by rfl) ?_
  simp only [Act.put, List.setIfInBounds_toArray, List.set_cons_succ, List.set_cons_zero]
  refine lx_val (by rfl) (.bool true) (fun X hX hF => exec_eqi _ _ _ _ (by rfl) .i64 0 0 (by rfl) (by rfl) true (decide_eq_true (by omega)) X) ?_
  simp only [Act.put, List.setIfInBounds_toArray, List.set_cons_succ, List.set_cons_zero]
  refine lx_val (by rfl) (.bool true) (fun X hX hF => by rfl) ?_
  simp only [Act.put, List.setIfInBounds_toArray, List.set_cons_succ, List.set_cons_zero]
  refine lx_val (by rfl) (.int .i64 0) (fun X hX hF => by rfl) ?_
  simp only [Act.put, List.setIfInBounds_toArray, List.set_cons_succ, List.set_cons_zero]
  refine lx_val (by rfl) (.bool true) (fun X hX hF => exec_eqi _ _ _ _ (by rfl) .i64 0 0 (by rfl) (by rfl) true (decide_eq_true (by omega)) X) ?_
  simp only [Act.put, List.setIfInBounds_toArray, List.set_cons_succ, List.set_cons_zero]
  refine lx_val (by rfl) (.bool true) (fun X hX hF => by rfl) ?_
  simp only [Act.put, List.setIfInBounds_toArray, List.set_cons_succ, List.set_cons_zero]
  refine lx_val (by rfl) (.bool true) (fun X hX hF => by rfl) ?_
  simp only [Act.put, List.setIfInBounds_toArray, List.set_cons_succ, List.set_cons_zero]
  refine lx_val (by rfl) (.int .i64 0) (fun X hX hF => by rfl) ?_
  simp only [Act.put, List.setIfInBounds_toArray, List.set_cons_succ, List.set_cons_zero]
  refine lx_val (by rfl) (.bool true) (fun X hX hF => exec_eqi _ _ _ _ (by rfl) .i64 0 0 (by rfl) (by rfl) true (decide_eq_true (by omega)) X) ?_
  simp only [Act.put, List.setIfInBounds_toArray, List.set_cons_succ, List.set_cons_zero]
  refine lx_val (by rfl) (.bool true) (fun X hX hF => by rfl) ?_
  simp only [Act.put, List.setIfInBounds_toArray, List.set_cons_succ, List.set_cons_zero]
  refine lx_val (by rfl) (.bool true) (fun X hX hF => by rfl) ?_
  simp only [Act.put, List.setIfInBounds_toArray, List.set_cons_succ, List.set_cons_zero]
  refine lx_val (by rfl) (.int .i64 3) (fun X hX hF => by rfl) ?_
  simp only [Act.put, List.setIfInBounds_toArray, List.set_cons_succ, List.set_cons_zero]
  refine lx_val (by rfl) (.bool true) (fun X hX hF => exec_eqi _ _ _ _ (by rfl) .i64 3 3 (by rfl) (by rfl) true (decide_eq_true (by omega)) X) ?_
  simp only [Act.put, List.setIfInBounds_toArray, List.set_cons_succ, List.set_cons_zero]
  refine lx_val (by rfl) (.bool true) (fun X hX hF => by rfl) ?_
  simp only [Act.put, List.setIfInBounds_toArray, List.set_cons_succ, List.set_cons_zero]
  refine lx_val (by rfl) (.bool true) (fun X hX hF => by rfl) ?_
  simp only [Act.put, List.setIfInBounds_toArray, List.set_cons_succ, List.set_cons_zero]
  refine lx_val (by rfl) (.int .i64 0) (fun X hX hF => by rfl) ?_
  simp only [Act.put, List.setIfInBounds_toArray, List.set_cons_succ, List.set_cons_zero]
  refine lx_val (by rfl) (.bool true) (fun X hX hF => exec_eqi _ _ _ _ (by rfl) .i64 0 0 (by rfl) (by rfl) true (decide_eq_true (by omega)) X) ?_
  simp only [Act.put, List.setIfInBounds_toArray, List.set_cons_succ, List.set_cons_zero]
  refine lx_val (by rfl) (.bool true) (fun X hX hF => by rfl) ?_
  simp only [Act.put, List.setIfInBounds_toArray, List.set_cons_succ, List.set_cons_zero]
  refine lx_val (by rfl) (.bool true) (fun X hX hF => by rfl) ?_
  simp only [Act.put, List.setIfInBounds_toArray, List.set_cons_succ, List.set_cons_zero]
  refine lx_val (by rfl) (.int .i64 1) (fun X hX hF => by rfl) ?_
  simp only [Act.put, List.setIfInBounds_toArray, List.set_cons_succ, List.set_cons_zero]
  refine lx_val (by rfl) (.bool true) (fun X hX hF => exec_eqi _ _ _ _ (by rfl) .i64 1 1 (by rfl) (by rfl) true (decide_eq_true (by omega)) X) ?_
  simp only [Act.put, List.setIfInBounds_toArray, List.set_cons_succ, List.set_cons_zero]
  refine lx_val (by rfl) (.bool true) (fun X hX hF => by rfl) ?_
  simp only [Act.put, List.setIfInBounds_toArray, List.set_cons_succ, List.set_cons_zero]
  refine lx_val (by rfl) (.bool true) (fun X hX hF => by rfl) ?_
  simp only [Act.put, List.setIfInBounds_toArray, List.set_cons_succ, List.set_cons_zero]
  refine lx_val (by rfl) (.int .i64 0) (fun X hX hF => by rfl) ?_
  simp only [Act.put, List.setIfInBounds_toArray, List.set_cons_succ, List.set_cons_zero]
  refine lx_val (by rfl) (.bool true) (fun X hX hF => exec_eqi _ _ _ _ (by rfl) .i64 0 0 (by rfl) (by rfl) true (decide_eq_true (by omega)) X) ?_
  simp only [Act.put, List.setIfInBounds_toArray, List.set_cons_succ, List.set_cons_zero]
  refine lx_val (by rfl) (.bool true) (fun X hX hF => by rfl) ?_
  simp only [Act.put, List.setIfInBounds_toArray, List.set_cons_succ, List.set_cons_zero]
  refine lx_val (by rfl) (.bool true) (fun X hX hF => by rfl) ?_
  simp only [Act.put, List.setIfInBounds_toArray, List.set_cons_succ, List.set_cons_zero]
  refine lx_val (by rfl) (.int .i64 27) (fun X hX hF => by rfl) ?_
  simp only [Act.put, List.setIfInBounds_toArray, List.set_cons_succ, List.set_cons_zero]
  refine lx_val (by rfl) (.bool true) (fun X hX hF => exec_eqi _ _ _ _ (by rfl) .i64 27 27 (by rfl) (by rfl) true (decide_eq_true (by omega)) X) ?_
  simp only [Act.put, List.setIfInBounds_toArray, List.set_cons_succ, List.set_cons_zero]
  refine lx_val (by rfl) (.bool true) (fun X hX hF => by rfl) ?_
  simp only [Act.put, List.setIfInBounds_toArray, List.set_cons_succ, List.set_cons_zero]
  refine lx_val (by rfl) (.bool true) (fun X hX hF => by rfl) ?_
  simp only [Act.put, List.setIfInBounds_toArray, List.set_cons_succ, List.set_cons_zero]
  refine lx_nil ?_
  intro X9 hX9 hF
  have hb := bel_next hb hX9
  clear hF hX9
  go_upto_region 10 with (fail)
  refine lx_plain [] (lasts_nil) ?_
  simp only [its, Nat.zero_add, Nat.reduceAdd]
  refine lx_val (by rfl) (.string ⟨([1, 44] : List UInt8).toArray⟩) (fun X hX hF => by rfl) ?_
  simp only [Act.put, List.setIfInBounds_toArray, List.set_cons_succ, List.set_cons_zero]
  refine lx_val (by rfl) (.bool true) (fun X hX hF => exec_eqsB _ _ _ _ (by rfl) ([1, 44] : List UInt8) ([1, 44] : List UInt8) (by rfl) (by rfl) true (eqs_t rfl) X) ?_
  simp only [Act.put, List.setIfInBounds_toArray, List.set_cons_succ, List.set_cons_zero]
  refine lx_val (by rfl) (.bool true) (fun X hX hF => by rfl) ?_
  simp only [Act.put, List.setIfInBounds_toArray, List.set_cons_succ, List.set_cons_zero]
  refine lx_val (by rfl) (.int .i64 300) (fun X hX hF => by rfl) ?_
  simp only [Act.put, List.setIfInBounds_toArray, List.set_cons_succ, List.set_cons_zero]
  refine lx_val (by rfl) (.bool true) (fun X hX hF => exec_eqi _ _ _ _ (by rfl) .i64 300 300 (by rfl) (by rfl) true (decide_eq_true (by omega)) X) ?_
  simp only [Act.put, List.setIfInBounds_toArray, List.set_cons_succ, List.set_cons_zero]
  refine lx_val (by rfl) (.bool true) (fun X hX hF => by rfl) ?_
  simp only [Act.put, List.setIfInBounds_toArray, List.set_cons_succ, List.set_cons_zero]
  refine lx_val (by rfl) (.bool true) (fun X hX hF => by rfl) ?_
  simp only [Act.put, List.setIfInBounds_toArray, List.set_cons_succ, List.set_cons_zero]
  refine lx_call (by rfl) 20 _ _ (by rfl) (.string ⟨([1, 0] : List UInt8).toArray⟩) [.string ⟨([255] : List UInt8).toArray⟩, .string ⟨([1] : List UInt8).toArray⟩] (by rfl) (by kernel_rfl) (fun _ => by go_simp) (fun X hX hF => (naddC [255] [1] X (by decide) (by decide)).mono fun e X' ⟨h1, h2⟩ => ⟨h1.trans (by rw [show val [255] + val [1] = 256 from rfl, be_lit (l := [1, 0]) (n := 256) (by rfl) (by decide)]), h2⟩) ?_
  simp only [Act.put, List.setIfInBounds_toArray, List.set_cons_succ, List.set_cons_zero]
  refine lx_val (by rfl) (.bool true) (fun X hX hF => exec_eqsB _ _ _ _ (by rfl) ([1, 0] : List UInt8) ([1, 0] : List UInt8) (by rfl) (by rfl) true (eqs_t rfl) X) ?_
  simp only [Act.put, List.setIfInBounds_toArray, List.set_cons_succ, List.set_cons_zero]
  refine lx_val (by rfl) (.bool true) (fun X hX hF => by rfl) ?_
  simp only [Act.put, List.setIfInBounds_toArray, List.set_cons_succ, List.set_cons_zero]
  refine lx_val (by rfl) (.bool true) (fun X hX hF => by rfl) ?_
  simp only [Act.put, List.setIfInBounds_toArray, List.set_cons_succ, List.set_cons_zero]
  refine lx_val (by rfl) (.string ⟨([255] : List UInt8).toArray⟩) (fun X hX hF => by rfl) ?_
  simp only [Act.put, List.setIfInBounds_toArray, List.set_cons_succ, List.set_cons_zero]
  refine lx_val (by rfl) (.bool true) (fun X hX hF => exec_eqsB _ _ _ _ (by rfl) ([255] : List UInt8) ([255] : List UInt8) (by rfl) (by rfl) true (eqs_t rfl) X) ?_
  simp only [Act.put, List.setIfInBounds_toArray, List.set_cons_succ, List.set_cons_zero]
  refine lx_val (by rfl) (.bool true) (fun X hX hF => by rfl) ?_
  simp only [Act.put, List.setIfInBounds_toArray, List.set_cons_succ, List.set_cons_zero]
  refine lx_val (by rfl) (.bool true) (fun X hX hF => by rfl) ?_
  simp only [Act.put, List.setIfInBounds_toArray, List.set_cons_succ, List.set_cons_zero]
  refine lx_val (by rfl) (.string ⟨([1, 44] : List UInt8).toArray⟩) (fun X hX hF => by rfl) ?_
  simp only [Act.put, List.setIfInBounds_toArray, List.set_cons_succ, List.set_cons_zero]
  refine lx_val (by rfl) (.string ⟨([1, 44] : List UInt8).toArray⟩) (fun X hX hF => by rfl) ?_
  simp only [Act.put, List.setIfInBounds_toArray, List.set_cons_succ, List.set_cons_zero]
  refine lx_call (by rfl) 22 _ _ (by rfl) (.string ⟨([1, 95, 144] : List UInt8).toArray⟩) [.string ⟨([1, 44] : List UInt8).toArray⟩, .string ⟨([1, 44] : List UInt8).toArray⟩] (by rfl) (by kernel_rfl) (fun _ => by go_simp) (fun X hX hF => (nmulC [1, 44] [1, 44] X (by decide) (by decide)).mono fun e X' ⟨h1, h2⟩ => ⟨h1.trans (by rw [show val [1, 44] * val [1, 44] = 90000 from rfl, be_lit (l := [1, 95, 144]) (n := 90000) (by rfl) (by decide)]), h2⟩) ?_
  simp only [Act.put, List.setIfInBounds_toArray, List.set_cons_succ, List.set_cons_zero]
  refine lx_val (by rfl) (.bool true) (fun X hX hF => exec_eqsB _ _ _ _ (by rfl) ([1, 95, 144] : List UInt8) ([1, 95, 144] : List UInt8) (by rfl) (by rfl) true (eqs_t rfl) X) ?_
  simp only [Act.put, List.setIfInBounds_toArray, List.set_cons_succ, List.set_cons_zero]
  refine lx_val (by rfl) (.bool true) (fun X hX hF => by rfl) ?_
  simp only [Act.put, List.setIfInBounds_toArray, List.set_cons_succ, List.set_cons_zero]
  refine lx_val (by rfl) (.bool true) (fun X hX hF => by rfl) ?_
  simp only [Act.put, List.setIfInBounds_toArray, List.set_cons_succ, List.set_cons_zero]
  refine lx_val (by rfl) (.string ⟨([1, 44] : List UInt8).toArray⟩) (fun X hX hF => by rfl) ?_
  simp only [Act.put, List.setIfInBounds_toArray, List.set_cons_succ, List.set_cons_zero]
  refine lx_val (by rfl) (.string ⟨([1, 44] : List UInt8).toArray⟩) (fun X hX hF => by rfl) ?_
  simp only [Act.put, List.setIfInBounds_toArray, List.set_cons_succ, List.set_cons_zero]
  refine lx_val (by rfl) (.bool true) (fun X hX hF => exec_eqsB _ _ _ _ (by rfl) ([1, 44] : List UInt8) ([1, 44] : List UInt8) (by rfl) (by rfl) true (eqs_t rfl) X) ?_
  simp only [Act.put, List.setIfInBounds_toArray, List.set_cons_succ, List.set_cons_zero]
  refine lx_val (by rfl) (.bool true) (fun X hX hF => by rfl) ?_
  simp only [Act.put, List.setIfInBounds_toArray, List.set_cons_succ, List.set_cons_zero]
  refine lx_val (by rfl) (.bool true) (fun X hX hF => by rfl) ?_
  simp only [Act.put, List.setIfInBounds_toArray, List.set_cons_succ, List.set_cons_zero]
  refine lx_val (by rfl) (.string ⟨([1] : List UInt8).toArray⟩) (fun X hX hF => by rfl) ?_
  simp only [Act.put, List.setIfInBounds_toArray, List.set_cons_succ, List.set_cons_zero]
  refine lx_val (by rfl) (.bool true) (fun X hX hF => exec_eqsB _ _ _ _ (by rfl) ([1] : List UInt8) ([1] : List UInt8) (by rfl) (by rfl) true (eqs_t rfl) X) ?_
  simp only [Act.put, List.setIfInBounds_toArray, List.set_cons_succ, List.set_cons_zero]
  refine lx_val (by rfl) (.bool true) (fun X hX hF => by rfl) ?_
  simp only [Act.put, List.setIfInBounds_toArray, List.set_cons_succ, List.set_cons_zero]
  refine lx_val (by rfl) (.bool true) (fun X hX hF => by rfl) ?_
  simp only [Act.put, List.setIfInBounds_toArray, List.set_cons_succ, List.set_cons_zero]
  refine lx_nil ?_
  intro X10 hX10 hF
  have hb := bel_next hb hX10
  clear hF hX10
  go_upto_region 11 with (fail)
  refine lx_plain [] (lasts_nil) ?_
  simp only [its, Nat.zero_add, Nat.reduceAdd]
  refine lx_val (by rfl) (.bool true) (fun X hX hF => by rfl) ?_
  simp only [Act.put, List.setIfInBounds_toArray, List.set_cons_succ, List.set_cons_zero]
  refine lx_val (by rfl) (.bool true) (fun X hX hF => by rfl) ?_
  simp only [Act.put, List.setIfInBounds_toArray, List.set_cons_succ, List.set_cons_zero]
  refine lx_val (by rfl) (.bool true) (fun X hX hF => by rfl) ?_
  simp only [Act.put, List.setIfInBounds_toArray, List.set_cons_succ, List.set_cons_zero]
  refine lx_val (by rfl) (.bool true) (fun X hX hF => by rfl) ?_
  simp only [Act.put, List.setIfInBounds_toArray, List.set_cons_succ, List.set_cons_zero]
  refine lx_val (by rfl) (.bool true) (fun X hX hF => by rfl) ?_
  simp only [Act.put, List.setIfInBounds_toArray, List.set_cons_succ, List.set_cons_zero]
  refine lx_call (by rfl) 24 _ _ (by rfl) (.string ⟨([12] : List UInt8).toArray⟩) [.string ⟨([84] : List UInt8).toArray⟩, .string ⟨([36] : List UInt8).toArray⟩] (by rfl) (by kernel_rfl) (fun _ => by go_simp) (fun X hX hF => (ngcdC [84] [36] X (by decide) (by decide)).mono fun e X' ⟨h1, h2⟩ => ⟨h1.trans (by rw [show Nat.gcd (val [84]) (val [36]) = 12 from rfl, be_lit (l := [12]) (n := 12) (by rfl) (by decide)]), h2⟩) ?_
  simp only [Act.put, List.setIfInBounds_toArray, List.set_cons_succ, List.set_cons_zero]
  refine lx_val (by rfl) (.bool true) (fun X hX hF => exec_eqsB _ _ _ _ (by rfl) ([12] : List UInt8) ([12] : List UInt8) (by rfl) (by rfl) true (eqs_t rfl) X) ?_
  simp only [Act.put, List.setIfInBounds_toArray, List.set_cons_succ, List.set_cons_zero]
  refine lx_val (by rfl) (.bool true) (fun X hX hF => by rfl) ?_
  simp only [Act.put, List.setIfInBounds_toArray, List.set_cons_succ, List.set_cons_zero]
  refine lx_val (by rfl) (.bool true) (fun X hX hF => by rfl) ?_
  simp only [Act.put, List.setIfInBounds_toArray, List.set_cons_succ, List.set_cons_zero]
  refine lx_call (by rfl) 24 _ _ (by rfl) (.string ⟨([5] : List UInt8).toArray⟩) [.string ⟨([] : List UInt8).toArray⟩, .string ⟨([5] : List UInt8).toArray⟩] (by rfl) (by kernel_rfl) (fun _ => by go_simp) (fun X hX hF => (ngcdC [] [5] X (by decide) (by decide)).mono fun e X' ⟨h1, h2⟩ => ⟨h1.trans (by rw [show Nat.gcd (val []) (val [5]) = 5 from rfl, be_lit (l := [5]) (n := 5) (by rfl) (by decide)]), h2⟩) ?_
  simp only [Act.put, List.setIfInBounds_toArray, List.set_cons_succ, List.set_cons_zero]
  refine lx_val (by rfl) (.bool true) (fun X hX hF => exec_eqsB _ _ _ _ (by rfl) ([5] : List UInt8) ([5] : List UInt8) (by rfl) (by rfl) true (eqs_t rfl) X) ?_
  simp only [Act.put, List.setIfInBounds_toArray, List.set_cons_succ, List.set_cons_zero]
  refine lx_val (by rfl) (.bool true) (fun X hX hF => by rfl) ?_
  simp only [Act.put, List.setIfInBounds_toArray, List.set_cons_succ, List.set_cons_zero]
  refine lx_val (by rfl) (.bool true) (fun X hX hF => by rfl) ?_
  simp only [Act.put, List.setIfInBounds_toArray, List.set_cons_succ, List.set_cons_zero]
  refine lx_call (by rfl) 32 _ _ (by rfl) (.string ⟨([54, 53, 53, 51, 54] : List UInt8).toArray⟩) [.string ⟨([1, 0, 0] : List UInt8).toArray⟩] (by rfl) (by kernel_rfl) (fun _ => by go_simp) (fun X hX hF => (ntextC [1, 0, 0] X (by decide)).mono fun e X' ⟨h1, h2⟩ => ⟨h1.trans (by rw [show txt (val [1, 0, 0]) = [54, 53, 53, 51, 54] from by kernel_rfl]), h2⟩) ?_
  simp only [Act.put, List.setIfInBounds_toArray, List.set_cons_succ, List.set_cons_zero]
  refine lx_val (by rfl) (.bool true) (fun X hX hF => exec_eqsB _ _ _ _ (by rfl) ([54, 53, 53, 51, 54] : List UInt8) ([54, 53, 53, 51, 54] : List UInt8) (by rfl) (by rfl) true (eqs_t rfl) X) ?_
  simp only [Act.put, List.setIfInBounds_toArray, List.set_cons_succ, List.set_cons_zero]
  refine lx_val (by rfl) (.bool true) (fun X hX hF => by rfl) ?_
  simp only [Act.put, List.setIfInBounds_toArray, List.set_cons_succ, List.set_cons_zero]
  refine lx_val (by rfl) (.bool true) (fun X hX hF => by rfl) ?_
  simp only [Act.put, List.setIfInBounds_toArray, List.set_cons_succ, List.set_cons_zero]
  refine lx_val (by rfl) (.string ⟨([1, 0, 0] : List UInt8).toArray⟩) (fun X hX hF => by rfl) ?_
  simp only [Act.put, List.setIfInBounds_toArray, List.set_cons_succ, List.set_cons_zero]
  refine lx_val (by rfl) (.bool true) (fun X hX hF => exec_eqsB _ _ _ _ (by rfl) ([1, 0, 0] : List UInt8) ([1, 0, 0] : List UInt8) (by rfl) (by rfl) true (eqs_t rfl) X) ?_
  simp only [Act.put, List.setIfInBounds_toArray, List.set_cons_succ, List.set_cons_zero]
  refine lx_val (by rfl) (.bool true) (fun X hX hF => by rfl) ?_
  simp only [Act.put, List.setIfInBounds_toArray, List.set_cons_succ, List.set_cons_zero]
  refine lx_val (by rfl) (.bool true) (fun X hX hF => by rfl) ?_
  simp only [Act.put, List.setIfInBounds_toArray, List.set_cons_succ, List.set_cons_zero]
  refine lx_call (by rfl) 14 _ _ (by rfl) (.bool false) [.string ⟨([0, 1] : List UInt8).toArray⟩] (by rfl) (by kernel_rfl) (fun _ => by go_simp) (fun X hX hF => (validC [0, 1] X).mono fun e X' ⟨h1, h2⟩ => ⟨h1.trans (by rw [cn_cons]; rfl), since_eq h2⟩) ?_
  simp only [Act.put, List.setIfInBounds_toArray, List.set_cons_succ, List.set_cons_zero]
  refine lx_val (by rfl) (.bool true) (fun X hX hF => by rfl) ?_
  simp only [Act.put, List.setIfInBounds_toArray, List.set_cons_succ, List.set_cons_zero]
  refine lx_val (by rfl) (.bool true) (fun X hX hF => by rfl) ?_
  simp only [Act.put, List.setIfInBounds_toArray, List.set_cons_succ, List.set_cons_zero]
  refine lx_val (by rfl) (.bool true) (fun X hX hF => by rfl) ?_
  simp only [Act.put, List.setIfInBounds_toArray, List.set_cons_succ, List.set_cons_zero]
  refine lx_call (by rfl) 16 _ _ (by rfl) (.string ⟨([1] : List UInt8).toArray⟩) [.string ⟨([0, 1] : List UInt8).toArray⟩] (by rfl) (by kernel_rfl) (fun _ => by go_simp) (fun X hX hF => (cleanC [0, 1] X).mono fun e X' ⟨h1, h2⟩ => ⟨h1.trans (by rw [show val [0, 1] = 1 from rfl, be_lit (l := [1]) (n := 1) (by rfl) (by decide)]), since_eq h2⟩) ?_
  simp only [Act.put, List.setIfInBounds_toArray, List.set_cons_succ, List.set_cons_zero]
  refine lx_val (by rfl) (.bool true) (fun X hX hF => exec_eqsB _ _ _ _ (by rfl) ([1] : List UInt8) ([1] : List UInt8) (by rfl) (by rfl) true (eqs_t rfl) X) ?_
  simp only [Act.put, List.setIfInBounds_toArray, List.set_cons_succ, List.set_cons_zero]
  refine lx_val (by rfl) (.bool true) (fun X hX hF => by rfl) ?_
  simp only [Act.put, List.setIfInBounds_toArray, List.set_cons_succ, List.set_cons_zero]
  refine lx_val (by rfl) (.bool true) (fun X hX hF => by rfl) ?_
  simp only [Act.put, List.setIfInBounds_toArray, List.set_cons_succ, List.set_cons_zero]
  refine lx_call (by rfl) 18 _ _ (by rfl) (.int .i64 (-1)) [.string ⟨([2] : List UInt8).toArray⟩, .string ⟨([1, 0] : List UInt8).toArray⟩] (by rfl) (by kernel_rfl) (fun _ => by go_simp) (fun X hX hF => (ncmpC [2] [1, 0] X (by decide) (by decide)).mono fun e X' ⟨h1, h2⟩ => ⟨h1.trans (by rfl), h2⟩) ?_
  simp only [Act.put, List.setIfInBounds_toArray, List.set_cons_succ, List.set_cons_zero]
  refine lx_val (by rfl) (.bool true) (fun X hX hF => exec_eqi _ _ _ _ (by rfl) .i64 (-1) (-1) (by rfl) (by rfl) true (decide_eq_true (by omega)) X) ?_
  simp only [Act.put, List.setIfInBounds_toArray, List.set_cons_succ, List.set_cons_zero]
  refine lx_val (by rfl) (.bool true) (fun X hX hF => by rfl) ?_
  simp only [Act.put, List.setIfInBounds_toArray, List.set_cons_succ, List.set_cons_zero]
  refine lx_val (by rfl) (.bool true) (fun X hX hF => by rfl) ?_
  simp only [Act.put, List.setIfInBounds_toArray, List.set_cons_succ, List.set_cons_zero]
  refine lx_nil ?_
  intro X11 hX11 hF
  have hb := bel_next hb hX11
  clear hF hX11
  go_wp2
  go_ret
  exact ⟨rfl, hb⟩

end Go.Proofs.YtglnabciomlmmaaDoor
