/-
  HashExpandMatchesSpec: the walk.
-/
import Derived.Test.YtmmomcililideaaDoorWk02x
import Derived.Test.YtmmomcililideaaDoorWk02t
import Derived.Test.YtmmomcililideaaDoorLxw
import Derived.Test.YtmmomcililideaaDoorKeys
set_option linter.unusedSimpArgs false
set_option linter.unusedVariables false
namespace Go.Proofs.YtmmomcililideaaDoor
open Go.RowKit

set_option maxRecDepth 100000 in
set_option maxHeartbeats 1600000 in
theorem expandW (key : List UInt8) (n : Int) (w : World) (hkl : key.length ≤ 140737488355328) (hK : KK w) (hK0 : KK0 w) :
    Calls Tryd.prog 9 #[.string ⟨key.toArray⟩, .int .i64 n] w fun e w' => e = .returned (.bool true) ∧ Below w.heap.size w w' := by
  by_cases h1 : 400 < key.length
  · go_enter Tryd.func9, Tryd.ntmps9
    go_wp2_with fail
    refine (sanityC _ hK).mono ?_
    rintro e w1 ⟨rfl, hb1⟩
    go_wp2
    go_ret
    exact ⟨rfl, hb1⟩
  by_cases h2 : 300 < n ∧ n ≤ 1048576
  · obtain ⟨h2, h3⟩ := h2
    go_enter Tryd.func9, Tryd.ntmps9
    go_wp2_with fail
    refine (sanityC _ hK).mono ?_
    rintro e w1 ⟨rfl, hb1⟩
    go_wp2
    go_ret
    exact ⟨rfl, hb1⟩
  have h4 : n ≤ 300 ∨ 1048576 < n := by omega
  clear h2
  rcases h4 with h4 | h4
  · go_enter Tryd.func9, Tryd.ntmps9
    go_wp2_with fail
    refine (sanityC _ hK).mono ?_
    rintro e w1 ⟨rfl, hb1⟩
    have hKX : ∀ X, Since w1 X → KK X := fun X h => hK.below (bel_next hb1 h) hK.1
    have hK0X : ∀ X, Since w1 X → KK0 X := fun X h => hK0.below (bel_next hb1 h) hK0.1
    have HKX := Lib.hid hKX
    have HK0X := Lib.hid hK0X
    clear hKX hK0X
    go_upto_region 4 with (fail)
    refine lx_plain [] (lasts_nil) ?_
    simp only [its, Nat.zero_add, Nat.reduceAdd]
    refine lx_val (by rfl) (.bool true) (fun X _ _ => by rfl) ?_
    simp only [Act.put, List.setIfInBounds_toArray, List.set_cons_succ, List.set_cons_zero]
    refine lx_val (by rfl) (.bool true) (fun X _ _ => by rfl) ?_
    simp only [Act.put, List.setIfInBounds_toArray, List.set_cons_succ, List.set_cons_zero]
    refine lx_val (by rfl) (.string ⟨key.toArray⟩) (fun X _ _ => by rfl) ?_
    simp only [Act.put, List.setIfInBounds_toArray, List.set_cons_succ, List.set_cons_zero]
    refine lx_val (by rfl) (.int .i64 n) (fun X _ _ => by rfl) ?_
    simp only [Act.put, List.setIfInBounds_toArray, List.set_cons_succ, List.set_cons_zero]
    refine lx_call (by rfl) 28 _ _ (by rfl) (.string ⟨(expI key n).toArray⟩) [.string ⟨key.toArray⟩, .int .i64 n] (by rfl) (by kernel_rfl) (fun _ => by go_simp) (fun X hX hF => expandC key n X (by omega) (HKX.out X hX)) ?_
    simp only [Act.put, List.setIfInBounds_toArray, List.set_cons_succ, List.set_cons_zero]
    refine lx_val (by rfl) (.string ⟨key.toArray⟩) (fun X _ _ => by rfl) ?_
    simp only [Act.put, List.setIfInBounds_toArray, List.set_cons_succ, List.set_cons_zero]
    refine lx_val (by rfl) (.int .i64 n) (fun X _ _ => by rfl) ?_
    simp only [Act.put, List.setIfInBounds_toArray, List.set_cons_succ, List.set_cons_zero]
    refine lx_call (by rfl) 29 _ _ (by rfl) (.string ⟨(expI key n).toArray⟩) [.string ⟨key.toArray⟩, .int .i64 n] (by rfl) (by kernel_rfl) (fun _ => by go_simp) (fun X hX hF => rexpandC key n X (by omega) (HK0X.out X hX)) ?_
    simp only [Act.put, List.setIfInBounds_toArray, List.set_cons_succ, List.set_cons_zero]
    refine lx_val (by rfl) (.bool true) (fun X _ _ => by go_simp) ?_
    simp only [Act.put, List.setIfInBounds_toArray, List.set_cons_succ, List.set_cons_zero]
    refine lx_val (by rfl) (.bool true) (fun X _ _ => by rfl) ?_
    simp only [Act.put, List.setIfInBounds_toArray, List.set_cons_succ, List.set_cons_zero]
    refine lx_val (by rfl) (.bool true) (fun X _ _ => by rfl) ?_
    simp only [Act.put, List.setIfInBounds_toArray, List.set_cons_succ, List.set_cons_zero]
    refine lx_nil ?_
    intro X9 hX9 _
    go_wp2
    go_ret
    exact ⟨rfl, bel_next hb1 hX9⟩
  · have h5 : 300 < n := by omega
    go_enter Tryd.func9, Tryd.ntmps9
    go_wp2_with fail
    refine (sanityC _ hK).mono ?_
    rintro e w1 ⟨rfl, hb1⟩
    have hKX : ∀ X, Since w1 X → KK X := fun X h => hK.below (bel_next hb1 h) hK.1
    have hK0X : ∀ X, Since w1 X → KK0 X := fun X h => hK0.below (bel_next hb1 h) hK0.1
    have HKX := Lib.hid hKX
    have HK0X := Lib.hid hK0X
    clear hKX hK0X
    go_upto_region 4 with (fail)
    refine lx_plain [] (lasts_nil) ?_
    simp only [its, Nat.zero_add, Nat.reduceAdd]
    refine lx_val (by rfl) (.bool true) (fun X _ _ => by rfl) ?_
    simp only [Act.put, List.setIfInBounds_toArray, List.set_cons_succ, List.set_cons_zero]
    refine lx_val (by rfl) (.bool true) (fun X _ _ => by rfl) ?_
    simp only [Act.put, List.setIfInBounds_toArray, List.set_cons_succ, List.set_cons_zero]
    refine lx_val (by rfl) (.string ⟨key.toArray⟩) (fun X _ _ => by rfl) ?_
    simp only [Act.put, List.setIfInBounds_toArray, List.set_cons_succ, List.set_cons_zero]
    refine lx_val (by rfl) (.int .i64 n) (fun X _ _ => by rfl) ?_
    simp only [Act.put, List.setIfInBounds_toArray, List.set_cons_succ, List.set_cons_zero]
    refine lx_call (by rfl) 28 _ _ (by rfl) (.string ⟨(expI key n).toArray⟩) [.string ⟨key.toArray⟩, .int .i64 n] (by rfl) (by kernel_rfl) (fun _ => by go_simp) (fun X hX hF => expandC key n X (by omega) (HKX.out X hX)) ?_
    simp only [Act.put, List.setIfInBounds_toArray, List.set_cons_succ, List.set_cons_zero]
    refine lx_val (by rfl) (.string ⟨key.toArray⟩) (fun X _ _ => by rfl) ?_
    simp only [Act.put, List.setIfInBounds_toArray, List.set_cons_succ, List.set_cons_zero]
    refine lx_val (by rfl) (.int .i64 n) (fun X _ _ => by rfl) ?_
    simp only [Act.put, List.setIfInBounds_toArray, List.set_cons_succ, List.set_cons_zero]
    refine lx_call (by rfl) 29 _ _ (by rfl) (.string ⟨(expI key n).toArray⟩) [.string ⟨key.toArray⟩, .int .i64 n] (by rfl) (by kernel_rfl) (fun _ => by go_simp) (fun X hX hF => rexpandC key n X (by omega) (HK0X.out X hX)) ?_
    simp only [Act.put, List.setIfInBounds_toArray, List.set_cons_succ, List.set_cons_zero]
    refine lx_val (by rfl) (.bool true) (fun X _ _ => by go_simp) ?_
    simp only [Act.put, List.setIfInBounds_toArray, List.set_cons_succ, List.set_cons_zero]
    refine lx_val (by rfl) (.bool true) (fun X _ _ => by rfl) ?_
    simp only [Act.put, List.setIfInBounds_toArray, List.set_cons_succ, List.set_cons_zero]
    refine lx_val (by rfl) (.bool true) (fun X _ _ => by rfl) ?_
    simp only [Act.put, List.setIfInBounds_toArray, List.set_cons_succ, List.set_cons_zero]
    refine lx_nil ?_
    intro X9 hX9 _
    go_wp2
    go_ret
    exact ⟨rfl, bel_next hb1 hX9⟩
end Go.Proofs.YtmmomcililideaaDoor
