/-
  HashHmacMatchesSpec: the walk.
-/
import Derived.Test.YtmmomcililideaaDoorWk02x
import Derived.Test.YtmmomcililideaaDoorWk02t
import Derived.Test.YtmmomcililideaaDoorLxw
import Derived.Test.YtmmomcililideaaDoorKeys
set_option linter.unusedSimpArgs false
set_option linter.unusedVariables false
namespace Go.Proofs.YtmmomcililideaaDoor
open Go.RowKit

set_option maxRecDepth 100000 in
set_option maxHeartbeats 1600000 in
theorem hmacW (key m : List UInt8) (w : World) (hkl : key.length ≤ 140737488355328) (hml : m.length ≤ 140737488355328) (hK : KK w) (hK0 : KK0 w) :
    Calls Tryd.prog 7 #[.string ⟨key.toArray⟩, .string ⟨m.toArray⟩] w fun e w' => e = .returned (.bool true) ∧ Below w.heap.size w w' := by
  by_cases h1 : 400 < key.length
  · go_enter Tryd.func7, Tryd.ntmps7
    go_wp2_with fail
    refine (sanityC _ hK).mono ?_
    rintro e w1 ⟨rfl, hb1⟩
    go_wp2
    go_ret
    exact ⟨rfl, hb1⟩
  by_cases h2 : 400 < m.length
  · go_enter Tryd.func7, Tryd.ntmps7
    go_wp2_with fail
    refine (sanityC _ hK).mono ?_
    rintro e w1 ⟨rfl, hb1⟩
    go_wp2
    go_ret
    exact ⟨rfl, hb1⟩
  have hl := hmac_len key m
  obtain ⟨H, hH⟩ : ∃ h, h = hmac key m := ⟨_, rfl⟩
  rw [← hH] at hl
  have HH : Hid (∀ _ : Unit, hmac key m = H) := fun _ => hH.symm
  have HL := Lib.hid hl
  clear hH hl
  go_enter Tryd.func7, Tryd.ntmps7
  go_wp2_with fail
  refine (sanityC _ hK).mono ?_
  rintro e w1 ⟨rfl, hb1⟩
  have hKX : ∀ X, Since w1 X → KK X := fun X h => hK.below (bel_next hb1 h) hK.1
  have hK0X : ∀ X, Since w1 X → KK0 X := fun X h => hK0.below (bel_next hb1 h) hK0.1
  have HKX := Lib.hid hKX
  have HK0X := Lib.hid hK0X
  clear hKX hK0X
  go_upto_region 4 with (fail)
  refine lx_plain [] (lasts_nil) ?_
  simp only [its, Nat.zero_add, Nat.reduceAdd]
  refine lx_val (by rfl) (.bool true) (fun X _ _ => by rfl) ?_
  simp only [Act.put, List.setIfInBounds_toArray, List.set_cons_succ, List.set_cons_zero]
  refine lx_val (by rfl) (.bool true) (fun X _ _ => by rfl) ?_
  simp only [Act.put, List.setIfInBounds_toArray, List.set_cons_succ, List.set_cons_zero]
  refine lx_val (by rfl) (.string ⟨key.toArray⟩) (fun X _ _ => by rfl) ?_
  simp only [Act.put, List.setIfInBounds_toArray, List.set_cons_succ, List.set_cons_zero]
  refine lx_val (by rfl) (.string ⟨m.toArray⟩) (fun X _ _ => by rfl) ?_
  simp only [Act.put, List.setIfInBounds_toArray, List.set_cons_succ, List.set_cons_zero]
  refine lx_call (by rfl) 25 _ _ (by rfl) (.agg (H.map B8).toArray) [.string ⟨key.toArray⟩, .string ⟨m.toArray⟩] (by rfl) (by kernel_rfl) (fun _ => by go_simp) (fun X hX hF => (hmacC key m X (by omega) (by omega) (HKX.out X hX)).mono fun e X' ⟨h1, h2⟩ => ⟨by rw [h1, HH.out ()], h2⟩) ?_
  simp only [Act.put, List.setIfInBounds_toArray, List.set_cons_succ, List.set_cons_zero]
  refine lx_val (by rfl) (.string ⟨key.toArray⟩) (fun X _ _ => by rfl) ?_
  simp only [Act.put, List.setIfInBounds_toArray, List.set_cons_succ, List.set_cons_zero]
  refine lx_val (by rfl) (.string ⟨m.toArray⟩) (fun X _ _ => by rfl) ?_
  simp only [Act.put, List.setIfInBounds_toArray, List.set_cons_succ, List.set_cons_zero]
  refine lx_call (by rfl) 26 _ _ (by rfl) (.agg (H.map B8).toArray) [.string ⟨key.toArray⟩, .string ⟨m.toArray⟩] (by rfl) (by kernel_rfl) (fun _ => by go_simp) (fun X hX hF => (rhmacC key m X (by omega) (by omega) (HK0X.out X hX)).mono fun e X' ⟨h1, h2⟩ => ⟨by rw [h1, HH.out ()], h2⟩) ?_
  simp only [Act.put, List.setIfInBounds_toArray, List.set_cons_succ, List.set_cons_zero]
  refine lx_val (by rfl) (.bool true) (fun X _ _ => exec_cmp_agg .eql 24 _ (.tmp 20) (.tmp 23) (by rfl) (H.map B8).toArray (H.map B8).toArray (by rfl) (by rfl) eqm32 _ _ ((eql32 X H H HL.out HL.out).trans (by rw [beq_self_eq_true]))) ?_
  simp only [Act.put, List.setIfInBounds_toArray, List.set_cons_succ, List.set_cons_zero]
  refine lx_val (by rfl) (.bool true) (fun X _ _ => by rfl) ?_
  simp only [Act.put, List.setIfInBounds_toArray, List.set_cons_succ, List.set_cons_zero]
  refine lx_val (by rfl) (.bool true) (fun X _ _ => by rfl) ?_
  simp only [Act.put, List.setIfInBounds_toArray, List.set_cons_succ, List.set_cons_zero]
  refine lx_nil ?_
  intro X9 hX9 _
  go_wp2
  go_ret
  exact ⟨rfl, bel_next hb1 hX9⟩
end Go.Proofs.YtmmomcililideaaDoor
