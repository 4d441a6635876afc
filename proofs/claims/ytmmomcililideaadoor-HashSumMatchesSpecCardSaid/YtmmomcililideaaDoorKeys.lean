/-
  HashKeysOfOneBlock: the walk.
-/
import Derived.Test.YtmmomcililideaaDoorQb
import Derived.Test.YtmmomcililideaaDoorWk02t
import Derived.Laws.MakeOwn
set_option linter.unusedSimpArgs false
set_option linter.unusedVariables false
namespace Go.Proofs.YtmmomcililideaaDoor
open Go.RowKit

theorem keyBlock_len (key : List UInt8) : (keyBlock key).length = 64 := by
  unfold keyBlock
  simp only [List.length_append, List.length_replicate]
  split
  · rw [sha_len]
  · omega
theorem hmac_key {key key' m : List UInt8} (h : keyBlock key = keyBlock key') : hmac key m = hmac key' m := by
  unfold hmac padOf
  rw [h]
theorem keyBlock_long {key : List UInt8} (h : 64 < key.length) : keyBlock key = keyBlock (sha key) := by
  unfold keyBlock
  simp only
  rw [if_pos h, if_neg (by rw [sha_len]; omega)]
theorem keyBlock_zeros {key : List UInt8} {n : Nat} (h : key.length + n ≤ 64) : keyBlock (key ++ List.replicate n 0) = keyBlock key := by
  unfold keyBlock
  simp only
  rw [if_neg (by simp; omega), if_neg (by omega), List.append_assoc, List.replicate_append_replicate]
  congr 2
  simp
  omega

set_option maxRecDepth 100000 in
set_option maxHeartbeats 1600000 in
theorem keysBig (key m : List UInt8) (z : Int) (w : World) (hb : 200 < key.length ∨ 400 < m.length) (hkl : key.length ≤ 140737488355328) (hml : m.length ≤ 140737488355328) (hK : KK w) :
    Calls Tryd.prog 8 #[.string ⟨key.toArray⟩, .string ⟨m.toArray⟩, .int .u8 z] w fun e w' => e = .returned (.bool true) ∧ Below w.heap.size w w' := by
  by_cases h2 : 200 < key.length
  · go_enter Tryd.func8, Tryd.ntmps8
    go_wp2_with fail
    refine (sanityC _ hK).mono ?_
    rintro e w1 ⟨rfl, hb1⟩
    go_wp2
    go_ret
    exact ⟨rfl, hb1⟩
  · have h4 : 400 < m.length := by omega
    clear hb
    go_enter Tryd.func8, Tryd.ntmps8
    go_wp2_with fail
    refine (sanityC _ hK).mono ?_
    rintro e w1 ⟨rfl, hb1⟩
    go_wp2
    go_ret
    exact ⟨rfl, hb1⟩

set_option maxRecDepth 100000 in
set_option maxHeartbeats 1600000 in
theorem keysLong (key m : List UInt8) (z : Int) (w : World) (h1 : key.length ≤ 200) (h2 : m.length ≤ 400) (h3 : 64 < key.length) (hK : KK w) :
    Calls Tryd.prog 8 #[.string ⟨key.toArray⟩, .string ⟨m.toArray⟩, .int .u8 z] w fun e w' => e = .returned (.bool true) ∧ Below w.heap.size w w' := by
  have hz2 := zero32
  have hl := hmac_len key m
  have hsl := sha_len key
  have hq : hmac (sha key) m = hmac key m := (hmac_key (keyBlock_long h3)).symm
  obtain ⟨H, hH⟩ : ∃ h, h = hmac key m := ⟨_, rfl⟩
  obtain ⟨S, hS⟩ : ∃ h, h = sha key := ⟨_, rfl⟩
  rw [← hH] at hl hq
  rw [← hS] at hsl hq
  have HH : Hid (∀ _ : Unit, hmac key m = H) := fun _ => hH.symm
  have HS : Hid (∀ _ : Unit, sha key = S) := fun _ => hS.symm
  have HQ : Hid (∀ _ : Unit, hmac S m = H) := fun _ => hq
  have HL := Lib.hid hl
  have HSL := Lib.hid hsl
  clear hH hS hl hsl hq
  have hKK : ∀ X, Below w.heap.size w X → KK X := fun X h => hK.below h hK.1
  have HKK := Lib.hid hKK
  clear hKK
  go_enter Tryd.func8, Tryd.ntmps8
  go_wp2_with fail
  refine (sanityC _ hK).mono ?_
  rintro e w1 ⟨rfl, hb1⟩
  go_wp2_with fail
  refine (hmacC key m _ (by omega) (by omega) (HKK.out _ hb1)).mono ?_
  rintro e w2 ⟨rfl, hb2⟩
  rw [HH.out ()]
  have c2 := bel_next hb1 hb2
  clear hb1 hb2
  go_upto_region 6 with ((with_reducible show wpList _ _ _ (⟨none, .store 24 _ _, _, _, _, _⟩ :: _) _ _); refine op_store_new w2 _ _ rfl 24 (.tmp 8) (.tmp 23) rfl rfl (H.map B8).toArray rfl (by simp [HL.out, o32_len]) (by simpa using B8s_one H) (by simp [HL.out, size_o32]) ?_)
  have B1 : Blk (w2.alloc (.cells (H.map B8).toArray 24)) w2.heap.size 24 (H.map B8) := Blk.new rfl
  have c3 := bel_alloc c2 (.cells (H.map B8).toArray 24)
  generalize w2.alloc (.cells (H.map B8).toArray 24) = W2 at B1 c3 ⊢
  generalize w2.heap.size = g1 at B1 ⊢
  clear c2
  obtain ⟨c0, w3, hcv, hRc, hbc⟩ := conv_bytes (P := Tryd.prog) W2 9 22 5 Tryd.underlying9 Tryd.underlying22 Tryd.underlying5 key (by omega)
  have B1 := B1.bel hbc
  have c3 := bel_next c3 hbc
  go_wp2_with fail
  refine (hashC _ _ _ key _ hRc (by omega) (HKK.out _ c3)).mono ?_
  rintro e w4 ⟨rfl, hb4⟩
  rw [HS.out ()]
  have B1 := B1.bel hb4
  have c4 := bel_next c3 hb4
  clear hb4 hcv hRc hbc c3
  go_upto_region 7 with ((with_reducible show wpList _ _ _ (⟨none, .store 24 _ _, _, _, _, _⟩ :: _) _ _); refine op_store_new w4 _ _ rfl 24 (.tmp 9) (.tmp 29) rfl rfl (S.map B8).toArray rfl (by simp [HSL.out, o32_len]) (by simpa using B8s_one S) (by simp [HSL.out, size_o32]) ?_)
  have B2 : Blk (w4.alloc (.cells (S.map B8).toArray 24)) w4.heap.size 24 (S.map B8) := Blk.new rfl
  have B1 := B1.alloc (.cells (S.map B8).toArray 24)
  have c5 := bel_alloc c4 (.cells (S.map B8).toArray 24)
  generalize w4.alloc (.cells (S.map B8).toArray 24) = W4' at B1 B2 c5 ⊢
  generalize w4.heap.size = g2 at B2 ⊢
  clear c4
  have hKX : ∀ X, Since W4' X → KK X := fun X h => HKK.out _ (bel_next c5 h)
  have HKX := Lib.hid hKX
  clear hKX
  have hee : (H == H) = true := beq_self_eq_true _
  refine wp_region_qb (by kernel_rfl) (by kernel_rfl) ?_
  refine qb_val (by rfl) (.bool true) (fun X _ => by rfl) ?_
  simp only [Act.put, List.setIfInBounds_toArray, List.set_cons_succ, List.set_cons_zero]
  refine qb_val (by rfl) (.bool true) (fun X _ => by rfl) ?_
  simp only [Act.put, List.setIfInBounds_toArray, List.set_cons_succ, List.set_cons_zero]
  refine qb_load (by rfl) 24 (.tmp 8) (by rfl) g1 0 (by rfl) _ Tryd.underlying24 rfl (H.map B8) B1.lt B1.cl (by rw [List.length_map, HL.out]; exact size_o32) ?_
  simp only [Act.put, List.setIfInBounds_toArray, List.set_cons_succ, List.set_cons_zero]
  refine qb_load (by rfl) 24 (.tmp 9) (by rfl) g2 0 (by rfl) _ Tryd.underlying24 rfl (S.map B8) B2.lt B2.cl (by rw [List.length_map, HSL.out]; exact size_o32) ?_
  simp only [Act.put, List.setIfInBounds_toArray, List.set_cons_succ, List.set_cons_zero]
  refine qb_call (by rfl) 27 _ _ (by rfl) (.string ⟨S.toArray⟩) [.agg (S.map B8).toArray] (by rfl) (fun _ => by go_simp) (fun X hX => (b32C S X HSL.out).mono fun e X' ⟨h1, h2⟩ => ⟨h1, hX.next h2⟩) ?_
  simp only [Act.put, List.setIfInBounds_toArray, List.set_cons_succ, List.set_cons_zero]
  refine qb_val (by rfl) (.string ⟨m.toArray⟩) (fun X _ => by rfl) ?_
  simp only [Act.put, List.setIfInBounds_toArray, List.set_cons_succ, List.set_cons_zero]
  refine qb_call (by rfl) 25 _ _ (by rfl) (.agg (H.map B8).toArray) [.string ⟨S.toArray⟩, .string ⟨m.toArray⟩] (by rfl) (fun _ => by go_simp) (fun X hX => (hmacC S m X (by rw [HSL.out]; omega) (by omega) (HKX.out X hX)).mono fun e X' ⟨h1, h2⟩ => ⟨by rw [h1, HQ.out ()], hX.next h2⟩) ?_
  simp only [Act.put, List.setIfInBounds_toArray, List.set_cons_succ, List.set_cons_zero]
  refine qb_val (by rfl) (.bool true) (fun X _ => exec_cmp_agg .eql 24 _ (.tmp 32) (.tmp 36) (by rfl) (H.map B8).toArray (H.map B8).toArray (by rfl) (by rfl) eqm32 _ _ ((eql32 X H H HL.out HL.out).trans (by rw [hee]))) ?_
  simp only [Act.put, List.setIfInBounds_toArray, List.set_cons_succ, List.set_cons_zero]
  refine qb_val (by rfl) (.bool true) (fun X _ => by rfl) ?_
  simp only [Act.put, List.setIfInBounds_toArray, List.set_cons_succ, List.set_cons_zero]
  refine qb_val (by rfl) (.bool true) (fun X _ => by rfl) ?_
  simp only [Act.put, List.setIfInBounds_toArray, List.set_cons_succ, List.set_cons_zero]
  refine wpQuiet_nil ?_
  intro w9 hS9
  go_wp2
  go_ret
  exact ⟨rfl, bel_next c5 hS9⟩
end Go.Proofs.YtmmomcililideaaDoor
