/-
  HashKeysOfOneBlock: short keys; all keys.
-/
import Derived.Test.YtmmomcililideaaDoorKeys2
import Derived.Outline
set_option linter.unusedSimpArgs false
set_option linter.unusedVariables false
namespace Go.Proofs.YtmmomcililideaaDoor
open Go.RowKit

set_option maxRecDepth 100000 in
set_option maxHeartbeats 1600000 in
theorem keysShort (key m : List UInt8) (z : Int) (n : Nat) (w : World) (h1 : key.length ≤ 200) (h2 : m.length ≤ 400) (h3 : key.length ≤ 64) (hz0 : 0 ≤ z) (hz1 : z ≤ 255) (hn2 : key.length + n ≤ 64) (hmin : (z = (n : Int) ∧ z ≤ 64 - (key.length : Int)) ∨ ((64 : Int) - (key.length : Int) = (n : Int) ∧ ¬ z ≤ 64 - (key.length : Int))) (hK : KK w) :
    Calls Tryd.prog 8 #[.string ⟨key.toArray⟩, .string ⟨m.toArray⟩, .int .u8 z] w fun e w' => e = .returned (.bool true) ∧ Below w.heap.size w w' := by
  have hz2 := zero32
  have hl := hmac_len key m
  have hq : hmac (key ++ zerosL n) m = hmac key m := hmac_key (keyBlock_zeros hn2)
  obtain ⟨H, hH⟩ : ∃ h, h = hmac key m := ⟨_, rfl⟩
  rw [← hH] at hl hq
  have HH : Hid (∀ _ : Unit, hmac key m = H) := fun _ => hH.symm
  have HQ : Hid (∀ _ : Unit, hmac (key ++ zerosL n) m = H) := fun _ => hq
  have HL := Lib.hid hl
  have HM := Lib.hid hmin
  clear hH hl hq hmin
  have hKK : ∀ X, Below w.heap.size w X → KK X := fun X h => hK.below h hK.1
  have HKK := Lib.hid hKK
  clear hKK
  go_enter Tryd.func8, Tryd.ntmps8
  go_wp2_with fail
  refine (sanityC _ hK).mono ?_
  rintro e w1 ⟨rfl, hb1⟩
  go_wp2_with fail
  refine (hmacC key m _ (by omega) (by omega) (HKK.out _ hb1)).mono ?_
  rintro e w2 ⟨rfl, hb2⟩
  rw [HH.out ()]
  have c2 := bel_next hb1 hb2
  clear hb1 hb2
  go_upto_region 8 with ((with_reducible show wpList _ _ _ (⟨none, .store 24 _ _, _, _, _, _⟩ :: _) _ _); refine op_store_new w2 _ _ rfl 24 (.tmp 8) (.tmp 23) rfl rfl (H.map B8).toArray rfl (by simp [HL.out, o32_len]) (by simpa using B8s_one H) (by simp [HL.out, size_o32]) ?_)
  have B1 : Blk (w2.alloc (.cells (H.map B8).toArray 24)) w2.heap.size 24 (H.map B8) := Blk.new rfl
  have c3 := bel_alloc c2 (.cells (H.map B8).toArray 24)
  generalize w2.alloc (.cells (H.map B8).toArray 24) = W2 at B1 c3 ⊢
  generalize w2.heap.size = g1 at B1 ⊢
  clear c2
  rcases HM.out with ⟨rfl, hm2⟩ | ⟨hm1, hm2⟩
  · go_wp2
    refine wp_region_any (by kernel_rfl) ?_
    change wpAny _ _ _ _ _ _ _ (World.drew _)
    refine wpAny_take (i := 0) (v := ?_) rfl (by kernel_rfl) (by kernel_rfl) (by kernel_rfl) (fun _ _ _ h => h) (Or.inl ⟨by rfl, ?_⟩) ?_
    rotate_left
    · intro w; go_simp; rfl
    refine wpAny_take (i := 1) (v := ?_) rfl (by kernel_rfl) (by kernel_rfl) (by kernel_rfl) (fun _ _ _ h => h) (Or.inl ⟨by rfl, ?_⟩) ?_
    rotate_left
    · intro w; go_simp; rfl
    refine wpAny_take (i := 3) (v := ?_) rfl (by kernel_rfl) (by kernel_rfl) (by kernel_rfl) (fun _ _ _ h => h) (Or.inl ⟨by rfl, ?_⟩) ?_
    rotate_left
    · intro w; go_simp; rfl
    refine wpAny_take (i := 4) (v := ?_) rfl (by kernel_rfl) (by kernel_rfl) (by kernel_rfl) (fun _ _ _ h => h) (Or.inl ⟨by rfl, ?_⟩) ?_
    rotate_left
    · intro w; go_simp; rfl
    refine wpAny_take (i := 8) (v := ?_) rfl (by kernel_rfl) (by kernel_rfl) (by kernel_rfl) (fun _ _ _ h => h) (Or.inl ⟨by rfl, ?_⟩) ?_
    rotate_left
    · intro w; go_simp; rfl
    refine kyB_1101100010000 (key := key) (m := m) (H := H) (n := n) (g1 := g1) (w := w) (x45 := undef) (x46 := undef) (x48 := undef) (x49 := undef) (x53 := undef) ?_ HKK.out hn2 h2 HL.out (HQ.out ()) B1.drew c3.drew
    intro g2 X hX
    go_wp2
    go_ret
    exact ⟨rfl, hX⟩
  · go_wp2
    refine wp_region_any (by kernel_rfl) ?_
    change wpAny _ _ _ _ _ _ _ (World.drew _)
    refine wpAny_take (i := 0) (v := ?_) rfl (by kernel_rfl) (by kernel_rfl) (by kernel_rfl) (fun _ _ _ h => h) (Or.inl ⟨by rfl, ?_⟩) ?_
    rotate_left
    · intro w; go_simp; rfl
    refine wpAny_take (i := 1) (v := ?_) rfl (by kernel_rfl) (by kernel_rfl) (by kernel_rfl) (fun _ _ _ h => h) (Or.inl ⟨by rfl, ?_⟩) ?_
    rotate_left
    · intro w; go_simp; rfl
    refine wpAny_take (i := 3) (v := ?_) rfl (by kernel_rfl) (by kernel_rfl) (by kernel_rfl) (fun _ _ _ h => h) (Or.inl ⟨by rfl, ?_⟩) ?_
    rotate_left
    · intro w; go_simp; rfl
    refine wpAny_take (i := 4) (v := ?_) rfl (by kernel_rfl) (by kernel_rfl) (by kernel_rfl) (fun _ _ _ h => h) (Or.inl ⟨by rfl, ?_⟩) ?_
    rotate_left
    · intro w; go_simp; rfl
    refine wpAny_take (i := 8) (v := ?_) rfl (by kernel_rfl) (by kernel_rfl) (by kernel_rfl) (fun _ _ _ h => h) (Or.inl ⟨by rfl, ?_⟩) ?_
    rotate_left
    · intro w; go_simp; rfl
    refine kyB_1101100010000 (key := key) (m := m) (H := H) (n := n) (g1 := g1) (w := w) (x45 := undef) (x46 := undef) (x48 := undef) (x49 := undef) (x53 := undef) ?_ HKK.out hn2 h2 HL.out (HQ.out ()) B1.drew c3.drew
    intro g2 X hX
    go_wp2
    go_ret
    exact ⟨rfl, hX⟩

theorem keysW (key m : List UInt8) (z : Int) (w : World) (hz0 : 0 ≤ z) (hz1 : z ≤ 255) (hkl : key.length ≤ 140737488355328) (hml : m.length ≤ 140737488355328) (hK : KK w) :
    Calls Tryd.prog 8 #[.string ⟨key.toArray⟩, .string ⟨m.toArray⟩, .int .u8 z] w fun e w' => e = .returned (.bool true) ∧ Below w.heap.size w w' := by
  by_cases hb : 200 < key.length ∨ 400 < m.length
  · exact keysBig key m z w hb hkl hml hK
  · by_cases h3 : 64 < key.length
    · exact keysLong key m z w (by omega) (by omega) h3 hK
    · by_cases h4 : z ≤ 64 - (key.length : Int)
      · exact keysShort key m z z.toNat w (by omega) (by omega) (by omega) hz0 hz1 (by omega) (.inl ⟨by omega, h4⟩) hK
      · exact keysShort key m z (64 - key.length) w (by omega) (by omega) (by omega) hz0 hz1 (by omega) (.inr ⟨by omega, h4⟩) hK
end Go.Proofs.YtmmomcililideaaDoor
