/-
  Keyed hashes, as the program reckons them.
-/
import Derived.Test.YtmmomcililideaaDoorWk02f
set_option linter.unusedSimpArgs false
set_option linter.unusedVariables false
namespace Go.Proofs.YtmmomcililideaaDoor
open Go.RowKit

def hmac (key m : List UInt8) : List UInt8 := sha (padOf key 92 ++ sha (padOf key 54 ++ m))
theorem padOf_len (key : List UInt8) (x : UInt8) : (padOf key x).length = 64 := by
  unfold padOf keyBlock
  simp only [List.length_map, List.length_append, List.length_replicate]
  split
  · rw [sha_len]
  · omega

theorem padX (key : List UInt8) (x : UInt8) (P : List UInt8) (w : World) (hP : padOf key x = P) (hn : key.length ≤ 1048576) (hK : KK w) :
    Calls Tryd.prog 42 #[.string ⟨key.toArray⟩, .int .u8 (x.toNat : Int)] w fun e w' => e = .returned (.string ⟨P.toArray⟩) ∧ Below w.heap.size w w' := by
  subst hP
  exact padC key x w hn hK
theorem padX54 (key : List UInt8) (P : List UInt8) (w : World) (hP : padOf key 54 = P) (hn : key.length ≤ 1048576) (hK : KK w) :
    Calls Tryd.prog 42 #[.string ⟨key.toArray⟩, .int .u8 54] w fun e w' => e = .returned (.string ⟨P.toArray⟩) ∧ Below w.heap.size w w' := padX key 54 P w hP hn hK
theorem padX92 (key : List UInt8) (P : List UInt8) (w : World) (hP : padOf key 92 = P) (hn : key.length ≤ 1048576) (hK : KK w) :
    Calls Tryd.prog 42 #[.string ⟨key.toArray⟩, .int .u8 92] w fun e w' => e = .returned (.string ⟨P.toArray⟩) ∧ Below w.heap.size w w' := padX key 92 P w hP hn hK

set_option maxRecDepth 100000 in
set_option maxHeartbeats 1000000 in
theorem hmacC (key m : List UInt8) (w : World) (hk : key.length ≤ 1048576) (hm : m.length ≤ 1048576) (hK : KK w) :
    Calls Tryd.prog 25 #[.string ⟨key.toArray⟩, .string ⟨m.toArray⟩] w fun e w' => e = .returned (.agg ((hmac key m).map B8).toArray) ∧ Below w.heap.size w w' := by
  have hz := zero32
  have B0 : Blk (w.alloc (.cells o32.toArray 24)) w.heap.size 24 o32 := Blk.new rfl
  have b0 := (Below.refl w.heap.size w).alloc (Nat.le_refl _) (.cells o32.toArray 24)
  obtain ⟨P, hP⟩ : ∃ P, padOf key 54 = P := ⟨_, rfl⟩
  obtain ⟨P2, hP2⟩ : ∃ P, padOf key 92 = P := ⟨_, rfl⟩
  have hp1 : P.length = 64 := by rw [← hP]; exact padOf_len key 54
  have hp2 : P2.length = 64 := by rw [← hP2]; exact padOf_len key 92
  have HP : Hid (∀ _ : Unit, padOf key 54 = P) := fun _ => hP
  have HP2 : Hid (∀ _ : Unit, padOf key 92 = P2) := fun _ => hP2
  have hp1' : P.length ≤ 64 := by omega
  have hp2' : P2.length ≤ 64 := by omega
  clear hP hP2 hp1 hp2
  go_enter Tryd.func25, Tryd.ntmps25
  go_upto_region 1 with fail
  generalize w.alloc (.cells o32.toArray 24) = W at B0 b0 ⊢
  go_wp2_with fail
  refine (beginC _).mono ?_
  rintro e w1 ⟨v1, rfl, hI1, hb1⟩
  have b1 := b0.trans (hb1.mono b0.size)
  have B1 := B0.below hb1 B0.lt
  go_wp2_with fail
  refine (padX54 key P _ (HP.out ()) hk (hK.below b1 hK.1)).mono ?_
  rintro e w2 ⟨rfl, hb2⟩
  have b2 := b1.trans (hb2.mono b1.size)
  have B2 := B1.below hb2 B1.lt
  go_wp2_with fail
  refine (addC [] P v1 _ hI1 (by simp; omega) (hK.below b2 hK.1)).mono ?_
  rintro e w3 ⟨v3, rfl, hI3, hb3⟩
  have b3 := b2.trans (hb3.mono b2.size)
  have B3 := B2.below hb3 B2.lt
  go_wp2_with fail
  refine (addC P m v3 _ hI3 (by omega) (hK.below b3 hK.1)).mono ?_
  rintro e w4 ⟨v4, rfl, hI4, hb4⟩
  have b4 := b3.trans (hb4.mono b3.size)
  have B4 := B3.below hb4 B3.lt
  go_wp2_with fail
  refine (sumC (P ++ m) v4 _ hI4 (by rw [List.length_append]; omega) (hK.below b4 hK.1)).mono ?_
  rintro e w5 ⟨rfl, hb5⟩
  have b5 := b4.trans (hb5.mono b4.size)
  have B5 := B4.below hb5 B4.lt
  obtain ⟨h1, hh1⟩ : ∃ h1, h1 = sha (P ++ m) := ⟨_, rfl⟩
  have hl1 : h1.length = 32 := by rw [hh1]; exact sha_len _
  rw [← hh1]
  have HH1 : Hid (∀ _ : Unit, h1 = sha (padOf key 54 ++ m)) := fun _ => by rw [HP.out ()]; exact hh1
  have HL1 := Lib.hid hl1
  clear hh1 hl1 hI1 hI3 hI4 hb1 hb2 hb3 hb4 hb5 b1 b2 b3 b4 B0 B1 B2 B3 B4
  go_upto_region 2 with ((with_reducible show wpList _ _ _ _ _ _); refine op_store_new w5 _ _ rfl 24 (.tmp 5) (.tmp 12) rfl rfl (h1.map B8).toArray rfl (by simp [HL1.out, o32_len]) (by simpa using B8s_one h1) (by simp [HL1.out, size_o32]) ?_)
  have B6 := B5.alloc (.cells (h1.map B8).toArray 24)
  have b6 := b5.alloc b5.size (.cells (h1.map B8).toArray 24)
  have hR6 : Rd (w5.alloc (.cells (h1.map B8).toArray 24)) 1 (.slice (some ⟨w5.heap.size, 0, none⟩) 32 32) 32 (h1.map B8) := Rd.new rfl (by rw [List.length_map]; exact HL1.out) (by unfold maxLen; omega)
  generalize w5.alloc (.cells (h1.map B8).toArray 24) = w6 at B6 b6 hR6 ⊢
  have hs0 := run_str 22 9 5 Tryd.underlying22 Tryd.underlying5 Tryd.underlying9 hR6.drew
  clear B5 b5
  have la1 : ([] : List UInt8).length + P2.length ≤ 1152921504606846976 := by simp; omega
  have la2 : P2.length + h1.length ≤ 1152921504606846976 := by have := HL1.out; omega
  go_region_with (first
    | (go_at_call 16; refine (beginC _).mono ?_; rintro e w7 ⟨v7, rfl, hI7, hb7⟩; have R7 := hR6.drew.below hb7; have hs7 := run_str 22 9 5 Tryd.underlying22 Tryd.underlying5 Tryd.underlying9 R7; have B7 := B6.drew.below hb7 B6.lt; have b7 := b6.drew.trans (hb7.mono b6.drew.size))
    | (go_at_call 42; refine (padX92 key P2 _ (HP2.out ()) hk (hK.below b7 hK.1)).mono ?_; rintro e w8 ⟨rfl, hb8⟩; have R8 := R7.below hb8; have hs8 := run_str 22 9 5 Tryd.underlying22 Tryd.underlying5 Tryd.underlying9 R8; have Q8 := B7.below hb8 B7.lt; have b8 := b7.trans (hb8.mono b7.size); have hK8 := hK.below b8 hK.1)
    | (go_at_call 17; (with_reducible refine (addC [] P2 v7 _ hI7 la1 hK8).mono ?_); rintro e w9 ⟨v9, rfl, hI9, hb9⟩; have R9 := R8.below hb9; have hs9 := run_str 22 9 5 Tryd.underlying22 Tryd.underlying5 Tryd.underlying9 R9; have B9 := Q8.below hb9 Q8.lt; have b9 := b8.trans (hb9.mono b8.size); have hK9 := hK.below b9 hK.1; have hI9' : IsStr P2 v9 := hI9)
    | (go_at_call 17; (with_reducible refine (addC P2 h1 v9 _ hI9' la2 hK9).mono ?_); rintro e w10 ⟨v10, rfl, hI10, hb10⟩; have B10 := B9.below hb10 B9.lt; have b10 := b9.trans (hb10.mono b9.size))
    | (go_at_call 19; refine (sumC (P2 ++ h1) v10 _ hI10 (by rw [List.length_append]; have := HL1.out; omega) (hK.below b10 hK.1)).mono ?_; rintro e w11 ⟨rfl, hb11⟩; have B11 := B10.below hb11 B10.lt; have b11 := b10.trans (hb11.mono b10.size); have hst := run_store_ys (P := Tryd.prog) B11 ((sha (P2 ++ h1)).map B8) (by rw [List.length_map, sha_len, o32_len]) (B8s_one _)))
  all_goals
    have hC := B11.row ((sha (P2 ++ h1)).map B8)
    have b12 := bel_row b11 (Nat.le_refl _) b11.size ((sha (P2 ++ h1)).map B8).toArray
    clear hst
    generalize w11.setRow w.heap.size ((sha (P2 ++ h1)).map B8).toArray = w12 at hC b12 ⊢
    have hf : sha (P2 ++ h1) = hmac key m := by rw [HH1.out (), ← HP2.out ()]; rfl
    rw [hf] at hC
    clear hf
    go_wp2_with fail
    have hld := run_loadVar_cl (P := Tryd.prog) 24 _ w.heap.size 0 ((hmac key m).map B8) hC.cl Tryd.underlying24 rfl (by rw [List.length_map]; unfold hmac; rw [sha_len]; exact size_o32)
    refine bodyPost_ret (v := .agg ((hmac key m).map B8).toArray) ?_ rfl ⟨rfl, b12⟩
    simp [results, Tryd.results25, asAddr, hld]
end Go.Proofs.YtmmomcililideaaDoor
