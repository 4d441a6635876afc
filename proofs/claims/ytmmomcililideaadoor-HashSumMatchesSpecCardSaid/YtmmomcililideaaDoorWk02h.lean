/-
  The reference's padded message.
-/
import Derived.Test.YtmmomcililideaaDoorWk02g
set_option linter.unusedSimpArgs false
set_option linter.unusedVariables false
namespace Go.Proofs.YtmmomcililideaaDoor
open Go.RowKit

theorem own_empty {w : World} {e : TypeId} (B : Nat) (hB : B ≤ w.heap.size) : (w.alloc (.cells #[] e)).ownsRow B e 1 (.slice (some ⟨w.heap.size, 0, none⟩) 0 0) 0 [] :=
  ⟨rfl, .inr ⟨w.heap.size, 0, #[], rfl, hB, heap_alloc_new w _, Nat.le_refl _, by unfold maxLen; omega, rfl, rfl⟩⟩

set_option maxRecDepth 100000 in
set_option maxHeartbeats 1600000 in
theorem paddedC (A : Option Addr) (n c : Nat) (b : List UInt8) (w : World) (hr : Rd w 1 (.slice A n c) n (b.map B8)) (hn : n ≤ 1048576) :
    Calls Tryd.prog 35 #[.slice A n c] w fun e w' => ∃ A' c', e = .returned (.slice A' (b ++ padding b.length).length c') ∧ w'.ownsRow w.heap.size 5 1 (.slice A' (b ++ padding b.length).length c') (b ++ padding b.length).length ((b ++ padding b.length).map B8) ∧ Below w.heap.size w w' := by
  obtain rfl := hr.n_eq
  have ho0 := own_empty (w := w) (e := 5) w.heap.size (Nat.le_refl _)
  have b0 := (Below.refl w.heap.size w).alloc (Nat.le_refl _) (.cells #[] 5)
  have hr0 := hr.alloc (.cells #[] 5)
  go_enter Tryd.func35, Tryd.ntmps35
  go_upto_region 2 with (at_builtin; refine append_rd rfl (.tmp 6) (.tmp 7) 22 rfl w.heap.size 5 _ 1 1 Tryd.underlying22 info_u8 rfl (by decide) _ _ _ rfl ho0 _ _ _ rfl hr0 (B8s_one _) (by omega) (by unfold maxLen; omega) b0.size ?_; intro v1 w1 hown1 hg1 hb1)
  simp only [Nat.zero_add, List.nil_append] at hown1
  have hR1 := Rd.of_own hown1
  obtain ⟨A1, c1, rfl, _, _⟩ := hR1.form
  clear hR1 ho0 hr0 hg1
  have hb : Below w.heap.size w w1 := b0.trans hb1
  have hown := hown1
  go_wp2_with (at_builtin; refine append_one _ 5 rfl (.tmp 9) (.tmp 10) 22 rfl w.heap.size 5 _ 1 Tryd.underlying22 info_u8 rfl _ (b.length) _ rfl hown rfl rfl (by omega) (by unfold maxLen; omega) hb.size ?_; intro v2 w2 hown2 hg2 hb2; have hR2 := Rd.of_own hown2; obtain ⟨A2, c2, rfl, hc3, hc4⟩ := hR2.form; clear hR2 hg2)
  have hb3 := hb.trans hb2
  have hown3 : w2.ownsRow w.heap.size 5 1 (.slice A2 (b.length + 1) c2) (b.length + 1 + 0) ((b ++ (128 :: List.replicate 0 0 : List UInt8)).map B8) := by
    have e : ([.int .u8 128] : List Value) = [(128 : UInt8)].map B8 := rfl
    rw [e, ← List.map_append] at hown2
    exact hown2
  obtain ⟨z, hze⟩ : ∃ z, z = zerosFor b.length := ⟨_, rfl⟩
  have hz1 : z < 64 ∧ (b.length + 1 + z) % 64 = 56 := by rw [hze]; unfold zerosFor; omega
  have hz2 : ∀ j, j < z → (b.length + 1 + j) % 64 ≠ 56 := fun j hj => by rw [hze] at hj; unfold zerosFor at hj; omega
  have HZ := Lib.hid hz2
  have HZE := Lib.hid hze
  obtain ⟨hz3, hz4⟩ := hz1
  have HZ4 := Lib.hid hz4
  clear hz2 hze hz4 hown hown1 hown2 hb2 hb1 hb b0
  go_loopw [3] (fun v wr => ∃ j : Nat, j ≤ z ∧ wr.ownsRow w.heap.size 5 1 v (b.length + 1 + j) ((b ++ (128 :: List.replicate j 0 : List UInt8)).map B8) ∧ Below w.heap.size w wr)
    (fun v _ => match v with | .slice _ n _ => b.length + 66 - n | _ => 0)
  case atStart => exact ⟨0, by omega, hown3, hb3⟩
  case round =>
    clear hown3 hb3
    obtain ⟨j, hj, hown, hb⟩ := hrel
    have hR := Rd.of_own hown
    obtain ⟨A3, c3, rfl, hc1, hc2⟩ := hR.form
    clear hR
    by_cases hjz : j < z
    · have ht := HZ.out j hjz
      have hne : (((b.length : Int) + 1 + (j : Int)) % 64 != 56) = true := by rw [bne_iff_ne]; omega
      clear ht
      go_wp2_with (at_builtin; refine append_one _ 5 rfl (.tmp 16) (.tmp 17) 22 rfl w.heap.size 5 _ 1 Tryd.underlying22 info_u8 rfl _ (b.length + 1 + j) _ rfl hown rfl rfl (by omega) (by unfold maxLen; omega) hb.size ?_; intro v2 w2 hown2 hg2 hb2; have hR2 := Rd.of_own hown2; obtain ⟨A2, c2, rfl, hc3, hc4⟩ := hR2.form; clear hR2 hg2)
      go_roundw
      case rel =>
        rw [List.map_append, List.append_assoc, pad_step, ← List.map_append] at hown2
        exact ⟨j + 1, by omega, hown2, hb.trans hb2⟩
      case measure => simp; omega
    · obtain rfl : j = z := by omega
      have ht := HZ4.out
      have hne : (((b.length : Int) + 1 + (j : Int)) % 64 != 56) = false := by simp; omega
      clear ht
      obtain ⟨wo, rfl⟩ : ∃ wo : World, wo = wr := ⟨_, rfl⟩
      have hownP : wo.ownsRow w.heap.size 5 1 (.slice A3 (b.length + 1 + j) c3) (b.length + 1 + j + (0 : Int).toNat) (((b ++ (128 :: List.replicate j 0 : List UInt8)) ++ (be8 (8 * b.length)).take (0 : Int).toNat).map B8) := by simpa using hown
      go_wp2
      go_loopw [3, 5] (fun v i wr => ∃ i0 : Int, 0 ≤ i0 ∧ i0 ≤ 8 ∧ i = .int .i64 i0 ∧ wr.ownsRow w.heap.size 5 1 v (b.length + 1 + j + i0.toNat) (((b ++ (128 :: List.replicate j 0 : List UInt8)) ++ (be8 (8 * b.length)).take i0.toNat).map B8) ∧ Below w.heap.size w wr)
        (fun _ i _ => (8 - intOf i).toNat)
      case atStart => exact ⟨0, by omega, by omega, rfl, hownP, hb⟩
      case round =>
        clear hownP hown hb hne hc1 hc2
        obtain ⟨i0, hi0, hi8, rfl, hown, hb⟩ := hrel
        have hR := Rd.of_own hown
        obtain ⟨A4, c4, rfl, hc1, hc2⟩ := hR.form
        clear hR
        obtain rfl | rfl | rfl | rfl | rfl | rfl | rfl | rfl | rfl : i0 = 0 ∨ i0 = 1 ∨ i0 = 2 ∨ i0 = 3 ∨ i0 = 4 ∨ i0 = 5 ∨ i0 = 6 ∨ i0 = 7 ∨ i0 = 8 := by omega
        · simp only [show ((0 : Int)).toNat = 0 from rfl] at hown hc1
          go_wp2_with (at_builtin; refine append_one _ 5 rfl (.tmp 27) (.tmp 34) 22 rfl w.heap.size 5 _ 1 Tryd.underlying22 info_u8 rfl _ (b.length + 1 + j + 0) _ rfl hown rfl rfl (by omega) (by unfold maxLen; omega) hb.size ?_; intro v2 w2 hown2 hg2 hb2; have hR2 := Rd.of_own hown2; obtain ⟨A2, c2, rfl, hc3, hc4⟩ := hR2.form; clear hR2 hg2)
          go_roundw
          case rel =>
            rw [be8_step (n := 8 * b.length) (i := 0) 72057594037927936 (by omega) rfl (by omega)] at hown2
            exact ⟨1, by omega, by omega, rfl, hown2, hb.trans hb2⟩
          case measure => simp [intOf]
        · simp only [show ((1 : Int)).toNat = 1 from rfl] at hown hc1
          go_wp2_with (at_builtin; refine append_one _ 5 rfl (.tmp 27) (.tmp 34) 22 rfl w.heap.size 5 _ 1 Tryd.underlying22 info_u8 rfl _ (b.length + 1 + j + 1) _ rfl hown rfl rfl (by omega) (by unfold maxLen; omega) hb.size ?_; intro v2 w2 hown2 hg2 hb2; have hR2 := Rd.of_own hown2; obtain ⟨A2, c2, rfl, hc3, hc4⟩ := hR2.form; clear hR2 hg2)
          go_roundw
          case rel =>
            rw [be8_step (n := 8 * b.length) (i := 1) 281474976710656 (by omega) rfl (by omega)] at hown2
            exact ⟨2, by omega, by omega, rfl, hown2, hb.trans hb2⟩
          case measure => simp [intOf]
        · simp only [show ((2 : Int)).toNat = 2 from rfl] at hown hc1
          go_wp2_with (at_builtin; refine append_one _ 5 rfl (.tmp 27) (.tmp 34) 22 rfl w.heap.size 5 _ 1 Tryd.underlying22 info_u8 rfl _ (b.length + 1 + j + 2) _ rfl hown rfl rfl (by omega) (by unfold maxLen; omega) hb.size ?_; intro v2 w2 hown2 hg2 hb2; have hR2 := Rd.of_own hown2; obtain ⟨A2, c2, rfl, hc3, hc4⟩ := hR2.form; clear hR2 hg2)
          go_roundw
          case rel =>
            rw [be8_step (n := 8 * b.length) (i := 2) 1099511627776 (by omega) rfl (by omega)] at hown2
            exact ⟨3, by omega, by omega, rfl, hown2, hb.trans hb2⟩
          case measure => simp [intOf]
        · simp only [show ((3 : Int)).toNat = 3 from rfl] at hown hc1
          go_wp2_with (at_builtin; refine append_one _ 5 rfl (.tmp 27) (.tmp 34) 22 rfl w.heap.size 5 _ 1 Tryd.underlying22 info_u8 rfl _ (b.length + 1 + j + 3) _ rfl hown rfl rfl (by omega) (by unfold maxLen; omega) hb.size ?_; intro v2 w2 hown2 hg2 hb2; have hR2 := Rd.of_own hown2; obtain ⟨A2, c2, rfl, hc3, hc4⟩ := hR2.form; clear hR2 hg2)
          go_roundw
          case rel =>
            rw [be8_step (n := 8 * b.length) (i := 3) 4294967296 (by omega) rfl (by omega)] at hown2
            exact ⟨4, by omega, by omega, rfl, hown2, hb.trans hb2⟩
          case measure => simp [intOf]
        · simp only [show ((4 : Int)).toNat = 4 from rfl] at hown hc1
          go_wp2_with (at_builtin; refine append_one _ 5 rfl (.tmp 27) (.tmp 34) 22 rfl w.heap.size 5 _ 1 Tryd.underlying22 info_u8 rfl _ (b.length + 1 + j + 4) _ rfl hown rfl rfl (by omega) (by unfold maxLen; omega) hb.size ?_; intro v2 w2 hown2 hg2 hb2; have hR2 := Rd.of_own hown2; obtain ⟨A2, c2, rfl, hc3, hc4⟩ := hR2.form; clear hR2 hg2)
          go_roundw
          case rel =>
            rw [be8_step (n := 8 * b.length) (i := 4) 16777216 (by omega) rfl (by omega)] at hown2
            exact ⟨5, by omega, by omega, rfl, hown2, hb.trans hb2⟩
          case measure => simp [intOf]
        · simp only [show ((5 : Int)).toNat = 5 from rfl] at hown hc1
          go_wp2_with (at_builtin; refine append_one _ 5 rfl (.tmp 27) (.tmp 34) 22 rfl w.heap.size 5 _ 1 Tryd.underlying22 info_u8 rfl _ (b.length + 1 + j + 5) _ rfl hown rfl rfl (by omega) (by unfold maxLen; omega) hb.size ?_; intro v2 w2 hown2 hg2 hb2; have hR2 := Rd.of_own hown2; obtain ⟨A2, c2, rfl, hc3, hc4⟩ := hR2.form; clear hR2 hg2)
          go_roundw
          case rel =>
            rw [be8_step (n := 8 * b.length) (i := 5) 65536 (by omega) rfl (by omega)] at hown2
            exact ⟨6, by omega, by omega, rfl, hown2, hb.trans hb2⟩
          case measure => simp [intOf]
        · simp only [show ((6 : Int)).toNat = 6 from rfl] at hown hc1
          go_wp2_with (at_builtin; refine append_one _ 5 rfl (.tmp 27) (.tmp 34) 22 rfl w.heap.size 5 _ 1 Tryd.underlying22 info_u8 rfl _ (b.length + 1 + j + 6) _ rfl hown rfl rfl (by omega) (by unfold maxLen; omega) hb.size ?_; intro v2 w2 hown2 hg2 hb2; have hR2 := Rd.of_own hown2; obtain ⟨A2, c2, rfl, hc3, hc4⟩ := hR2.form; clear hR2 hg2)
          go_roundw
          case rel =>
            rw [be8_step (n := 8 * b.length) (i := 6) 256 (by omega) rfl (by omega)] at hown2
            exact ⟨7, by omega, by omega, rfl, hown2, hb.trans hb2⟩
          case measure => simp [intOf]
        · simp only [show ((7 : Int)).toNat = 7 from rfl] at hown hc1
          go_wp2_with (at_builtin; refine append_one _ 5 rfl (.tmp 27) (.tmp 34) 22 rfl w.heap.size 5 _ 1 Tryd.underlying22 info_u8 rfl _ (b.length + 1 + j + 7) _ rfl hown rfl rfl (by omega) (by unfold maxLen; omega) hb.size ?_; intro v2 w2 hown2 hg2 hb2; have hR2 := Rd.of_own hown2; obtain ⟨A2, c2, rfl, hc3, hc4⟩ := hR2.form; clear hR2 hg2)
          go_roundw
          case rel =>
            rw [be8_step (n := 8 * b.length) (i := 7) 1 (by omega) rfl (by omega)] at hown2
            exact ⟨8, by omega, by omega, rfl, hown2, hb.trans hb2⟩
          case measure => simp [intOf]
        · simp only [show ((8 : Int)).toNat = 8 from rfl] at hown hc1
          have hpd : (b ++ (128 :: List.replicate j 0 : List UInt8)) ++ (be8 (8 * b.length)).take 8 = b ++ padding b.length := by
            rw [HZE.out]
            unfold padding
            rw [List.take_of_length_le (by simp [be8]), List.append_assoc]
          rw [hpd] at hown
          have hpl : b.length + 1 + j + 8 = (b ++ padding b.length).length := by rw [← hpd]; simp [be8]; omega
          rw [hpl] at hown
          have HOW := Lib.hid hown
          have HPL := Lib.hid hpl
          clear hpd hpl hown
          go_wp2
          go_ret
          exact ⟨A4, c4, by rw [← HPL.out]; rfl, HOW.out, hb⟩
end Go.Proofs.YtmmomcililideaaDoor
