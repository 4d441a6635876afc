/-
  The wire's encodings of integers and strings, of the program and of the reference.
-/
import Derived.Test.YtmmomcililideaaDoorWk01a
set_option linter.unusedSimpArgs false
set_option linter.unusedVariables false
namespace Go.Proofs.YtmmomcililideaaDoor
open Go.RowKit

set_option maxRecDepth 100000 in
theorem rInt (n : Int) (w : World) (h1 : -9223372036854775808 ≤ n) (h2 : n ≤ 9223372036854775807) :
    Calls Tryd.prog 46 #[.int .i64 n] w fun e w' => ∃ v, e = .returned v ∧ Mk w w' 5 1 v (encI n).length ((encI n).map B8) := by
  have hzl := zz_lt h1 h2
  obtain ⟨z0, hz0⟩ : ∃ z0 : Nat, z0 = zz n := ⟨_, rfl⟩
  have HE : Hid (encI n = encF 9 z0) := by rw [hz0]; rfl
  have hz1 : z0 < 18446744073709551616 := by omega
  have HN : Hid (z0 = zz n) := hz0
  have P2 : ¬ n < 0 → n * 2 = (z0 : Int) := fun h => by rw [hz0]; unfold zz; rw [if_pos (by omega)]; omega
  clear hz0
  by_cases hn : n < 0
  · have P1 : (-1 - n) * 2 + 1 = (z0 : Int) := by rw [HN.out]; unfold zz; rw [if_neg (by omega)]; omega
    clear P2
    go_enter Tryd.func46, Tryd.ntmps46
    go_wp2
    go_loopw [3, 4] (fun z v wr => ∃ (f zn : Nat) (acc : List UInt8), z = .int .u64 (zn : Int) ∧ zn < 2 * 128 ^ f ∧ f ≤ 9 ∧ acc.length + f = 9 ∧ acc ++ encF f zn = encI n ∧
        wr.ownsRow w.heap.size 5 1 v acc.length (acc.map B8) ∧ Below w.heap.size w wr) (fun z _ _ => (intOf z).toNat)
    case atStart => exact ⟨9, z0, [], rfl, by omega, by omega, rfl, HE.out.symm, World.ownsRow_nil _ _ _ _, Below.refl _ _⟩
    case round =>
      obtain ⟨f, zn, acc, rfl, hz, hf, hl, hacc, hown, hb⟩ := hrel
      have hz2 : (zn : Int) ≤ 18446744073709551615 := by
        have : 128 ^ f ≤ 128 ^ 9 := Nat.pow_le_pow_right (by decide) hf
        omega
      clear P1
      go_wp2_with (first
        | (at_builtin; refine append_one _ _ rfl (.tmp 17) (.tmp 22) 22 rfl w.heap.size 5 _ 1 Tryd.underlying22 info_u8 rfl _ _ _ rfl hown rfl rfl (by omega) (by unfold maxLen; omega) hb.size ?_; intro v1 w1 hown1 hg1 hb1)
        | (at_builtin; refine append_one _ _ rfl (.tmp 26) (.tmp 29) 22 rfl w.heap.size 5 _ 1 Tryd.underlying22 info_u8 rfl _ _ _ rfl hown rfl rfl (by omega) (by unfold maxLen; omega) hb.size ?_; intro v1 w1 hown1 hg1 hb1))
      · obtain ⟨f', q1, q2, q3⟩ := enc_round hacc hz hl (by omega)
        go_roundw
        case rel =>
          refine ⟨f', zn / 128, _, by go_num, q1, by omega, q2, q3, ?_, hb.trans hb1⟩
          rw [mod_plus, ← B8] at hown1
          simpa using hown1
        case measure => simp [intOf]; omega
      · go_ret
        have q := enc_last hacc (by omega)
        refine ⟨_, rfl, ?_, hb.trans hb1⟩
        rw [byte_le (by omega : zn ≤ 127), ← B8] at hown1
        rw [← q]
        simpa using hown1
  · have P1 : n * 2 = (z0 : Int) := P2 hn
    clear P2
    go_enter Tryd.func46, Tryd.ntmps46
    go_wp2
    go_loopw [3, 4] (fun z v wr => ∃ (f zn : Nat) (acc : List UInt8), z = .int .u64 (zn : Int) ∧ zn < 2 * 128 ^ f ∧ f ≤ 9 ∧ acc.length + f = 9 ∧ acc ++ encF f zn = encI n ∧
        wr.ownsRow w.heap.size 5 1 v acc.length (acc.map B8) ∧ Below w.heap.size w wr) (fun z _ _ => (intOf z).toNat)
    case atStart => exact ⟨9, z0, [], rfl, by omega, by omega, rfl, HE.out.symm, World.ownsRow_nil _ _ _ _, Below.refl _ _⟩
    case round =>
      obtain ⟨f, zn, acc, rfl, hz, hf, hl, hacc, hown, hb⟩ := hrel
      have hz2 : (zn : Int) ≤ 18446744073709551615 := by
        have : 128 ^ f ≤ 128 ^ 9 := Nat.pow_le_pow_right (by decide) hf
        omega
      clear P1
      go_wp2_with (first
        | (at_builtin; refine append_one _ _ rfl (.tmp 17) (.tmp 22) 22 rfl w.heap.size 5 _ 1 Tryd.underlying22 info_u8 rfl _ _ _ rfl hown rfl rfl (by omega) (by unfold maxLen; omega) hb.size ?_; intro v1 w1 hown1 hg1 hb1)
        | (at_builtin; refine append_one _ _ rfl (.tmp 26) (.tmp 29) 22 rfl w.heap.size 5 _ 1 Tryd.underlying22 info_u8 rfl _ _ _ rfl hown rfl rfl (by omega) (by unfold maxLen; omega) hb.size ?_; intro v1 w1 hown1 hg1 hb1))
      · obtain ⟨f', q1, q2, q3⟩ := enc_round hacc hz hl (by omega)
        go_roundw
        case rel =>
          refine ⟨f', zn / 128, _, by go_num, q1, by omega, q2, q3, ?_, hb.trans hb1⟩
          rw [mod_plus, ← B8] at hown1
          simpa using hown1
        case measure => simp [intOf]; omega
      · go_ret
        have q := enc_last hacc (by omega)
        refine ⟨_, rfl, ?_, hb.trans hb1⟩
        rw [byte_le (by omega : zn ≤ 127), ← B8] at hown1
        rw [← q]
        simpa using hown1

set_option maxRecDepth 100000 in
set_option maxHeartbeats 1600000 in

theorem wBytes (s : List UInt8) (w : World) (hs : s.length ≤ 4294967296) :
    Calls Tryd.prog 39 #[.string ⟨s.toArray⟩] w fun e w' => ∃ v, e = .returned v ∧ Mk w w' 5 1 v (encS s).length ((encS s).map B8) := by
  have hE := encI_length s.length
  go_enter Tryd.func39, Tryd.ntmps39
  go_wp2_with (first
    | (go_at_call 45; refine (wInt _ _ (by omega) (by omega)).mono ?_; rintro e w1 ⟨v1, rfl, hown, hb⟩)
    | (at_builtin; refine append_str rfl (.tmp 5) (.tmp 6) 22 9 rfl w.heap.size 5 Tryd.underlying22 Tryd.underlying9 info_u8 _ _ _ rfl hown s rfl (by omega) hb.size ?_; intro v2 w2 hown2 hg2 hb2))
  go_ret
  refine ⟨_, rfl, ?_, hb.trans hb2⟩
  unfold encS
  simpa using hown2

theorem rBytes (s : List UInt8) (w : World) (hs : s.length ≤ 4294967296) :
    Calls Tryd.prog 41 #[.string ⟨s.toArray⟩] w fun e w' => ∃ v, e = .returned v ∧ Mk w w' 5 1 v (encS s).length ((encS s).map B8) := by
  have hE := encI_length s.length
  go_enter Tryd.func41, Tryd.ntmps41
  go_wp2_with (first
    | (go_at_call 46; refine (rInt _ _ (by omega) (by omega)).mono ?_; rintro e w1 ⟨v1, rfl, hown, hb⟩)
    | (at_builtin; refine append_str rfl (.tmp 5) (.tmp 6) 22 9 rfl w.heap.size 5 Tryd.underlying22 Tryd.underlying9 info_u8 _ _ _ rfl hown s rfl (by omega) hb.size ?_; intro v2 w2 hown2 hg2 hb2))
  go_ret
  refine ⟨_, rfl, ?_, hb.trans hb2⟩
  unfold encS
  simpa using hown2

end Go.Proofs.YtmmomcililideaaDoor
