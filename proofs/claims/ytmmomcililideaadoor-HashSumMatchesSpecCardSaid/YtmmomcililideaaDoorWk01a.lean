import Derived.Test.YtmmomcililideaaDoorProg
import Derived.Test.YtmmomcililideaaDoorWd
import Derived.Test.YtmmomcililideaaDoorPl01
set_option linter.unusedSimpArgs false
set_option linter.unusedVariables false
namespace Go.Proofs.YtmmomcililideaaDoor
open Go.RowKit

theorem info_u8 : (Tryd.prog.info? 5).map (fun i => (i.zero, i.size, i.bytes)) = some (some (.int .u8 0), 1, 1) := by kernel_rfl

theorem wInt (n : Int) (w : World) (h1 : -9223372036854775808 ≤ n) (h2 : n ≤ 9223372036854775807) :
    Calls Tryd.prog 45 #[.int .i64 n] w fun e w' => ∃ v, e = .returned v ∧ Mk w w' 5 1 v (encI n).length ((encI n).map B8) := by
  go_enter Tryd.func45, Tryd.ntmps45
  go_wp2
  rw [i64_shl_xor h1 h2]
  go_loopw [3, 4] (fun z v wr => ∃ (f zn : Nat) (acc : List UInt8), z = .int .u64 (zn : Int) ∧ zn < 2 * 128 ^ f ∧ f ≤ 9 ∧ acc.length + f = 9 ∧ acc ++ encF f zn = encI n ∧
      wr.ownsRow w.heap.size 5 1 v acc.length (acc.map B8) ∧ Below w.heap.size w wr)
    (fun z _ _ => (intOf z).toNat)
  case atStart => exact ⟨9, zz n, [], rfl, by have := zz_lt h1 h2; omega, by omega, rfl, rfl, World.ownsRow_nil _ _ _ _, Below.refl _ _⟩
  case round =>
    obtain ⟨f, zn, acc, rfl, hz, hf, hl, hacc, hown, hb⟩ := hrel
    have hz2 : (zn : Int) ≤ 18446744073709551615 := by
      have : 128 ^ f ≤ 128 ^ 9 := Nat.pow_le_pow_right (by decide) hf
      omega
    go_wp2_with (first
      | (at_builtin; refine append_one _ _ rfl (.tmp 16) (.tmp 20) 22 rfl w.heap.size 5 _ 1 Tryd.underlying22 info_u8 rfl _ _ _ rfl hown rfl rfl (by omega) (by unfold maxLen; omega) hb.size ?_; intro v1 w1 hown1 hg1 hb1)
      | (at_builtin; refine append_one _ _ rfl (.tmp 22) (.tmp 25) 22 rfl w.heap.size 5 _ 1 Tryd.underlying22 info_u8 rfl _ _ _ rfl hown rfl rfl (by omega) (by unfold maxLen; omega) hb.size ?_; intro v1 w1 hown1 hg1 hb1))
    · obtain ⟨f', q1, q2, q3⟩ := enc_round hacc hz hl (by omega)
      go_roundw
      case rel =>
        refine ⟨f', zn / 128, _, by go_num, q1, by omega, q2, q3, ?_, hb.trans hb1⟩
        rw [or128, ← B8] at hown1
        simpa using hown1
      case measure => simp [intOf]; omega
    · go_ret
      have q := enc_last hacc (by omega)
      refine ⟨_, rfl, ?_, hb.trans hb1⟩
      rw [byte_le (by omega : zn ≤ 127), ← B8] at hown1
      rw [← q]
      simpa using hown1
end Go.Proofs.YtmmomcililideaaDoor
