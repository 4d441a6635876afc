import Derived.Test.YtbjddcjochealaaWk01a
namespace Go.Proofs.Ytbjddcjochealaa
open Go.RowKit

set_option maxRecDepth 100000 in
theorem wGetInt (w : World) (A : Option Addr) (c : Nat) (bs : List UInt8) (hr : Rd w 1 (.slice A bs.length c) bs.length (bs.map B8)) (hl : bs.length ≤ 140737488355328) :
    Calls Try.prog 24 #[.slice A bs.length c] w fun e w' => e = .returned (outI (decI bs)) ∧ w = w' := by
  go_enter Try.func24, Try.ntmps24
  go_wp2
  go_step3
  go_wp2
  go_step3
  go_wp2
  go_loop [5, 6, 11] (fun z u i => ∃ k zn : Nat, k ≤ bs.length ∧ k ≤ 9 ∧ i = .int .i64 (k : Int) ∧ z = .int .u64 (zn : Int) ∧ u = .int .i64 0 ∧ zn < 128 ^ k ∧ joinR k zn (decR k (bs.drop k)) = decR 0 bs) (fun _ _ i => bs.length - (intOf i).toNat)
  case atStart => exact ⟨0, 0, by omega, by omega, rfl, rfl, rfl, by simp, by simp [joinR]; cases decR 0 bs <;> rfl⟩
  case round =>
    obtain ⟨k, zn, hk, hk9, rfl, rfl, rfl, hz, hj⟩ := hrel
    by_cases hlt : k < bs.length
    · obtain ⟨b, off, x, rfl, hb, hcell, hx, hD⟩ := hr.at8 hlt
      by_cases hbad : (k = 9 ∧ 1 < x.toNat) ∨ (0 < k ∧ x.toNat = 0)
      · have hR := dec_bad (hD.out ▸ hj) hbad
        have HR : Hid (decI bs = .error 11) := hR
        clear hR hj
        go_wp2
        all_goals (go_ret3; exact ⟨by rw [HR.out]; rfl, rfl⟩)
      · obtain ⟨b1, b2⟩ := digit_bound (d := x.toNat % 128) hk9 hz (by omega) (fun h => by omega)
        obtain ⟨z', hz'⟩ : ∃ z' : Nat, z' = zn + 128 ^ k * (x.toNat % 128) := ⟨_, rfl⟩
        rw [← hz'] at b1 b2
        have hA := u64_and_1 z' b1
        have hB : (z' : Int) ≤ 18446744073709551615 := by omega
        have hX := unzz_bits b1
        by_cases h128 : x.toNat < 128
        · have HR : Hid (decI bs = .ok (unzz z', k + 1)) := by rw [hz']; exact dec_done (hD.out ▸ hj) hbad h128
          by_cases h9 : k = 9
          · subst h9
            have hO : _ = (z' : Int) := (or_round9 hz (show x.toNat ≤ 1 by omega)).trans (by rw [hz'])
            clear hz' hj
            go_wp2
            go_ret3
            exact ⟨by rw [HR.out]; rfl, rfl⟩
          · have hO : _ = (z' : Int) := (or_round hk9 hz hx (fun h => by omega)).trans (by rw [hz'])
            clear hz' hj
            go_wp2
            all_goals (go_ret3; exact ⟨by rw [HR.out]; rfl, rfl⟩)
        · have h9 : k ≠ 9 := by omega
          have hO : _ = (z' : Int) := (or_round hk9 hz hx (fun h => by omega)).trans (by rw [hz'])
          have HJ : Hid (joinR (k + 1) z' (decR (k + 1) (bs.drop (k + 1))) = decR 0 bs) := by rw [hz', ← joinR_step hbad (by omega), ← hD.out]; exact hj
          clear hz' hj
          go_wp2
          all_goals
            go_round
            case rel => exact ⟨k + 1, z', by omega, by omega, by go_num, rfl, rfl, b2, HJ.out⟩
            case measure => simp [intOf]; omega
    · have hR := dec_short (bs := bs) (k := k) (zn := zn) (by rw [← hj, List.drop_eq_nil_of_le (by omega)])
      have HR : Hid (decI bs = .error 10) := hR
      clear hR hj
      go_wp2
      go_ret3
      exact ⟨by rw [HR.out]; rfl, rfl⟩
end Go.Proofs.Ytbjddcjochealaa
