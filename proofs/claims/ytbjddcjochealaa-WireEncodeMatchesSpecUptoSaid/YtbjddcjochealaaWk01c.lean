import Derived.Test.YtbjddcjochealaaWk01b
namespace Go.Proofs.Ytbjddcjochealaa
open Go.RowKit

set_option maxRecDepth 100000 in
theorem rInt (n : Int) (w : World) (h1 : -9223372036854775808 ≤ n) (h2 : n ≤ 9223372036854775807) :
    Calls Try.prog 15 #[.int .i64 n] w fun e w' => ∃ v, e = .returned v ∧ Mk w w' 5 1 v (encI n).length ((encI n).map B8) := by
  have hzl := zz_lt h1 h2
  obtain ⟨z0, hz0⟩ : ∃ z0 : Nat, z0 = zz n := ⟨_, rfl⟩
  have HE : Hid (encI n = encF 9 z0) := by rw [hz0]; rfl
  have hz1 : z0 < 18446744073709551616 := by omega
  have HN : Hid (z0 = zz n) := hz0
  have P2 : ¬ n < 0 → n * 2 = (z0 : Int) := fun h => by rw [hz0]; unfold zz; rw [if_pos (by omega)]; omega
  clear hz0
  by_cases hn : n < 0
  · have P1 : (-1 - n) * 2 + 1 = (z0 : Int) := by rw [HN.out]; unfold zz; rw [if_neg (by omega)]; omega
    clear P2
    go_enter Try.func15, Try.ntmps15
    go_wp2
    go_loopw [3, 4] (fun z v wr => ∃ (f zn : Nat) (acc : List UInt8), z = .int .u64 (zn : Int) ∧ zn < 2 * 128 ^ f ∧ f ≤ 9 ∧ acc.length + f = 9 ∧ acc ++ encF f zn = encI n ∧
        wr.ownsRow w.heap.size 5 1 v acc.length (acc.map B8) ∧ Below w.heap.size w wr) (fun z _ _ => (intOf z).toNat)
    case atStart => exact ⟨9, z0, [], rfl, by omega, by omega, rfl, HE.out.symm, World.ownsRow_nil _ _ _ _, Below.refl _ _⟩
    case round =>
      obtain ⟨f, zn, acc, rfl, hz, hf, hl, hacc, hown, hb⟩ := hrel
      have hz2 : (zn : Int) ≤ 18446744073709551615 := by
        have : 128 ^ f ≤ 128 ^ 9 := Nat.pow_le_pow_right (by decide) hf
        omega
      clear P1
      go_wp2_with (first
        | (at_builtin; refine append_one _ _ rfl (.tmp 17) (.tmp 22) 28 rfl w.heap.size 5 _ 1 Try.underlying28 info_u8 rfl _ _ _ rfl hown rfl rfl (by omega) (by unfold maxLen; omega) hb.size ?_; intro v1 w1 hown1 hg1 hb1)
        | (at_builtin; refine append_one _ _ rfl (.tmp 26) (.tmp 29) 28 rfl w.heap.size 5 _ 1 Try.underlying28 info_u8 rfl _ _ _ rfl hown rfl rfl (by omega) (by unfold maxLen; omega) hb.size ?_; intro v1 w1 hown1 hg1 hb1))
      · obtain ⟨f', q1, q2, q3⟩ := enc_round hacc hz hl (by omega)
        go_roundw
        case rel =>
          refine ⟨f', zn / 128, _, by go_num, q1, by omega, q2, q3, ?_, hb.trans hb1⟩
          rw [mod_plus, ← B8] at hown1
          simpa using hown1
        case measure => simp [intOf]; omega
      · go_ret
        have q := enc_last hacc (by omega)
        refine ⟨_, rfl, ?_, hb.trans hb1⟩
        rw [byte_le (by omega : zn ≤ 127), ← B8] at hown1
        rw [← q]
        simpa using hown1
  · have P1 : n * 2 = (z0 : Int) := P2 hn
    clear P2
    go_enter Try.func15, Try.ntmps15
    go_wp2
    go_loopw [3, 4] (fun z v wr => ∃ (f zn : Nat) (acc : List UInt8), z = .int .u64 (zn : Int) ∧ zn < 2 * 128 ^ f ∧ f ≤ 9 ∧ acc.length + f = 9 ∧ acc ++ encF f zn = encI n ∧
        wr.ownsRow w.heap.size 5 1 v acc.length (acc.map B8) ∧ Below w.heap.size w wr) (fun z _ _ => (intOf z).toNat)
    case atStart => exact ⟨9, z0, [], rfl, by omega, by omega, rfl, HE.out.symm, World.ownsRow_nil _ _ _ _, Below.refl _ _⟩
    case round =>
      obtain ⟨f, zn, acc, rfl, hz, hf, hl, hacc, hown, hb⟩ := hrel
      have hz2 : (zn : Int) ≤ 18446744073709551615 := by
        have : 128 ^ f ≤ 128 ^ 9 := Nat.pow_le_pow_right (by decide) hf
        omega
      clear P1
      go_wp2_with (first
        | (at_builtin; refine append_one _ _ rfl (.tmp 17) (.tmp 22) 28 rfl w.heap.size 5 _ 1 Try.underlying28 info_u8 rfl _ _ _ rfl hown rfl rfl (by omega) (by unfold maxLen; omega) hb.size ?_; intro v1 w1 hown1 hg1 hb1)
        | (at_builtin; refine append_one _ _ rfl (.tmp 26) (.tmp 29) 28 rfl w.heap.size 5 _ 1 Try.underlying28 info_u8 rfl _ _ _ rfl hown rfl rfl (by omega) (by unfold maxLen; omega) hb.size ?_; intro v1 w1 hown1 hg1 hb1))
      · obtain ⟨f', q1, q2, q3⟩ := enc_round hacc hz hl (by omega)
        go_roundw
        case rel =>
          refine ⟨f', zn / 128, _, by go_num, q1, by omega, q2, q3, ?_, hb.trans hb1⟩
          rw [mod_plus, ← B8] at hown1
          simpa using hown1
        case measure => simp [intOf]; omega
      · go_ret
        have q := enc_last hacc (by omega)
        refine ⟨_, rfl, ?_, hb.trans hb1⟩
        rw [byte_le (by omega : zn ≤ 127), ← B8] at hown1
        rw [← q]
        simpa using hown1

set_option maxRecDepth 100000 in
set_option maxHeartbeats 1600000 in
theorem rGetInt (w : World) (A : Option Addr) (c : Nat) (bs : List UInt8) (hr : Rd w 1 (.slice A bs.length c) bs.length (bs.map B8)) (hl : bs.length ≤ 140737488355328) :
    Calls Try.prog 25 #[.slice A bs.length c] w fun e w' => e = .returned (outI (decI bs)) ∧ w = w' := by
  go_enter Try.func25, Try.ntmps25
  go_wp2
  go_loop [5] (fun i => ∃ k : Nat, i = .int .i64 (k : Int) ∧ Lead bs k) (fun i => bs.length - (intOf i).toNat)
  case atStart => exact ⟨0, rfl, Lead.zero bs⟩
  case round =>
    obtain ⟨k, rfl, hL⟩ := hrel
    have hk10 := hL.1
    have hkl := hL.2.1
    by_cases h10 : k = 10
    · subst h10
      have HR : Hid (decI bs = .error 11) := hL.ten
      by_cases hlt : 10 < bs.length
      all_goals
        go_wp2
        go_ret3
        exact ⟨by rw [HR.out]; rfl, rfl⟩
    · by_cases hlt : k < bs.length
      · obtain ⟨b, off, x, rfl, hb, hcell, hx, hD⟩ := hr.at8 hlt
        by_cases h128 : x.toNat < 128
        · by_cases h9 : k = 9
          · subst h9
            by_cases hbad : (9 = 9 ∧ 1 < x.toNat) ∨ (0 < 9 ∧ x.toNat = 0)
            · have HR : Hid (decI bs = .error 11) := hL.bad h10 hD.out hbad
              by_cases h1 : 1 < x.toNat
              · go_wp2
                all_goals (go_ret3; exact ⟨by rw [HR.out]; rfl, rfl⟩)
              · have h0b : ((x.toNat : Int) == 0) = true := by simp; omega
                go_wp2
                all_goals (go_ret3; exact ⟨by rw [HR.out]; rfl, rfl⟩)
            · obtain ⟨hR, hzb⟩ := hL.done h10 hD.out hbad h128
              have HR : Hid (decI bs = .ok (unzz (dig (bs.take (9 + 1))), 9 + 1)) := hR
              clear hR
              have HZ : Hid (dig (bs.take (9 + 1)) < 18446744073709551616) := hzb
              clear hzb
              have h0b : ((x.toNat : Int) == 0) = false := by simp; omega
              go_wp2
              go_loop [6, 7] (fun z i => ∃ j : Nat, j ≤ 9 + 1 ∧ i = .int .i64 ((j : Int) - 1) ∧ z = .int .u64 (dig ((bs.take (9 + 1)).drop j) : Int)) (fun _ i => (intOf i + 1).toNat)
              case atStart => exact ⟨9 + 1, by omega, by go_num, by rw [List.drop_eq_nil_of_le (by rw [List.length_take]; omega)]; rfl⟩
              case round =>
                obtain ⟨j, hj, rfl, rfl⟩ := hrel
                cases j with
                | zero =>
                  obtain ⟨z', hz'⟩ : ∃ z' : Nat, z' = dig (bs.take (9 + 1)) := ⟨_, rfl⟩
                  have hzb : (z' : Int) ≤ 18446744073709551615 := by rw [hz']; have := HZ.out; omega
                  rw [List.drop_zero, ← hz']
                  have HR' : Hid (decI bs = .ok (unzz z', 9 + 1)) := by rw [hz']; exact HR
                  clear hz' HR
                  by_cases ho : z' % 2 = 1
                  all_goals
                    go_wp2
                    go_ret3
                    exact ⟨by rw [HR'.out]; exact outI_of (by unfold unzz; omega), rfl⟩
                | succ i =>
                  obtain ⟨b', off', y, hA', hb', hcell', hy, hDy⟩ := hr.at8 (k := i) (by omega)
                  injection hA' with hA'
                  injection hA' with e1 e2 e3
                  subst e1 e2
                  clear e3
                  obtain ⟨z', hz'⟩ : ∃ z' : Nat, z' = dig ((bs.take (9 + 1)).drop (i + 1)) := ⟨_, rfl⟩
                  have hst : z' * 128 + y.toNat % 128 = dig ((bs.take (9 + 1)).drop i) := by rw [hz']; exact (dig_down (by omega) hDy.out).symm
                  have hzb : (z' : Int) * 128 + (y.toNat : Int) % 128 ≤ 18446744073709551615 := by
                    have h1 := HZ.out
                    have h2 := dig_drop_le (bs.take (9 + 1)) i
                    omega
                  rw [← hz']
                  have HS : Hid (z' * 128 + y.toNat % 128 = dig ((bs.take (9 + 1)).drop i)) := hst
                  clear hst hz'
                  have e4 : (((i + 1 : Nat) : Int) - 1) = (i : Int) := by omega
                  rw [e4]
                  clear e4
                  go_wp2
                  go_round
                  case rel => exact ⟨i, by omega, by go_num, by rw [← HS.out]; try go_num⟩
                  case measure => (simp [intOf]; try omega)
          · have h9b : ((k : Int) == 9) = false := by simp; omega
            by_cases hbad : (k = 9 ∧ 1 < x.toNat) ∨ (0 < k ∧ x.toNat = 0)
            · have HR : Hid (decI bs = .error 11) := hL.bad h10 hD.out hbad
              by_cases h1 : 1 < x.toNat
              · go_wp2
                all_goals (go_ret3; exact ⟨by rw [HR.out]; rfl, rfl⟩)
              · have h0b : ((x.toNat : Int) == 0) = true := by simp; omega
                go_wp2
                all_goals (go_ret3; exact ⟨by rw [HR.out]; rfl, rfl⟩)
            · obtain ⟨hR, hzb⟩ := hL.done h10 hD.out hbad h128
              have HR : Hid (decI bs = .ok (unzz (dig (bs.take (k + 1))), k + 1)) := hR
              clear hR
              have HZ : Hid (dig (bs.take (k + 1)) < 18446744073709551616) := hzb
              clear hzb
              by_cases hk0 : 0 < k
              · have h0b : ((x.toNat : Int) == 0) = false := by simp; omega
                go_wp2
                go_loop [6, 7] (fun z i => ∃ j : Nat, j ≤ k + 1 ∧ i = .int .i64 ((j : Int) - 1) ∧ z = .int .u64 (dig ((bs.take (k + 1)).drop j) : Int)) (fun _ i => (intOf i + 1).toNat)
                case atStart => exact ⟨k + 1, by omega, by go_num, by rw [List.drop_eq_nil_of_le (by rw [List.length_take]; omega)]; rfl⟩
                case round =>
                  obtain ⟨j, hj, rfl, rfl⟩ := hrel
                  cases j with
                  | zero =>
                    obtain ⟨z', hz'⟩ : ∃ z' : Nat, z' = dig (bs.take (k + 1)) := ⟨_, rfl⟩
                    have hzb : (z' : Int) ≤ 18446744073709551615 := by rw [hz']; have := HZ.out; omega
                    rw [List.drop_zero, ← hz']
                    have HR' : Hid (decI bs = .ok (unzz z', k + 1)) := by rw [hz']; exact HR
                    clear hz' HR
                    by_cases ho : z' % 2 = 1
                    all_goals
                      go_wp2
                      go_ret3
                      exact ⟨by rw [HR'.out]; exact outI_of (by unfold unzz; omega), rfl⟩
                  | succ i =>
                    obtain ⟨b', off', y, hA', hb', hcell', hy, hDy⟩ := hr.at8 (k := i) (by omega)
                    injection hA' with hA'
                    injection hA' with e1 e2 e3
                    subst e1 e2
                    clear e3
                    obtain ⟨z', hz'⟩ : ∃ z' : Nat, z' = dig ((bs.take (k + 1)).drop (i + 1)) := ⟨_, rfl⟩
                    have hst : z' * 128 + y.toNat % 128 = dig ((bs.take (k + 1)).drop i) := by rw [hz']; exact (dig_down (by omega) hDy.out).symm
                    have hzb : (z' : Int) * 128 + (y.toNat : Int) % 128 ≤ 18446744073709551615 := by
                      have h1 := HZ.out
                      have h2 := dig_drop_le (bs.take (k + 1)) i
                      omega
                    rw [← hz']
                    have HS : Hid (z' * 128 + y.toNat % 128 = dig ((bs.take (k + 1)).drop i)) := hst
                    clear hst hz'
                    have e4 : (((i + 1 : Nat) : Int) - 1) = (i : Int) := by omega
                    rw [e4]
                    clear e4
                    go_wp2
                    go_round
                    case rel => exact ⟨i, by omega, by go_num, by rw [← HS.out]; try go_num⟩
                    case measure => (simp [intOf]; try omega)
              · go_wp2
                go_loop [6, 7] (fun z i => ∃ j : Nat, j ≤ k + 1 ∧ i = .int .i64 ((j : Int) - 1) ∧ z = .int .u64 (dig ((bs.take (k + 1)).drop j) : Int)) (fun _ i => (intOf i + 1).toNat)
                case atStart => exact ⟨k + 1, by omega, by go_num, by rw [List.drop_eq_nil_of_le (by rw [List.length_take]; omega)]; rfl⟩
                case round =>
                  obtain ⟨j, hj, rfl, rfl⟩ := hrel
                  cases j with
                  | zero =>
                    obtain ⟨z', hz'⟩ : ∃ z' : Nat, z' = dig (bs.take (k + 1)) := ⟨_, rfl⟩
                    have hzb : (z' : Int) ≤ 18446744073709551615 := by rw [hz']; have := HZ.out; omega
                    rw [List.drop_zero, ← hz']
                    have HR' : Hid (decI bs = .ok (unzz z', k + 1)) := by rw [hz']; exact HR
                    clear hz' HR
                    by_cases ho : z' % 2 = 1
                    all_goals
                      go_wp2
                      go_ret3
                      exact ⟨by rw [HR'.out]; exact outI_of (by unfold unzz; omega), rfl⟩
                  | succ i =>
                    obtain ⟨b', off', y, hA', hb', hcell', hy, hDy⟩ := hr.at8 (k := i) (by omega)
                    injection hA' with hA'
                    injection hA' with e1 e2 e3
                    subst e1 e2
                    clear e3
                    obtain ⟨z', hz'⟩ : ∃ z' : Nat, z' = dig ((bs.take (k + 1)).drop (i + 1)) := ⟨_, rfl⟩
                    have hst : z' * 128 + y.toNat % 128 = dig ((bs.take (k + 1)).drop i) := by rw [hz']; exact (dig_down (by omega) hDy.out).symm
                    have hzb : (z' : Int) * 128 + (y.toNat : Int) % 128 ≤ 18446744073709551615 := by
                      have h1 := HZ.out
                      have h2 := dig_drop_le (bs.take (k + 1)) i
                      omega
                    rw [← hz']
                    have HS : Hid (z' * 128 + y.toNat % 128 = dig ((bs.take (k + 1)).drop i)) := hst
                    clear hst hz'
                    have e4 : (((i + 1 : Nat) : Int) - 1) = (i : Int) := by omega
                    rw [e4]
                    clear e4
                    go_wp2
                    go_round
                    case rel => exact ⟨i, by omega, by go_num, by rw [← HS.out]; try go_num⟩
                    case measure => (simp [intOf]; try omega)
        · go_wp2
          go_round
          case rel => exact ⟨k + 1, by go_num, hL.step (by omega) hD.out (by omega)⟩
          case measure => simp [intOf]; omega
      · have hkl' : k = bs.length := by omega
        have HR : Hid (decI bs = .error 10) := hL.short h10 hkl'
        subst hkl'
        go_wp2
        go_ret3
        exact ⟨by rw [HR.out]; rfl, rfl⟩
end Go.Proofs.Ytbjddcjochealaa
