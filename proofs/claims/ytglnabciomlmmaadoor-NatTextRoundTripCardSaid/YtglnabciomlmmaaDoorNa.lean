/-
  Digits: at, trim, compare.
-/
import Derived.Test.YtglnabciomlmmaaDoorNw
namespace Go.Proofs.YtglnabciomlmmaaDoor
open Go.RowKit

set_option maxHeartbeats 800000 in
theorem atC (A : Option Addr) (n c : Nat) (l : List UInt32) (k : Nat) (w : World) (hr : Rd w 1 (.slice A n c) n (l.map W32)) :
    Calls Tryd.prog 46 #[.slice A n c, .int .i64 (k : Int)] w fun e w' => e = .returned (.int .u64 ((l.getD k 0).toNat : Int)) ∧ w = w' := by
  by_cases hk : k < n
  · obtain ⟨b, off, rfl, hb, hc⟩ := hr.digit hk
    have hx := u32_lt (l.getD k 0)
    have hw : IntKind.u64.wrap ((l.getD k 0).toNat : Int) = ((l.getD k 0).toNat : Int) := w64 (by omega) (by omega)
    generalize (l.getD k 0).toNat = d at hc hx hw ⊢
    go_enter Tryd.func46, Tryd.ntmps46
    go_wp2
    go_ret
    exact ⟨rfl, rfl⟩
  · have h0 : l.getD k 0 = 0 := by
      have := hr.n_dg
      simp [List.getD, List.getElem?_eq_none (by omega : l.length ≤ k)]
    have H0 := Lib.hid h0
    clear h0
    go_enter Tryd.func46, Tryd.ntmps46
    go_wp2
    go_ret
    exact ⟨by rw [H0.out]; rfl, rfl⟩

theorem trim_len {l : List UInt32} {m : Nat} (h : lw (l.take m) = lw l) (hm : m ≤ l.length) (ht : (l.take m).getLast? ≠ some 0) : l.take m = ld (lw l) ∧ (ld (lw l)).length = m := by
  have h1 := ld_of ht
  rw [h] at h1
  refine ⟨h1.symm, ?_⟩
  rw [h1, List.length_take]
  omega

set_option maxHeartbeats 800000 in
theorem trimC (A : Option Addr) (n c : Nat) (l : List UInt32) (w : World) (hr : Rd w 1 (.slice A n c) n (l.map W32)) (hn : n ≤ 140737488355328) :
    Calls Tryd.prog 45 #[.slice A n c] w fun e w' => e = .returned (.slice A (ld (lw l)).length c) ∧ l.take (ld (lw l)).length = ld (lw l) ∧ w = w' := by
  have hcap := hr.cap
  unfold maxLen at hcap
  have hl := hr.n_dg
  have HL := Lib.hid hl
  clear hl
  go_enter Tryd.func45, Tryd.ntmps45
  go_wp2
  go_loop [0] (fun v => ∃ m : Nat, m ≤ n ∧ v = .slice A m c ∧ lw (l.take m) = lw l) (fun v => match v with | .slice _ m _ => m | _ => 0)
  case atStart => exact ⟨n, by omega, rfl, by rw [List.take_of_length_le (by rw [HL.out]; omega)]⟩
  case round =>
    obtain ⟨m, hm, rfl, hlw⟩ := hrel
    have HW := Lib.hid hlw
    clear hlw
    by_cases h0 : m = 0
    · subst h0
      have ht := trim_len HW.out (by omega) (by simp)
      have HT := Lib.hid ht
      clear ht
      go_wp2
      go_ret
      exact ⟨by rw [HT.out.2]; rfl, by rw [HT.out.2]; exact HT.out.1, rfl⟩
    · have hmp : 0 < m := by omega
      obtain ⟨b, off, rfl, hb, hc⟩ := hr.digit (k := m - 1) (by omega)
      have hts : l.take m = l.take (m - 1) ++ [l.getD (m - 1) 0] := by
        have h1 : m - 1 < l.length := by rw [HL.out]; omega
        have := take_snoc h1
        rw [Nat.sub_add_cancel hmp] at this
        rw [this]
        simp [List.getD, h1]
      have e1 : ((m : Int) - 1) = ((m - 1 : Nat) : Int) := by omega
      have HTS := Lib.hid hts
      have hx := u32_lt (l.getD (m - 1) 0)
      clear hts
      by_cases hz : l.getD (m - 1) 0 = 0
      · have HW2 : Hid (lw (l.take (m - 1)) = lw l) := by
          show _ = _
          rw [← HW.out, HTS.out, hz, lw_snoc]
          simp
        rw [hz] at hc
        have hc : w.cell? ⟨b, off + (m - 1), none⟩ = some (.int .u32 0) := hc
        have e2 := e1
        go_wp2
        go_round
        case rel => exact ⟨m - 1, by omega, by simp, HW2.out⟩
        case measure => simp; omega
      · have hlast : (l.take m).getLast? ≠ some 0 := by
          rw [HTS.out]
          simp only [List.getLast?_append, List.getLast?_singleton, Option.some_or, ne_eq, Option.some.injEq]
          exact hz
        have ht := trim_len HW.out (by rw [HL.out]; omega) hlast
        have HT := Lib.hid ht
        have hne : ¬ ((l.getD (m - 1) 0).toNat : Int) = 0 := by
          intro h
          apply hz
          apply UInt32.toNat_inj.1
          have : (l.getD (m - 1) 0).toNat = 0 := by omega
          rw [this]
          rfl
        clear ht hlast hz
        generalize (l.getD (m - 1) 0).toNat = d at hc hx hne
        go_wp2
        go_ret
        exact ⟨by rw [HT.out.2]; rfl, by rw [HT.out.2]; exact HT.out.1, rfl⟩
end Go.Proofs.YtglnabciomlmmaaDoor
