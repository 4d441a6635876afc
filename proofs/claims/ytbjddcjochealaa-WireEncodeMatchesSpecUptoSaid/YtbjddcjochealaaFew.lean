/-
  The law's own bound on lists of strings: what 'few' answers where the sum of the lengths is no more than 2^62.
-/
import Derived.Test.YtbjddcjochealaaWk01k
import Derived.Test.YtbjddcjochealaaAp
import Derived.Test.YtbjddcjochealaaLaw01
namespace Go.Proofs.Ytbjddcjochealaa
open Go.RowKit

def tot (l : List (List UInt8)) : Nat := (l.map List.length).sum
theorem tot_nil : tot [] = 0 := rfl
theorem tot_snoc (l : List (List UInt8)) (x : List UInt8) : tot (l ++ [x]) = tot l + x.length := by simp [tot]
theorem tot_append (l r : List (List UInt8)) : tot (l ++ r) = tot l + tot r := by simp [tot]
theorem tot_take_le (l : List (List UInt8)) (k : Nat) : tot (l.take k) ≤ tot l := by
  have h := tot_append (l.take k) (l.drop k)
  rw [List.take_append_drop] at h
  omega
theorem tot_mem {l : List (List UInt8)} {x : List UInt8} (h : x ∈ l) : x.length ≤ tot l := by
  induction l with
  | nil => cases h
  | cons y l ih =>
    simp only [tot, List.map_cons, List.sum_cons]
    rcases List.mem_cons.1 h with rfl | h
    · omega
    · have := ih h; unfold tot at this; omega

set_option maxRecDepth 100000 in
theorem fewT (w : World) (A : Option Addr) (c : Nat) (l : List (List UInt8)) (hr : Rd w 1 (.slice A l.length c) l.length (l.map tx)) (hs : l.length + tot l ≤ 4611686018427387904) :
    Calls Try.prog 11 #[.slice A l.length c] w fun e w' => e = .returned (.bool (decide (l.length + tot l ≤ 2000))) ∧ w = w' := by
  have HL := Lib.hid hs
  have hl : l.length ≤ 4611686018427387904 := by omega
  clear hs
  go_enter Try.func11, Try.ntmps11
  go_wp2
  go_loop [3, 10] (fun n i => ∃ k t : Nat, k ≤ l.length ∧ i = .int .i64 (k : Int) ∧ n = .int .i64 (t : Int) ∧ Hid (t = l.length + tot (l.take k)) ∧ t ≤ 4611686018427387904)
    (fun _ i => l.length - (intOf i).toNat)
  case atStart => exact ⟨0, l.length, by omega, rfl, rfl, by show _ = _; simp [tot_nil], hl⟩
  case round =>
    obtain ⟨k, t, hk, rfl, rfl, hT, ht⟩ := hrel
    by_cases hlt : k < l.length
    · obtain ⟨b, off, x, rfl, hbl, hcell, hx, hD⟩ := hr.atG hlt
      have h1 := take_succ_drop hD.out
      have h2 := tot_take_le l (k + 1)
      rw [h1, tot_snoc] at h2
      have h3 := HL.out
      have h4 := hT.out
      have hb : t + x.length ≤ 4611686018427387904 := by omega
      have H1 : Hid (t + x.length = l.length + tot (l.take (k + 1))) := by show _ = _; rw [h1, tot_snoc]; omega
      clear h1 h2 h3 h4
      simp only [tx] at hcell
      go_wp2
      go_round
      case rel => exact ⟨k + 1, t + x.length, by omega, by go_num, by go_num, H1, hb⟩
      case measure => simp [intOf]; omega
    · obtain rfl : k = l.length := by omega
      go_wp2
      go_ret
      have h4 := hT.out
      rw [List.take_length] at h4
      refine ⟨?_, rfl⟩
      rw [← h4]
      congr 3
      simp
      try omega

theorem fewYes (w : World) (A : Option Addr) (n c : Nat) (l : List (List UInt8)) (hr : Rd w 1 (.slice A n c) n (l.map tx)) (hs : n + tot l ≤ 2000) :
    Calls Try.prog 11 #[.slice A n c] w fun e w' => e = .returned (.bool true) ∧ w = w' := by
  obtain rfl := hr.n_eq
  have := fewT w A c l hr (by omega)
  rwa [decide_eq_true (by omega)] at this
theorem fewNo (w : World) (A : Option Addr) (n c : Nat) (l : List (List UInt8)) (hr : Rd w 1 (.slice A n c) n (l.map tx)) (hs : n + tot l ≤ 4611686018427387904) (hn : 2000 < n + tot l) :
    Calls Try.prog 11 #[.slice A n c] w fun e w' => e = .returned (.bool false) ∧ w = w' := by
  obtain rfl := hr.n_eq
  have := fewT w A c l hr hs
  rwa [decide_eq_false (by omega)] at this
end Go.Proofs.Ytbjddcjochealaa
