import Derived.Test.YtbjddcjochealaaWk01i
namespace Go.Proofs.Ytbjddcjochealaa
open Go.RowKit

theorem below_drewN {B : Nat} {a w : World} (h : Below B a w) (n : Nat) : Below B a (w.drewN n) := ⟨h.os, h.tape, h.output, h.size, h.block⟩

theorem sameB (w : World) (A A' : Option Addr) (n n' c c' : Nat) (x y : List UInt8) (hx : Rd w 1 (.slice A n c) n (x.map B8)) (hy : Rd w 1 (.slice A' n' c') n' (y.map B8)) :
    Calls Try.prog 13 #[.slice A n c, .slice A' n' c'] w fun e w' => e = .returned (.bool (x == y)) ∧ w = w' := by
  have h1 := run_str 28 9 5 Try.underlying28 Try.underlying5 Try.underlying9 hx
  have h2 := run_str 28 9 5 Try.underlying28 Try.underlying5 Try.underlying9 hy
  go_enter Try.func13, Try.ntmps13
  go_wp2
  go_ret
  exact ⟨rfl, rfl⟩

theorem drop_eq_of_take {α : Type} {l m : List α} {k : Nat} (h : l.take k = m.take k) (hk : l.length ≤ k) (hl : l.length = m.length) : l = m := by
  rw [List.take_of_length_le hk, List.take_of_length_le (by omega)] at h
  exact h

set_option maxRecDepth 100000 in
theorem sameInts (w : World) (A A' : Option Addr) (n n' c c' : Nat) (x y : List Int) (hx : Rd w 1 (.slice A n c) n (x.map (Value.int .i64))) (hy : Rd w 1 (.slice A' n' c') n' (y.map (Value.int .i64))) (hl : n ≤ 4294967296) :
    Calls Try.prog 30 #[.slice A n c, .slice A' n' c'] w fun e w' => e = .returned (.bool (x == y)) ∧ Below w.heap.size w w' := by
  obtain rfl := hx.n_eq
  obtain rfl := hy.n_eq
  by_cases hne : x.length = y.length
  · have hne1 : ((x.length : Int) != (y.length : Int)) = false := by simp [hne]
    go_enter Try.func30, Try.ntmps30
    have HN : Hid (x.length = y.length) := hne
    have hle : x.length ≤ y.length := by omega
    have hge : y.length ≤ x.length := by omega
    clear hne
    go_wp2
    go_loopw [5] (fun i wr => ∃ k : Nat, k ≤ x.length ∧ i = .int .i64 (k : Int) ∧ Hid (x.take k = y.take k) ∧ Below w.heap.size w wr) (fun i _ => x.length - (intOf i).toNat)
    case atStart => exact ⟨0, by omega, rfl, by show _ = _; simp, Below.refl _ _⟩
    case round =>
      obtain ⟨k, hk, rfl, hT, hb⟩ := hrel
      by_cases hlt : k < x.length
      · obtain ⟨b, off, a, rfl, hbl, hcell, ha, hD⟩ := (hx.below hb).atG hlt
        obtain ⟨b', off', a', rfl, hbl', hcell', ha', hD'⟩ := (hy.below hb).atG (k := k) (by omega)
        by_cases hq : a = a'
        · subst hq
          go_wp2
          go_quiet (fail)
          go_wp2
          go_roundw
          case rel => exact ⟨k + 1, by omega, by go_num, by show _ = _; rw [take_succ_drop hD.out, take_succ_drop hD'.out, hT.out], below_drewN hb _⟩
          case measure => simp [intOf]; omega
        · have hq1 : (a != a') = true := by simpa using hq
          have hR : (x == y) = false := by
            rw [beq_eq_false_iff_ne]
            rintro rfl
            have h1 := hD.out
            rw [hD'.out] at h1
            injection h1 with h1 _
            exact hq h1.symm
          have HR := Lib.hid hR
          clear hR
          go_wp2
          go_quiet (fail)
          go_wp2
          go_ret
          exact ⟨by rw [HR.out]; rfl, below_drewN hb _⟩
      · have hR : (x == y) = true := by
          rw [beq_iff_eq]
          exact drop_eq_of_take hT.out (by omega) HN.out
        have HR := Lib.hid hR
        clear hR
        go_wp2
        go_ret
        exact ⟨by rw [HR.out]; rfl, hb⟩
  · have hne1 : ((x.length : Int) != (y.length : Int)) = true := by simp; omega
    have hR : (x == y) = false := by rw [beq_eq_false_iff_ne]; rintro rfl; exact hne rfl
    have HR := Lib.hid hR
    clear hR hne
    go_enter Try.func30, Try.ntmps30
    go_wp2
    go_ret
    exact ⟨by rw [HR.out]; rfl, Below.refl _ _⟩
set_option maxRecDepth 100000 in
theorem sameTexts (w : World) (A A' : Option Addr) (n n' c c' : Nat) (x y : List (List UInt8)) (hx : Rd w 1 (.slice A n c) n (x.map tx)) (hy : Rd w 1 (.slice A' n' c') n' (y.map tx)) (hl : n ≤ 4294967296) :
    Calls Try.prog 33 #[.slice A n c, .slice A' n' c'] w fun e w' => e = .returned (.bool (x == y)) ∧ Below w.heap.size w w' := by
  obtain rfl := hx.n_eq
  obtain rfl := hy.n_eq
  by_cases hne : x.length = y.length
  · have hne1 : ((x.length : Int) != (y.length : Int)) = false := by simp [hne]
    go_enter Try.func33, Try.ntmps33
    have HN : Hid (x.length = y.length) := hne
    have hle : x.length ≤ y.length := by omega
    have hge : y.length ≤ x.length := by omega
    clear hne
    go_wp2
    go_loopw [5] (fun i wr => ∃ k : Nat, k ≤ x.length ∧ i = .int .i64 (k : Int) ∧ Hid (x.take k = y.take k) ∧ Below w.heap.size w wr) (fun i _ => x.length - (intOf i).toNat)
    case atStart => exact ⟨0, by omega, rfl, by show _ = _; simp, Below.refl _ _⟩
    case round =>
      obtain ⟨k, hk, rfl, hT, hb⟩ := hrel
      by_cases hlt : k < x.length
      · obtain ⟨b, off, a, rfl, hbl, hcell, ha, hD⟩ := (hx.below hb).atG hlt
        simp only [tx] at hcell
        obtain ⟨b', off', a', rfl, hbl', hcell', ha', hD'⟩ := (hy.below hb).atG (k := k) (by omega)
        simp only [tx] at hcell'
        by_cases hq : a = a'
        · subst hq
          go_wp2
          go_quiet (fail)
          go_wp2
          go_roundw
          case rel => exact ⟨k + 1, by omega, by go_num, by show _ = _; rw [take_succ_drop hD.out, take_succ_drop hD'.out, hT.out], below_drewN hb _⟩
          case measure => simp [intOf]; omega
        · have hq1 : (a == a') = false := by simpa using hq
          have hR : (x == y) = false := by
            rw [beq_eq_false_iff_ne]
            rintro rfl
            have h1 := hD.out
            rw [hD'.out] at h1
            injection h1 with h1 _
            exact hq h1.symm
          have HR := Lib.hid hR
          clear hR
          go_wp2
          go_quiet (fail)
          go_wp2
          go_ret
          exact ⟨by rw [HR.out]; rfl, below_drewN hb _⟩
      · have hR : (x == y) = true := by
          rw [beq_iff_eq]
          exact drop_eq_of_take hT.out (by omega) HN.out
        have HR := Lib.hid hR
        clear hR
        go_wp2
        go_ret
        exact ⟨by rw [HR.out]; rfl, hb⟩
  · have hne1 : ((x.length : Int) != (y.length : Int)) = true := by simp; omega
    have hR : (x == y) = false := by rw [beq_eq_false_iff_ne]; rintro rfl; exact hne rfl
    have HR := Lib.hid hR
    clear hR hne
    go_enter Try.func33, Try.ntmps33
    go_wp2
    go_ret
    exact ⟨by rw [HR.out]; rfl, Below.refl _ _⟩

set_option maxRecDepth 100000 in
theorem sameDigests (w : World) (A A' : Option Addr) (n n' c c' : Nat) (x y : List (List UInt8)) (hx : Rd w 16 (.slice A n c) n (fl cd x)) (hy : Rd w 16 (.slice A' n' c') n' (fl cd y)) (hx16 : ∀ d ∈ x, d.length = 16) (hy16 : ∀ d ∈ y, d.length = 16) (hl : n ≤ 4294967296) :
    Calls Try.prog 36 #[.slice A n c, .slice A' n' c'] w fun e w' => e = .returned (.bool (x == y)) ∧ Below w.heap.size w w' := by
  have hxc : ∀ d ∈ x, (cd d).length = 16 := fun d hd => by simpa [cd] using hx16 d hd
  have hyc : ∀ d ∈ y, (cd d).length = 16 := fun d hd => by simpa [cd] using hy16 d hd
  obtain rfl : x.length = n := by have := hx.len; rw [fl_len hxc] at this; omega
  obtain rfl : y.length = n' := by have := hy.len; rw [fl_len hyc] at this; omega
  by_cases hne : x.length = y.length
  · have hne1 : ((x.length : Int) != (y.length : Int)) = false := by simp [hne]
    go_enter Try.func36, Try.ntmps36
    have HN : Hid (x.length = y.length) := hne
    have hle : x.length ≤ y.length := by omega
    have hge : y.length ≤ x.length := by omega
    clear hne
    go_wp2
    go_loopw [5] (fun i wr => ∃ k : Nat, k ≤ x.length ∧ i = .int .i64 (k : Int) ∧ Hid (x.take k = y.take k) ∧ Below w.heap.size w wr) (fun i _ => x.length - (intOf i).toNat)
    case atStart => exact ⟨0, by omega, rfl, by show _ = _; simp, Below.refl _ _⟩
    case round =>
      obtain ⟨k, hk, rfl, hT, hb⟩ := hrel
      by_cases hlt : k < x.length
      · obtain ⟨b, off, a, rfl, hbl, hcell, ha, hD⟩ := (hx.below hb).atF hxc (by omega) hlt
        obtain ⟨b', off', a', rfl, hbl', hcell', ha', hD'⟩ := (hy.below hb).atF hyc (by omega) (k := k) (by omega)
        have H16 : Hid (a.length = 16 ∧ a'.length = 16) := ⟨hx16 a ha, hy16 a' ha'⟩
        have HC : Hid ((cd a).length = 16 ∧ (cd a').length = 16) := ⟨hxc a ha, hyc a' ha'⟩
        clear ha ha'
        by_cases hq : a = a'
        · have hq1 : (a != a') = false := by simpa using hq
          have HQ : Hid (a = a') := hq
          clear hq
          go_wp2
          refine wp_region_quiet_lit (by kernel_rfl) (by kernel_rfl) ?_
          repeat (first
            | (refine quiet_load_agg rfl 57 (.tmp 19) rfl b (off + k * 16) rfl _ Try.underlying57 rfl (cd a) (fun w' hw' => by obtain ⟨nn, rfl⟩ := hw'; exact hcell) (by rw [HC.out.1]; exact size_dg) ?_; go_simp)
            | (refine quiet_load_agg rfl 57 (.tmp 23) rfl b' (off' + k * 16) rfl _ Try.underlying57 rfl (cd a') (fun w' hw' => by obtain ⟨nn, rfl⟩ := hw'; exact hcell') (by rw [HC.out.2]; exact size_dg) ?_; go_simp)
            | (refine quiet_val rfl (.bool (a != a')) (fun w' => exec_cmp_agg .neq 57 57 (.tmp 20) (.tmp 24) rfl (cd a).toArray (cd a').toArray rfl rfl (by kernel_rfl) _ w' (run_neq_arr w' 57 5 16 Try.underlying57 Try.underlying5 (by kernel_rfl) a a' H16.out.1 H16.out.2)) ?_; go_simp)
            | go_big_quiet_step (fail))
          refine wpQuiet_nil ?_
          intro nq
          go_wp2
          go_roundw
          case rel => exact ⟨k + 1, by omega, by go_num, by show _ = _; rw [take_succ_drop hD.out, take_succ_drop hD'.out, hT.out, HQ.out], below_drewN hb _⟩
          case measure => simp [intOf]; omega
        · have hq1 : (a != a') = true := by simpa using hq
          have hR : (x == y) = false := by
            rw [beq_eq_false_iff_ne]
            rintro rfl
            have h1 := hD.out
            rw [hD'.out] at h1
            injection h1 with h1 _
            exact hq h1.symm
          have HR := Lib.hid hR
          clear hR
          go_wp2
          refine wp_region_quiet_lit (by kernel_rfl) (by kernel_rfl) ?_
          repeat (first
            | (refine quiet_load_agg rfl 57 (.tmp 19) rfl b (off + k * 16) rfl _ Try.underlying57 rfl (cd a) (fun w' hw' => by obtain ⟨nn, rfl⟩ := hw'; exact hcell) (by rw [HC.out.1]; exact size_dg) ?_; go_simp)
            | (refine quiet_load_agg rfl 57 (.tmp 23) rfl b' (off' + k * 16) rfl _ Try.underlying57 rfl (cd a') (fun w' hw' => by obtain ⟨nn, rfl⟩ := hw'; exact hcell') (by rw [HC.out.2]; exact size_dg) ?_; go_simp)
            | (refine quiet_val rfl (.bool (a != a')) (fun w' => exec_cmp_agg .neq 57 57 (.tmp 20) (.tmp 24) rfl (cd a).toArray (cd a').toArray rfl rfl (by kernel_rfl) _ w' (run_neq_arr w' 57 5 16 Try.underlying57 Try.underlying5 (by kernel_rfl) a a' H16.out.1 H16.out.2)) ?_; go_simp)
            | go_big_quiet_step (fail))
          refine wpQuiet_nil ?_
          intro nq
          go_wp2
          go_ret
          exact ⟨by rw [HR.out]; rfl, below_drewN hb _⟩
      · have hR : (x == y) = true := by
          rw [beq_iff_eq]
          exact drop_eq_of_take hT.out (by omega) HN.out
        have HR := Lib.hid hR
        clear hR
        go_wp2
        go_ret
        exact ⟨by rw [HR.out]; rfl, hb⟩
  · have hne1 : ((x.length : Int) != (y.length : Int)) = true := by simp; omega
    have hR : (x == y) = false := by rw [beq_eq_false_iff_ne]; rintro rfl; exact hne rfl
    have HR := Lib.hid hR
    clear hR hne
    go_enter Try.func36, Try.ntmps36
    go_wp2
    go_ret
    exact ⟨by rw [HR.out]; rfl, Below.refl _ _⟩
end Go.Proofs.Ytbjddcjochealaa
