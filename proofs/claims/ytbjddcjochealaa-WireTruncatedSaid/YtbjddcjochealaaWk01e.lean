import Derived.Test.YtbjddcjochealaaWk01d
namespace Go.Proofs.Ytbjddcjochealaa
open Go.RowKit

set_option maxRecDepth 100000 in
theorem wListI (w : World) (A : Option Addr) (c : Nat) (l : List Int) (hr : Rd w 1 (.slice A l.length c) l.length (l.map (Value.int .i64))) (hl : l.length ≤ 4294967296) (hx' : ∀ x ∈ l, -9223372036854775808 ≤ x ∧ x ≤ 9223372036854775807)
    (ht : (encL encI l).length ≤ 140737488355328) :
    Calls Try.prog 38 #[.slice A l.length c, .func (.func 14) #[] #[]] w fun e w' => ∃ v, e = .returned v ∧ Mk w w' 5 1 v (encL encI l).length ((encL encI l).map B8) := by
  have hE := encI_length l.length
  go_enter Try.func38, Try.ntmps38
  go_wp2_with (go_at_call 14; refine (wInt _ _ (by omega) (by omega)).mono ?_; rintro e w1 ⟨v1, rfl, hown1, hb1⟩)
  go_loopw [5, 13] (fun v i wr => ∃ k : Nat, k ≤ l.length ∧ i = .int .i64 (k : Int) ∧ wr.ownsRow w.heap.size 5 1 v (encP encI l k).length ((encP encI l k).map B8) ∧ Below w.heap.size w wr)
    (fun _ i _ => l.length - (intOf i).toNat)
  case atStart => exact ⟨0, by omega, rfl, by rw [encP_zero]; exact hown1, hb1⟩
  case round =>
    obtain ⟨k, hk, rfl, hown, hb⟩ := hrel
    by_cases hlt : k < l.length
    · obtain ⟨b, off, x, rfl, hbl, hcell, hx, hD⟩ := (hr.below hb).atG hlt
      have hS := encP_succ encI hD.out
      have hP := encP_le encI l (k + 1)
      rw [hS, List.length_append] at hP
      have HS := Lib.hid hS
      clear hS
      obtain ⟨x1, x2⟩ := hx' x hx
      go_wp2_with (first
        | (go_at_call 14; refine (wInt _ _ x1 x2).mono ?_; rintro e w2 ⟨v2, rfl, hown2, hb2⟩; have hown3 := own_below hown hb2; have hb3 := hb.trans (hb2.mono hb.size))
        | (at_builtin; refine append_rd rfl (.tmp 17) (.tmp 20) 28 rfl w.heap.size 5 _ 1 1 Try.underlying28 info_u8 rfl (by decide) _ _ _ rfl hown3 _ _ _ rfl (Rd.of_own hown2) (B8s_one _) (by omega) (by unfold maxLen; omega) hb3.size ?_; intro v3 w3 hown4 hg4 hb4))
      go_roundw
      case rel =>
        refine ⟨k + 1, by omega, by go_num, ?_, hb3.trans hb4⟩
        rw [HS.out]
        simpa using hown4
      case measure => simp [intOf]; omega
    · have hkl : k = l.length := by omega
      subst hkl
      go_wp2
      go_ret
      rw [encP_all] at hown
      exact ⟨_, rfl, hown, hb⟩

set_option maxRecDepth 100000 in
theorem wListS (w : World) (A : Option Addr) (c : Nat) (l : List (List UInt8)) (hr : Rd w 1 (.slice A l.length c) l.length (l.map tx)) (hl : l.length ≤ 4294967296) (hx' : ∀ x ∈ l, x.length ≤ 4294967296)
    (ht : (encL encS l).length ≤ 140737488355328) :
    Calls Try.prog 39 #[.slice A l.length c, .func (.func 16) #[] #[]] w fun e w' => ∃ v, e = .returned v ∧ Mk w w' 5 1 v (encL encS l).length ((encL encS l).map B8) := by
  have hE := encI_length l.length
  go_enter Try.func39, Try.ntmps39
  go_wp2_with (go_at_call 14; refine (wInt _ _ (by omega) (by omega)).mono ?_; rintro e w1 ⟨v1, rfl, hown1, hb1⟩)
  go_loopw [5, 13] (fun v i wr => ∃ k : Nat, k ≤ l.length ∧ i = .int .i64 (k : Int) ∧ wr.ownsRow w.heap.size 5 1 v (encP encS l k).length ((encP encS l k).map B8) ∧ Below w.heap.size w wr)
    (fun _ i _ => l.length - (intOf i).toNat)
  case atStart => exact ⟨0, by omega, rfl, by rw [encP_zero]; exact hown1, hb1⟩
  case round =>
    obtain ⟨k, hk, rfl, hown, hb⟩ := hrel
    by_cases hlt : k < l.length
    · obtain ⟨b, off, x, rfl, hbl, hcell, hx, hD⟩ := (hr.below hb).atG hlt
      have hS := encP_succ encS hD.out
      have hP := encP_le encS l (k + 1)
      rw [hS, List.length_append] at hP
      have HS := Lib.hid hS
      clear hS
      have x1 := hx' x hx
      simp only [tx] at hcell
      go_wp2_with (first
        | (go_at_call 16; refine (wBytes _ _ x1).mono ?_; rintro e w2 ⟨v2, rfl, hown2, hb2⟩; have hown3 := own_below hown hb2; have hb3 := hb.trans (hb2.mono hb.size))
        | (at_builtin; refine append_rd rfl (.tmp 17) (.tmp 20) 28 rfl w.heap.size 5 _ 1 1 Try.underlying28 info_u8 rfl (by decide) _ _ _ rfl hown3 _ _ _ rfl (Rd.of_own hown2) (B8s_one _) (by omega) (by unfold maxLen; omega) hb3.size ?_; intro v3 w3 hown4 hg4 hb4))
      go_roundw
      case rel =>
        refine ⟨k + 1, by omega, by go_num, ?_, hb3.trans hb4⟩
        rw [HS.out]
        simpa using hown4
      case measure => simp [intOf]; omega
    · have hkl : k = l.length := by omega
      subst hkl
      go_wp2
      go_ret
      rw [encP_all] at hown
      exact ⟨_, rfl, hown, hb⟩

set_option maxRecDepth 100000 in
theorem rInts (w : World) (A : Option Addr) (c : Nat) (l : List Int) (hr : Rd w 1 (.slice A l.length c) l.length (l.map (Value.int .i64))) (hl : l.length ≤ 4294967296) (hx' : ∀ x ∈ l, -9223372036854775808 ≤ x ∧ x ≤ 9223372036854775807)
    (ht : (encL encI l).length ≤ 140737488355328) :
    Calls Try.prog 19 #[.slice A l.length c] w fun e w' => ∃ v, e = .returned v ∧ Mk w w' 5 1 v (encL encI l).length ((encL encI l).map B8) := by
  have hE := encI_length l.length
  go_enter Try.func19, Try.ntmps19
  go_wp2_with (go_at_call 15; refine (rInt _ _ (by omega) (by omega)).mono ?_; rintro e w1 ⟨v1, rfl, hown1, hb1⟩)
  go_loopw [3, 4] (fun v i wr => ∃ k : Nat, k ≤ l.length ∧ i = .int .i64 (k : Int) ∧ wr.ownsRow w.heap.size 5 1 v (encP encI l k).length ((encP encI l k).map B8) ∧ Below w.heap.size w wr)
    (fun _ i _ => l.length - (intOf i).toNat)
  case atStart => exact ⟨0, by omega, rfl, by rw [encP_zero]; exact hown1, hb1⟩
  case round =>
    obtain ⟨k, hk, rfl, hown, hb⟩ := hrel
    by_cases hlt : k < l.length
    · obtain ⟨b, off, x, rfl, hbl, hcell, hx, hD⟩ := (hr.below hb).atG hlt
      have hS := encP_succ encI hD.out
      have hP := encP_le encI l (k + 1)
      rw [hS, List.length_append] at hP
      have HS := Lib.hid hS
      clear hS
      obtain ⟨x1, x2⟩ := hx' x hx
      go_wp2_with (first
        | (go_at_call 15; refine (rInt _ _ x1 x2).mono ?_; rintro e w2 ⟨v2, rfl, hown2, hb2⟩; have hown3 := own_below hown hb2; have hb3 := hb.trans (hb2.mono hb.size))
        | (at_builtin; refine append_rd rfl (.tmp 14) (.tmp 19) 28 rfl w.heap.size 5 _ 1 1 Try.underlying28 info_u8 rfl (by decide) _ _ _ rfl hown3 _ _ _ rfl (Rd.of_own hown2) (B8s_one _) (by omega) (by unfold maxLen; omega) hb3.size ?_; intro v3 w3 hown4 hg4 hb4))
      go_roundw
      case rel =>
        refine ⟨k + 1, by omega, by go_num, ?_, hb3.trans hb4⟩
        rw [HS.out]
        simpa using hown4
      case measure => simp [intOf]; omega
    · have hkl : k = l.length := by omega
      subst hkl
      go_wp2
      go_ret
      rw [encP_all] at hown
      exact ⟨_, rfl, hown, hb⟩

set_option maxRecDepth 100000 in
theorem rStrings (w : World) (A : Option Addr) (c : Nat) (l : List (List UInt8)) (hr : Rd w 1 (.slice A l.length c) l.length (l.map tx)) (hl : l.length ≤ 4294967296) (hx' : ∀ x ∈ l, x.length ≤ 4294967296)
    (ht : (encL encS l).length ≤ 140737488355328) :
    Calls Try.prog 21 #[.slice A l.length c] w fun e w' => ∃ v, e = .returned v ∧ Mk w w' 5 1 v (encL encS l).length ((encL encS l).map B8) := by
  have hE := encI_length l.length
  go_enter Try.func21, Try.ntmps21
  go_wp2_with (go_at_call 15; refine (rInt _ _ (by omega) (by omega)).mono ?_; rintro e w1 ⟨v1, rfl, hown1, hb1⟩)
  go_loopw [3, 4] (fun v i wr => ∃ k : Nat, k ≤ l.length ∧ i = .int .i64 (k : Int) ∧ wr.ownsRow w.heap.size 5 1 v (encP encS l k).length ((encP encS l k).map B8) ∧ Below w.heap.size w wr)
    (fun _ i _ => l.length - (intOf i).toNat)
  case atStart => exact ⟨0, by omega, rfl, by rw [encP_zero]; exact hown1, hb1⟩
  case round =>
    obtain ⟨k, hk, rfl, hown, hb⟩ := hrel
    by_cases hlt : k < l.length
    · obtain ⟨b, off, x, rfl, hbl, hcell, hx, hD⟩ := (hr.below hb).atG hlt
      have hS := encP_succ encS hD.out
      have hP := encP_le encS l (k + 1)
      rw [hS, List.length_append] at hP
      have HS := Lib.hid hS
      clear hS
      have x1 := hx' x hx
      simp only [tx] at hcell
      go_wp2_with (first
        | (go_at_call 17; refine (rBytes _ _ x1).mono ?_; rintro e w2 ⟨v2, rfl, hown2, hb2⟩; have hown3 := own_below hown hb2; have hb3 := hb.trans (hb2.mono hb.size))
        | (at_builtin; refine append_rd rfl (.tmp 14) (.tmp 19) 28 rfl w.heap.size 5 _ 1 1 Try.underlying28 info_u8 rfl (by decide) _ _ _ rfl hown3 _ _ _ rfl (Rd.of_own hown2) (B8s_one _) (by omega) (by unfold maxLen; omega) hb3.size ?_; intro v3 w3 hown4 hg4 hb4))
      go_roundw
      case rel =>
        refine ⟨k + 1, by omega, by go_num, ?_, hb3.trans hb4⟩
        rw [HS.out]
        simpa using hown4
      case measure => simp [intOf]; omega
    · have hkl : k = l.length := by omega
      subst hkl
      go_wp2
      go_ret
      rw [encP_all] at hown
      exact ⟨_, rfl, hown, hb⟩

theorem wInts (w : World) (A : Option Addr) (c : Nat) (l : List Int) (hr : Rd w 1 (.slice A l.length c) l.length (l.map (Value.int .i64))) (hl : l.length ≤ 4294967296) (hx' : ∀ x ∈ l, -9223372036854775808 ≤ x ∧ x ≤ 9223372036854775807)
    (ht : (encL encI l).length ≤ 140737488355328) :
    Calls Try.prog 18 #[.slice A l.length c] w fun e w' => ∃ v, e = .returned v ∧ Mk w w' 5 1 v (encL encI l).length ((encL encI l).map B8) := by
  go_enter Try.func18, Try.ntmps18
  go_wp2_with (go_at_call 38; refine (wListI _ _ _ _ hr hl hx' ht).mono ?_; rintro e w1 ⟨v1, rfl, hown1, hb1⟩)
  go_ret
  exact ⟨_, rfl, hown1, hb1⟩

theorem wStrings (w : World) (A : Option Addr) (c : Nat) (l : List (List UInt8)) (hr : Rd w 1 (.slice A l.length c) l.length (l.map tx)) (hl : l.length ≤ 4294967296) (hx' : ∀ x ∈ l, x.length ≤ 4294967296)
    (ht : (encL encS l).length ≤ 140737488355328) :
    Calls Try.prog 20 #[.slice A l.length c] w fun e w' => ∃ v, e = .returned v ∧ Mk w w' 5 1 v (encL encS l).length ((encL encS l).map B8) := by
  go_enter Try.func20, Try.ntmps20
  go_wp2_with (go_at_call 39; refine (wListS _ _ _ _ hr hl hx' ht).mono ?_; rintro e w1 ⟨v1, rfl, hown1, hb1⟩)
  go_ret
  exact ⟨_, rfl, hown1, hb1⟩

end Go.Proofs.Ytbjddcjochealaa
