/-
  'rivermarklaw01.WireCanonical' returns true: for every byte sequence (of at most 2000 bytes), if an integer, a string, or a list of integers, strings or digests is decoded, then the consumed bytes are its encoding. No condition.
-/
import Derived.Test.YtbjddcjochealaaUni
namespace Go.Proofs.Ytbjddcjochealaa
open Go.RowKit

theorem getN_all {α : Type} {one : List UInt8 → Except Int (α × Nat)} {N : Nat} {Pr : α → Prop} (h1 : ∀ b x u, b.length ≤ N → one b = .ok (x, u) → Pr x) : ∀ (n : Nat) (b : List UInt8) (l : List α) (u : Nat), b.length ≤ N → getN one n b = .ok (l, u) → ∀ x ∈ l, Pr x
  | 0, b, l, u, _, h => by
    simp [getN] at h
    obtain ⟨rfl, _⟩ := h
    simp
  | n + 1, b, l, u, hb, h => by
    simp only [getN] at h
    split at h
    · cases h
    · rename_i x v ho
      cases hg : getN one n (b.drop v) with
      | error e' => rw [hg] at h; simp [preN] at h
      | ok p =>
        obtain ⟨l', u'⟩ := p
        rw [hg] at h
        simp [preN] at h
        obtain ⟨rfl, _⟩ := h
        intro y hy
        rcases List.mem_cons.1 hy with rfl | hy
        · exact h1 _ _ _ hb ho
        · exact getN_all h1 n _ _ _ (by rw [List.length_drop]; omega) hg y hy
theorem getL_all {α : Type} {one : List UInt8 → Except Int (α × Nat)} {m : Nat} {Pr : α → Prop} {bs : List UInt8} (h1 : ∀ b x u, b.length ≤ bs.length → one b = .ok (x, u) → Pr x) : ∀ x ∈ rv [] (getL one m bs), Pr x := by
  cases hd : getL one m bs with
  | error e => simp [rv]
  | ok p =>
    obtain ⟨l, u⟩ := p
    unfold getL at hd
    split at hd
    · cases hd
    · split at hd
      · cases hd
      · rename_i hg
        simp at hd
        obtain ⟨rfl, _⟩ := hd
        exact getN_all (N := bs.length) h1 _ _ _ _ (by rw [List.length_drop]; omega) hg
theorem getL_size {α : Type} {f : α → List UInt8} {one : List UInt8 → Except Int (α × Nat)} {least : Nat} {ok : α → Prop} (hc : Codec f one least ok) (h1 : ∀ b e, one b = .error e → e ≠ 0) {bs : List UInt8} (hl : 0 < least)
    (hok : ∀ x ∈ rv [] (getL one least bs), ok x) : (encL f (rv [] (getL one least bs))).length ≤ bs.length + 10 ∧ (rv [] (getL one least bs)).length ≤ bs.length ∧ ru (getL one least bs) ≤ bs.length := by
  cases hd : getL one least bs with
  | error e =>
    have := (encI_length 0).2
    refine ⟨?_, by simp [rv], by simp [ru]⟩
    simp only [rv, encL, List.length_nil, List.map_nil, List.flatten_nil, List.append_nil]
    have e0 : encI ((0 : Nat) : Int) = encI 0 := rfl
    rw [e0]
    omega
  | ok p =>
    obtain ⟨l, u⟩ := p
    obtain ⟨h2, h3⟩ := getL_take hc hd
    have h4 : (encL f l).length ≤ bs.length := by rw [← h2, List.length_take]; omega
    have h5 : l.length * least ≤ (l.map f).flatten.length := flat_long l fun x hx => hc.long x (hok x (by rw [hd]; exact hx))
    have h6 : l.length ≤ l.length * least := Nat.le_mul_of_pos_right _ hl
    refine ⟨?_, ?_, ?_⟩
    · simp only [rv]; omega
    · simp only [rv]; unfold encL at h4; rw [List.length_append] at h4; omega
    · simp only [ru]; exact h3

theorem ok_I (bs : List UInt8) : ∀ x ∈ rv [] (getL decI 1 bs), -9223372036854775808 ≤ x ∧ x ≤ 9223372036854775807 := getL_all fun _ _ _ _ h => by have := decI_ok h; omega
theorem ok_S (bs : List UInt8) : ∀ x ∈ rv [] (getL getS 1 bs), x.length ≤ bs.length := getL_all fun _ _ _ hb h => by have := getS_ok h; omega
theorem ok_D (bs : List UInt8) : ∀ x ∈ rv [] (getL oneD 16 bs), x.length = 16 := getL_all fun b _ _ _ h => by
  unfold oneD at h
  split at h
  · cases h
  · simp at h
    obtain ⟨rfl, _⟩ := h
    simp
    omega
theorem sz_S (bs : List UInt8) : (rv [] (getS bs)).length ≤ bs.length ∧ ru (getS bs) ≤ bs.length := by
  cases hd : getS bs with
  | error e => simp [rv, ru]
  | ok p => obtain ⟨s, u⟩ := p; have := getS_ok hd; simp only [rv, ru]; omega
theorem sz_I (bs : List UInt8) : ru (decI bs) ≤ bs.length := by
  cases hd : decI bs with
  | error e => simp [ru]
  | ok p => obtain ⟨s, u⟩ := p; have := decI_ok hd; simp only [ru]; omega

set_option maxRecDepth 100000 in
set_option maxHeartbeats 800000 in
theorem walkCanon (A : Option Addr) (n c : Nat) (bs : List UInt8) (w : World) (hn : n ≤ 140737488351232) (hr : Rd w 1 (.slice A n c) n (bs.map B8)) :
    Calls Try.prog 7 #[.slice A n c] w fun e w' => e = .returned (.bool true) ∧ Below w.heap.size w w' := by
  have hlen := hr.n_eq
  by_cases hlt : n ≤ 2000
  · obtain ⟨i1, i2⟩ := rv_I_range bs
    have s1 := sz_S bs
    have s2 := sz_I bs
    obtain ⟨p1, p2, p3⟩ := getL_size codecI (fun b e h => by have := decI_err h; omega) (bs := bs) (by omega) (ok_I bs)
    have oS : ∀ x ∈ rv [] (getL getS 1 bs), x.length ≤ 4294967296 := fun x hx => by have := ok_S bs x hx; omega
    obtain ⟨q1, q2, q3⟩ := getL_size codecS (fun b e h => by have := getS_err h; omega) (bs := bs) (by omega) (fun x hx => by have := ok_S bs x hx; omega)
    obtain ⟨r1, r2, r3⟩ := getL_size codecD oneD_err (bs := bs) (by omega) (ok_D bs)
    have HL := Lib.hid hlen
    have hlen1 : bs.length ≤ n := by omega
    clear hlen
    go_enter Try.func7, Try.ntmps7
    go_wp2_with fail
    refine (uInt _ _ _ _ bs hr (by omega)).mono ?_
    rintro e w0 ⟨rfl, rfl⟩
    go_wp2_with fail
    refine (uStr _ _ _ _ bs hr (by omega)).mono ?_
    rintro e w0 ⟨rfl, rfl⟩
    go_wp2_with fail
    refine (uInts _ _ _ _ bs hr (by omega)).mono ?_
    rintro e w1 ⟨A1, c1, rfl, R1, hb1⟩
    have hr1 := hr.below hb1
    go_wp2_with fail
    refine (uStrs _ _ _ _ bs hr1 (by omega)).mono ?_
    rintro e w2 ⟨A2, c2, rfl, R2, hb2⟩
    have hr2 := hr1.below hb2
    have R1b := R1.below hb2
    have hb02 := hb1.trans (hb2.mono hb1.size)
    go_wp2_with fail
    refine (uDgs _ _ _ _ bs hr2 (by omega)).mono ?_
    rintro e w3 ⟨A3, c3, rfl, R3, hb3⟩
    have hr3 := hr2.below hb3
    have R1c := R1b.below hb3
    have R2c := R2.below hb3
    have hb03 := hb02.trans (hb3.mono hb02.size)
    go_wp2_with fail
    refine (sanityC _).mono ?_
    rintro e w4 ⟨rfl, hb4⟩
    have hr4 := hr3.below hb4
    have R1d := R1c.below hb4
    have R2d := R2c.below hb4
    have R3d := R3.below hb4
    have hb04 := hb03.trans (hb4.mono hb03.size)
    clear hr1 hr2 hr3 R1 R1b R1c R2 R2c R3 hb1 hb2 hb3 hb4 hb02 hb03
    go_wp2_with fail
    refine (wInt _ _ i1 i2).mono ?_
    rintro e w5 ⟨v5, rfl, hown5, hb5⟩
    have R5 := Rd.of_own hown5
    obtain ⟨A5, c5, rfl, _, _⟩ := R5.form
    go_wp2_with fail
    refine (consumedC _ _ _ _ _ _ _ bs _ _ _ (hr4.below hb5) R5 (by omega) (by omega) (fun h => can_I h)).mono ?_
    rintro e w0 ⟨rfl, rfl⟩
    have hr5 := hr4.below hb5
    have R1e := R1d.below hb5
    have R2e := R2d.below hb5
    have R3e := R3d.below hb5
    have hb05 := hb04.trans (hb5.mono hb04.size)
    clear hr4 R1d R2d R3d hb04 hb5 R5 hown5
    go_wp2_with fail
    refine (wBytes _ _ (by omega)).mono ?_
    rintro e w6 ⟨v6, rfl, hown6, hb6⟩
    have R6 := Rd.of_own hown6
    obtain ⟨A6, c6, rfl, _, _⟩ := R6.form
    have hr6 := hr5.below hb6
    have R1f := R1e.below hb6
    have R2f := R2e.below hb6
    have R3f := R3e.below hb6
    have hb06 := hb05.trans (hb6.mono hb05.size)
    go_wp2_with fail
    refine (consumedC _ _ _ _ _ _ _ bs _ _ _ hr6 R6 (by omega) (by omega) (fun h => can_S h)).mono ?_
    rintro e w0 ⟨rfl, rfl⟩
    clear hr5 R1e R2e R3e hb05 hb6 R6 hown6
    go_wp2_with fail
    refine (wInts _ _ _ _ R1f (by omega) (ok_I bs) (by omega)).mono ?_
    rintro e w7 ⟨v7, rfl, hown7, hb7⟩
    have R7 := Rd.of_own hown7
    obtain ⟨A7, c7, rfl, _, _⟩ := R7.form
    have hr7 := hr6.below hb7
    have R2g := R2f.below hb7
    have R3g := R3f.below hb7
    have hb07 := hb06.trans (hb7.mono hb06.size)
    go_wp2_with fail
    refine (consumedC _ _ _ _ _ _ _ bs _ _ _ hr7 R7 (by omega) (by omega) (fun h => can_L codecI (fun b e h => by have := decI_err h; omega) h)).mono ?_
    rintro e w0 ⟨rfl, rfl⟩
    clear hr6 R1f R2f R3f hb06 hb7 R7 hown7
    go_wp2_with fail
    refine (wStrings _ _ _ _ R2g (by omega) oS (by omega)).mono ?_
    rintro e w8 ⟨v8, rfl, hown8, hb8⟩
    have R8 := Rd.of_own hown8
    obtain ⟨A8, c8, rfl, _, _⟩ := R8.form
    have hr8 := hr7.below hb8
    have R3h := R3g.below hb8
    have hb08 := hb07.trans (hb8.mono hb07.size)
    go_wp2_with fail
    refine (consumedC _ _ _ _ _ _ _ bs _ _ _ hr8 R8 (by omega) (by omega) (fun h => can_L codecS (fun b e h => by have := getS_err h; omega) h)).mono ?_
    rintro e w0 ⟨rfl, rfl⟩
    clear hr7 R2g R3g hb07 hb8 R8 hown8
    go_wp2_with fail
    refine (wDigests _ _ _ _ R3h (by omega) (ok_D bs) (by omega)).mono ?_
    rintro e w9 ⟨v9, rfl, hown9, hb9⟩
    have R9 := Rd.of_own hown9
    obtain ⟨A9, c9, rfl, _, _⟩ := R9.form
    have hr9 := hr8.below hb9
    have hb09 := hb08.trans (hb9.mono hb08.size)
    go_wp2_with fail
    refine (consumedC _ _ _ _ _ _ _ bs _ _ _ hr9 R9 (by omega) (by omega) (fun h => can_L codecD oneD_err h)).mono ?_
    rintro e w0 ⟨rfl, rfl⟩
    go_wp2
    go_ret
    exact ⟨rfl, hb09⟩
  · go_enter Try.func7, Try.ntmps7
    go_wp2_with (go_at_call 12; refine (sanityC _).mono ?_; rintro e w1 ⟨rfl, hb1⟩)
    go_ret
    exact ⟨rfl, hb1⟩
end Go.Proofs.Ytbjddcjochealaa
