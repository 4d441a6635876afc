/-
  'rivermarklaw01.WireLengths' returns true: of two integers the one that is nearer to -1/2 has no longer encoding; an encoding of an integer from -64 to 63 has one byte; neither of two different encodings is a proper prefix of the other one. No condition.
-/
import Derived.Test.YtbjddcjochealaaWk01k
import Derived.Test.YtbjddcjochealaaAp
import Derived.Test.YtbjddcjochealaaLaw01
import Derived.Deep.RegionWith
import Derived.Deep.RegionHeld3
import Derived.Deep.Cut
namespace Go.Proofs.Ytbjddcjochealaa
open Go.RowKit

theorem encF_mono : ∀ (f z z' : Nat), z / 2 ≤ z' / 2 → (encF f z).length ≤ (encF f z').length
  | 0, _, _, _ => by simp [encF]
  | f + 1, z, z', h => by
    unfold encF
    by_cases hz : 127 < z
    · rw [if_pos hz, if_pos (by omega)]
      have := encF_mono f (z / 128) (z' / 128) (by omega)
      simp only [List.length_cons]
      omega
    · rw [if_neg hz]
      split
      · simp
      · simp
theorem mx_zz (m : Int) : max m (-1 - m) = ((zz m / 2 : Nat) : Int) := by
  unfold zz
  split <;> omega
theorem encI_mono {m n : Int} (h : max m (-1 - m) ≤ max n (-1 - n)) : (encI m).length ≤ (encI n).length := by
  rw [mx_zz, mx_zz] at h
  exact encF_mono 9 _ _ (by omega)
theorem encI_one (m : Int) : (encI m).length = 1 ↔ max m (-1 - m) < 64 := by
  rw [mx_zz]
  unfold encI encF
  split
  · have := encF_length 8 (zz m / 128)
    simp only [List.length_cons]
    omega
  · simp
    omega
theorem encI_neg (m : Int) : (encI (-1 - m)).length = (encI m).length := by
  have h1 := encI_mono (m := m) (n := -1 - m) (by omega)
  have h2 := encI_mono (m := -1 - m) (n := m) (by omega)
  omega
theorem encI_prefix {m n : Int} (hm : -9223372036854775808 ≤ m ∧ m ≤ 9223372036854775807) (hn : -9223372036854775808 ≤ n ∧ n ≤ 9223372036854775807)
    (h : encI m = (encI n).take (encI m).length) : m = n := by
  have h1 : encI m ++ (encI n).drop (encI m).length = encI n := by
    have h2 := List.take_append_drop (encI m).length (encI n)
    rw [← h] at h2
    exact h2
  have h3 := decI_enc hm.1 hm.2 ((encI n).drop (encI m).length)
  have h4 := decI_enc hn.1 hn.2 []
  rw [List.append_nil, ← h1, h3] at h4
  simp at h4
  exact h4.1
theorem encI_pre (m n : Int) (hm : -9223372036854775808 ≤ m ∧ m ≤ 9223372036854775807) (hn : -9223372036854775808 ≤ n ∧ n ≤ 9223372036854775807) (k : Nat) (hk : k = min (encI m).length (encI n).length) :
    ((encI m).take k == (encI n).take k) = (m == n) := by
  rw [Bool.eq_iff_iff, beq_iff_eq, beq_iff_eq]
  constructor
  · intro h
    rcases Nat.le_total (encI m).length (encI n).length with hl | hl
    · have hk' : k = (encI m).length := by omega
      rw [hk', List.take_length] at h
      exact encI_prefix hm hn h
    · have hk' : k = (encI n).length := by omega
      rw [hk', List.take_length] at h
      exact (encI_prefix hn hm h.symm).symm
  · rintro rfl
    rfl

theorem wIntN (m : Int) (w : World) {k : Nat} (h1 : -9223372036854775808 ≤ m) (h2 : m ≤ 9223372036854775807) (hk : (encI m).length = k) :
    Calls Try.prog 14 #[.int .i64 m] w fun e w' => ∃ v, e = .returned v ∧ Mk w w' 5 1 v k ((encI m).map B8) := by
  rw [← hk]
  exact wInt m w h1 h2
set_option maxRecDepth 100000 in
set_option maxHeartbeats 1600000 in
theorem lenLa (m n i k : Int) (La Lb : Nat) (w : World) (m1 : -9223372036854775808 ≤ m) (m2 : m ≤ 9223372036854775807) (n1 : -9223372036854775808 ≤ n) (n2 : n ≤ 9223372036854775807)
    (f4 : 1 ≤ La ∧ La ≤ 10) (f5 : 1 ≤ Lb ∧ Lb ≤ 10) (HE : Hid ((encI (-1 - m)).length = La)) (HP : Hid (((encI m).take La == (encI n).take La) = (m == n)))
    (HQ : Hid ((if m < -1 - m then -1 - m else m) = i)) (HK : Hid ((if n < -1 - n then -1 - n else n) = k)) (HA : Hid (La = (encI m).length)) (HB : Hid (Lb = (encI n).length))
    (h64 : i < 64) (hik : i < k) (a1 : ((La : Int) == 1) = true) (g1 : La ≤ Lb) :
    Calls Try.prog 5 #[.int .i64 m, .int .i64 n] w fun e w' => e = .returned (.bool true) ∧ Below w.heap.size w w' := by
  have hz1 : ((La : Int) == 0) = false := by simp; omega
  have hz2 : ((Lb : Int) == 0) = false := by simp; omega
  go_enter Try.func5, Try.ntmps5
  go_wp2_with fail
  refine (wInt _ _ m1 m2).mono ?_
  rw [← HA.out]
  rintro e w1 ⟨v1, rfl, hown1, hb1⟩
  go_wp2_with fail
  refine (wInt _ _ n1 n2).mono ?_
  rw [← HB.out]
  rintro e w2 ⟨v2, rfl, hown2, hb2⟩
  have R1 := (Rd.of_own hown1).below hb2
  have R2 := Rd.of_own hown2
  obtain ⟨A1, c1, rfl, hc1, hc1'⟩ := R1.form
  obtain ⟨A2, c2, rfl, hc2, hc2'⟩ := R2.form
  have hb02 := hb1.trans (hb2.mono hb1.size)
  clear hown1 hown2 hb1 hb2
  have qi := HQ.out
  have qk := HK.out
  go_wp2_with fail
  have R1p := R1.pre (k := La) (by omega)
  have R2p := R2.pre (k := La) (by omega)
  rw [← List.map_take] at R1p R2p
  have hr1 : -9223372036854775808 ≤ -1 - m := by omega
  have hr2 : -1 - m ≤ 9223372036854775807 := by omega
  have hw1 : IntKind.i64.wrap (-1 - m) = -1 - m := IntWalk.i64_in _ (by omega)
  have hs1 : ∀ wz, Below w2.heap.size w2 wz → (convert 28 9 (.slice A1 La c1)).run Try.prog wz = .ok (.string ⟨((encI m).take La).toArray⟩) wz := fun wz hb => run_str 28 9 5 Try.underlying28 Try.underlying5 Try.underlying9 (R1p.below hb)
  have hs2 : ∀ wz, Below w2.heap.size w2 wz → (convert 28 9 (.slice A2 La c2)).run Try.prog wz = .ok (.string ⟨((encI n).take La).toArray⟩) wz := fun wz hb => run_str 28 9 5 Try.underlying28 Try.underlying5 Try.underlying9 (R2p.below hb)
  have hc3 : La ≤ c1 := by omega
  have hc4 : La ≤ c2 := by omega
  have HS : Hid (∀ wz, Below w2.heap.size w2 wz → Below w2.heap.size w2 wz ∧ (convert 28 9 (.slice A1 La c1)).run Try.prog wz = .ok (.string ⟨((encI m).take La).toArray⟩) wz ∧ (convert 28 9 (.slice A2 La c2)).run Try.prog wz = .ok (.string ⟨((encI n).take La).toArray⟩) wz) := Lib.hid (fun wz hb => ⟨hb, hs1 wz hb, hs2 wz hb⟩)
  clear hs1 hs2
  go_region_held3 (fun wz => Below w2.heap.size w2 wz ∧ (convert 28 9 (.slice A1 La c1)).run Try.prog wz = .ok (.string ⟨((encI m).take La).toArray⟩) wz ∧ (convert 28 9 (.slice A2 La c2)).run Try.prog wz = .ok (.string ⟨((encI n).take La).toArray⟩) wz)
    (first
      | (go_split_ands; exact HS.out _ ((by assumption : Below w2.heap.size w2 _).trans (hb5'.mono (by assumption : Below w2.heap.size w2 _).size)))
      | (go_split_ands; exact HS.out _ ((by assumption : Below w2.heap.size w2 _).trans (hb4.mono (by assumption : Below w2.heap.size w2 _).size)))
      | exact HS.out _ (Below.refl _ w2).drew
      | exact HS.out _ (Below.refl _ w2)
      | fail "keep")
    (first
      | (go_at_call 12; refine (sanityC _).mono ?_; rintro e w4 ⟨rfl, hb4⟩)
      | (go_at_call 14; refine (wIntN _ _ hr1 hr2 HE.out).mono ?_; rintro e w5 ⟨v5, rfl, hown5, hb5'⟩; have R5 := Rd.of_own hown5; obtain ⟨A5, c5, rfl, _, _⟩ := R5.form))
  have hb24 : Below w2.heap.size w2 w5 := (Below.trans (Below.drew (Below.refl _ w2)) hb4).trans (hb5'.mono hb4.size)
  rw [HP.out, beq_self_eq_true]
  go_wp2
  go_ret
  exact ⟨rfl, hb02.trans (hb24.mono hb02.size)⟩
set_option maxRecDepth 100000 in
set_option maxHeartbeats 1600000 in
theorem lenEa (m n i : Int) (La : Nat) (w : World) (m1 : -9223372036854775808 ≤ m) (m2 : m ≤ 9223372036854775807) (n1 : -9223372036854775808 ≤ n) (n2 : n ≤ 9223372036854775807)
    (f4 : 1 ≤ La ∧ La ≤ 10) (f5 : 1 ≤ La ∧ La ≤ 10) (HE : Hid ((encI (-1 - m)).length = La)) (HP : Hid (((encI m).take La == (encI n).take La) = (m == n)))
    (HQ : Hid ((if m < -1 - m then -1 - m else m) = i)) (HK : Hid ((if n < -1 - n then -1 - n else n) = i)) (HA : Hid (La = (encI m).length)) (HB : Hid (La = (encI n).length))
    (h64 : i < 64)  (a1 : ((La : Int) == 1) = true) :
    Calls Try.prog 5 #[.int .i64 m, .int .i64 n] w fun e w' => e = .returned (.bool true) ∧ Below w.heap.size w w' := by
  have hz1 : ((La : Int) == 0) = false := by simp; omega
  have hz2 : ((La : Int) == 0) = false := by simp; omega
  go_enter Try.func5, Try.ntmps5
  go_wp2_with fail
  refine (wInt _ _ m1 m2).mono ?_
  rw [← HA.out]
  rintro e w1 ⟨v1, rfl, hown1, hb1⟩
  go_wp2_with fail
  refine (wInt _ _ n1 n2).mono ?_
  rw [← HB.out]
  rintro e w2 ⟨v2, rfl, hown2, hb2⟩
  have R1 := (Rd.of_own hown1).below hb2
  have R2 := Rd.of_own hown2
  obtain ⟨A1, c1, rfl, hc1, hc1'⟩ := R1.form
  obtain ⟨A2, c2, rfl, hc2, hc2'⟩ := R2.form
  have hb02 := hb1.trans (hb2.mono hb1.size)
  clear hown1 hown2 hb1 hb2
  have qi := HQ.out
  have qk := HK.out
  go_wp2_with fail
  have R1p := R1.pre (k := La) (by omega)
  have R2p := R2.pre (k := La) (by omega)
  rw [← List.map_take] at R1p R2p
  have hr1 : -9223372036854775808 ≤ -1 - m := by omega
  have hr2 : -1 - m ≤ 9223372036854775807 := by omega
  have hw1 : IntKind.i64.wrap (-1 - m) = -1 - m := IntWalk.i64_in _ (by omega)
  have hs1 : ∀ wz, Below w2.heap.size w2 wz → (convert 28 9 (.slice A1 La c1)).run Try.prog wz = .ok (.string ⟨((encI m).take La).toArray⟩) wz := fun wz hb => run_str 28 9 5 Try.underlying28 Try.underlying5 Try.underlying9 (R1p.below hb)
  have hs2 : ∀ wz, Below w2.heap.size w2 wz → (convert 28 9 (.slice A2 La c2)).run Try.prog wz = .ok (.string ⟨((encI n).take La).toArray⟩) wz := fun wz hb => run_str 28 9 5 Try.underlying28 Try.underlying5 Try.underlying9 (R2p.below hb)
  have hc3 : La ≤ c1 := by omega
  have hc4 : La ≤ c2 := by omega
  have HS : Hid (∀ wz, Below w2.heap.size w2 wz → Below w2.heap.size w2 wz ∧ (convert 28 9 (.slice A1 La c1)).run Try.prog wz = .ok (.string ⟨((encI m).take La).toArray⟩) wz ∧ (convert 28 9 (.slice A2 La c2)).run Try.prog wz = .ok (.string ⟨((encI n).take La).toArray⟩) wz) := Lib.hid (fun wz hb => ⟨hb, hs1 wz hb, hs2 wz hb⟩)
  clear hs1 hs2
  go_region_held3 (fun wz => Below w2.heap.size w2 wz ∧ (convert 28 9 (.slice A1 La c1)).run Try.prog wz = .ok (.string ⟨((encI m).take La).toArray⟩) wz ∧ (convert 28 9 (.slice A2 La c2)).run Try.prog wz = .ok (.string ⟨((encI n).take La).toArray⟩) wz)
    (first
      | (go_split_ands; exact HS.out _ ((by assumption : Below w2.heap.size w2 _).trans (hb5'.mono (by assumption : Below w2.heap.size w2 _).size)))
      | (go_split_ands; exact HS.out _ ((by assumption : Below w2.heap.size w2 _).trans (hb4.mono (by assumption : Below w2.heap.size w2 _).size)))
      | exact HS.out _ (Below.refl _ w2).drew
      | exact HS.out _ (Below.refl _ w2)
      | fail "keep")
    (first
      | (go_at_call 12; refine (sanityC _).mono ?_; rintro e w4 ⟨rfl, hb4⟩)
      | (go_at_call 14; refine (wIntN _ _ hr1 hr2 HE.out).mono ?_; rintro e w5 ⟨v5, rfl, hown5, hb5'⟩; have R5 := Rd.of_own hown5; obtain ⟨A5, c5, rfl, _, _⟩ := R5.form))
  have hb24 : Below w2.heap.size w2 w5 := (Below.trans (Below.drew (Below.refl _ w2)) hb4).trans (hb5'.mono hb4.size)
  rw [HP.out, beq_self_eq_true]
  go_wp2
  go_ret
  exact ⟨rfl, hb02.trans (hb24.mono hb02.size)⟩
set_option maxRecDepth 100000 in
set_option maxHeartbeats 1600000 in
theorem lenSa (m n i k : Int) (La : Nat) (w : World) (m1 : -9223372036854775808 ≤ m) (m2 : m ≤ 9223372036854775807) (n1 : -9223372036854775808 ≤ n) (n2 : n ≤ 9223372036854775807)
    (f4 : 1 ≤ La ∧ La ≤ 10) (f5 : 1 ≤ La ∧ La ≤ 10) (HE : Hid ((encI (-1 - m)).length = La)) (HP : Hid (((encI m).take La == (encI n).take La) = (m == n)))
    (HQ : Hid ((if m < -1 - m then -1 - m else m) = i)) (HK : Hid ((if n < -1 - n then -1 - n else n) = k)) (HA : Hid (La = (encI m).length)) (HB : Hid (La = (encI n).length))
    (h64 : i < 64) (hik : k < i) (a1 : ((La : Int) == 1) = true) :
    Calls Try.prog 5 #[.int .i64 m, .int .i64 n] w fun e w' => e = .returned (.bool true) ∧ Below w.heap.size w w' := by
  have hz1 : ((La : Int) == 0) = false := by simp; omega
  have hz2 : ((La : Int) == 0) = false := by simp; omega
  go_enter Try.func5, Try.ntmps5
  go_wp2_with fail
  refine (wInt _ _ m1 m2).mono ?_
  rw [← HA.out]
  rintro e w1 ⟨v1, rfl, hown1, hb1⟩
  go_wp2_with fail
  refine (wInt _ _ n1 n2).mono ?_
  rw [← HB.out]
  rintro e w2 ⟨v2, rfl, hown2, hb2⟩
  have R1 := (Rd.of_own hown1).below hb2
  have R2 := Rd.of_own hown2
  obtain ⟨A1, c1, rfl, hc1, hc1'⟩ := R1.form
  obtain ⟨A2, c2, rfl, hc2, hc2'⟩ := R2.form
  have hb02 := hb1.trans (hb2.mono hb1.size)
  clear hown1 hown2 hb1 hb2
  have qi := HQ.out
  have qk := HK.out
  go_wp2_with fail
  have R1p := R1.pre (k := La) (by omega)
  have R2p := R2.pre (k := La) (by omega)
  rw [← List.map_take] at R1p R2p
  have hr1 : -9223372036854775808 ≤ -1 - m := by omega
  have hr2 : -1 - m ≤ 9223372036854775807 := by omega
  have hw1 : IntKind.i64.wrap (-1 - m) = -1 - m := IntWalk.i64_in _ (by omega)
  have hs1 : ∀ wz, Below w2.heap.size w2 wz → (convert 28 9 (.slice A1 La c1)).run Try.prog wz = .ok (.string ⟨((encI m).take La).toArray⟩) wz := fun wz hb => run_str 28 9 5 Try.underlying28 Try.underlying5 Try.underlying9 (R1p.below hb)
  have hs2 : ∀ wz, Below w2.heap.size w2 wz → (convert 28 9 (.slice A2 La c2)).run Try.prog wz = .ok (.string ⟨((encI n).take La).toArray⟩) wz := fun wz hb => run_str 28 9 5 Try.underlying28 Try.underlying5 Try.underlying9 (R2p.below hb)
  have hc3 : La ≤ c1 := by omega
  have hc4 : La ≤ c2 := by omega
  have HS : Hid (∀ wz, Below w2.heap.size w2 wz → Below w2.heap.size w2 wz ∧ (convert 28 9 (.slice A1 La c1)).run Try.prog wz = .ok (.string ⟨((encI m).take La).toArray⟩) wz ∧ (convert 28 9 (.slice A2 La c2)).run Try.prog wz = .ok (.string ⟨((encI n).take La).toArray⟩) wz) := Lib.hid (fun wz hb => ⟨hb, hs1 wz hb, hs2 wz hb⟩)
  clear hs1 hs2
  go_region_held3 (fun wz => Below w2.heap.size w2 wz ∧ (convert 28 9 (.slice A1 La c1)).run Try.prog wz = .ok (.string ⟨((encI m).take La).toArray⟩) wz ∧ (convert 28 9 (.slice A2 La c2)).run Try.prog wz = .ok (.string ⟨((encI n).take La).toArray⟩) wz)
    (first
      | (go_split_ands; exact HS.out _ ((by assumption : Below w2.heap.size w2 _).trans (hb5'.mono (by assumption : Below w2.heap.size w2 _).size)))
      | (go_split_ands; exact HS.out _ ((by assumption : Below w2.heap.size w2 _).trans (hb4.mono (by assumption : Below w2.heap.size w2 _).size)))
      | exact HS.out _ (Below.refl _ w2).drew
      | exact HS.out _ (Below.refl _ w2)
      | fail "keep")
    (first
      | (go_at_call 12; refine (sanityC _).mono ?_; rintro e w4 ⟨rfl, hb4⟩)
      | (go_at_call 14; refine (wIntN _ _ hr1 hr2 HE.out).mono ?_; rintro e w5 ⟨v5, rfl, hown5, hb5'⟩; have R5 := Rd.of_own hown5; obtain ⟨A5, c5, rfl, _, _⟩ := R5.form))
  have hb24 : Below w2.heap.size w2 w5 := (Below.trans (Below.drew (Below.refl _ w2)) hb4).trans (hb5'.mono hb4.size)
  rw [HP.out, beq_self_eq_true]
  go_wp2
  go_ret
  exact ⟨rfl, hb02.trans (hb24.mono hb02.size)⟩
set_option maxRecDepth 100000 in
set_option maxHeartbeats 1600000 in
theorem lenGa (m n i k : Int) (La Lb : Nat) (w : World) (m1 : -9223372036854775808 ≤ m) (m2 : m ≤ 9223372036854775807) (n1 : -9223372036854775808 ≤ n) (n2 : n ≤ 9223372036854775807)
    (f4 : 1 ≤ La ∧ La ≤ 10) (f5 : 1 ≤ Lb ∧ Lb ≤ 10) (HE : Hid ((encI (-1 - m)).length = La)) (HP : Hid (((encI m).take Lb == (encI n).take Lb) = (m == n)))
    (HQ : Hid ((if m < -1 - m then -1 - m else m) = i)) (HK : Hid ((if n < -1 - n then -1 - n else n) = k)) (HA : Hid (La = (encI m).length)) (HB : Hid (Lb = (encI n).length))
    (h64 : i < 64) (hik : k < i) (a1 : ((La : Int) == 1) = true) (g1 : Lb < La) :
    Calls Try.prog 5 #[.int .i64 m, .int .i64 n] w fun e w' => e = .returned (.bool true) ∧ Below w.heap.size w w' := by
  have hz1 : ((La : Int) == 0) = false := by simp; omega
  have hz2 : ((Lb : Int) == 0) = false := by simp; omega
  go_enter Try.func5, Try.ntmps5
  go_wp2_with fail
  refine (wInt _ _ m1 m2).mono ?_
  rw [← HA.out]
  rintro e w1 ⟨v1, rfl, hown1, hb1⟩
  go_wp2_with fail
  refine (wInt _ _ n1 n2).mono ?_
  rw [← HB.out]
  rintro e w2 ⟨v2, rfl, hown2, hb2⟩
  have R1 := (Rd.of_own hown1).below hb2
  have R2 := Rd.of_own hown2
  obtain ⟨A1, c1, rfl, hc1, hc1'⟩ := R1.form
  obtain ⟨A2, c2, rfl, hc2, hc2'⟩ := R2.form
  have hb02 := hb1.trans (hb2.mono hb1.size)
  clear hown1 hown2 hb1 hb2
  have qi := HQ.out
  have qk := HK.out
  go_wp2_with fail
  have R1p := R1.pre (k := Lb) (by omega)
  have R2p := R2.pre (k := Lb) (by omega)
  rw [← List.map_take] at R1p R2p
  have hr1 : -9223372036854775808 ≤ -1 - m := by omega
  have hr2 : -1 - m ≤ 9223372036854775807 := by omega
  have hw1 : IntKind.i64.wrap (-1 - m) = -1 - m := IntWalk.i64_in _ (by omega)
  have hs1 : ∀ wz, Below w2.heap.size w2 wz → (convert 28 9 (.slice A1 Lb c1)).run Try.prog wz = .ok (.string ⟨((encI m).take Lb).toArray⟩) wz := fun wz hb => run_str 28 9 5 Try.underlying28 Try.underlying5 Try.underlying9 (R1p.below hb)
  have hs2 : ∀ wz, Below w2.heap.size w2 wz → (convert 28 9 (.slice A2 Lb c2)).run Try.prog wz = .ok (.string ⟨((encI n).take Lb).toArray⟩) wz := fun wz hb => run_str 28 9 5 Try.underlying28 Try.underlying5 Try.underlying9 (R2p.below hb)
  have hc3 : Lb ≤ c1 := by omega
  have hc4 : Lb ≤ c2 := by omega
  have HS : Hid (∀ wz, Below w2.heap.size w2 wz → Below w2.heap.size w2 wz ∧ (convert 28 9 (.slice A1 Lb c1)).run Try.prog wz = .ok (.string ⟨((encI m).take Lb).toArray⟩) wz ∧ (convert 28 9 (.slice A2 Lb c2)).run Try.prog wz = .ok (.string ⟨((encI n).take Lb).toArray⟩) wz) := Lib.hid (fun wz hb => ⟨hb, hs1 wz hb, hs2 wz hb⟩)
  clear hs1 hs2
  go_region_held3 (fun wz => Below w2.heap.size w2 wz ∧ (convert 28 9 (.slice A1 Lb c1)).run Try.prog wz = .ok (.string ⟨((encI m).take Lb).toArray⟩) wz ∧ (convert 28 9 (.slice A2 Lb c2)).run Try.prog wz = .ok (.string ⟨((encI n).take Lb).toArray⟩) wz)
    (first
      | (go_split_ands; exact HS.out _ ((by assumption : Below w2.heap.size w2 _).trans (hb5'.mono (by assumption : Below w2.heap.size w2 _).size)))
      | (go_split_ands; exact HS.out _ ((by assumption : Below w2.heap.size w2 _).trans (hb4.mono (by assumption : Below w2.heap.size w2 _).size)))
      | exact HS.out _ (Below.refl _ w2).drew
      | exact HS.out _ (Below.refl _ w2)
      | fail "keep")
    (first
      | (go_at_call 12; refine (sanityC _).mono ?_; rintro e w4 ⟨rfl, hb4⟩)
      | (go_at_call 14; refine (wIntN _ _ hr1 hr2 HE.out).mono ?_; rintro e w5 ⟨v5, rfl, hown5, hb5'⟩; have R5 := Rd.of_own hown5; obtain ⟨A5, c5, rfl, _, _⟩ := R5.form))
  have hb24 : Below w2.heap.size w2 w5 := (Below.trans (Below.drew (Below.refl _ w2)) hb4).trans (hb5'.mono hb4.size)
  rw [HP.out, beq_self_eq_true]
  go_wp2
  go_ret
  exact ⟨rfl, hb02.trans (hb24.mono hb02.size)⟩
set_option maxRecDepth 100000 in
set_option maxHeartbeats 1600000 in
theorem lenLb (m n i k : Int) (La Lb : Nat) (w : World) (m1 : -9223372036854775808 ≤ m) (m2 : m ≤ 9223372036854775807) (n1 : -9223372036854775808 ≤ n) (n2 : n ≤ 9223372036854775807)
    (f4 : 1 ≤ La ∧ La ≤ 10) (f5 : 1 ≤ Lb ∧ Lb ≤ 10) (HE : Hid ((encI (-1 - m)).length = La)) (HP : Hid (((encI m).take La == (encI n).take La) = (m == n)))
    (HQ : Hid ((if m < -1 - m then -1 - m else m) = i)) (HK : Hid ((if n < -1 - n then -1 - n else n) = k)) (HA : Hid (La = (encI m).length)) (HB : Hid (Lb = (encI n).length))
    (h64 : 64 ≤ i) (hik : i < k) (a1 : ((La : Int) == 1) = false) (g1 : La ≤ Lb) :
    Calls Try.prog 5 #[.int .i64 m, .int .i64 n] w fun e w' => e = .returned (.bool true) ∧ Below w.heap.size w w' := by
  have hz1 : ((La : Int) == 0) = false := by simp; omega
  have hz2 : ((Lb : Int) == 0) = false := by simp; omega
  go_enter Try.func5, Try.ntmps5
  go_wp2_with fail
  refine (wInt _ _ m1 m2).mono ?_
  rw [← HA.out]
  rintro e w1 ⟨v1, rfl, hown1, hb1⟩
  go_wp2_with fail
  refine (wInt _ _ n1 n2).mono ?_
  rw [← HB.out]
  rintro e w2 ⟨v2, rfl, hown2, hb2⟩
  have R1 := (Rd.of_own hown1).below hb2
  have R2 := Rd.of_own hown2
  obtain ⟨A1, c1, rfl, hc1, hc1'⟩ := R1.form
  obtain ⟨A2, c2, rfl, hc2, hc2'⟩ := R2.form
  have hb02 := hb1.trans (hb2.mono hb1.size)
  clear hown1 hown2 hb1 hb2
  have qi := HQ.out
  have qk := HK.out
  go_wp2_with fail
  have R1p := R1.pre (k := La) (by omega)
  have R2p := R2.pre (k := La) (by omega)
  rw [← List.map_take] at R1p R2p
  have hr1 : -9223372036854775808 ≤ -1 - m := by omega
  have hr2 : -1 - m ≤ 9223372036854775807 := by omega
  have hw1 : IntKind.i64.wrap (-1 - m) = -1 - m := IntWalk.i64_in _ (by omega)
  have hs1 : ∀ wz, Below w2.heap.size w2 wz → (convert 28 9 (.slice A1 La c1)).run Try.prog wz = .ok (.string ⟨((encI m).take La).toArray⟩) wz := fun wz hb => run_str 28 9 5 Try.underlying28 Try.underlying5 Try.underlying9 (R1p.below hb)
  have hs2 : ∀ wz, Below w2.heap.size w2 wz → (convert 28 9 (.slice A2 La c2)).run Try.prog wz = .ok (.string ⟨((encI n).take La).toArray⟩) wz := fun wz hb => run_str 28 9 5 Try.underlying28 Try.underlying5 Try.underlying9 (R2p.below hb)
  have hc3 : La ≤ c1 := by omega
  have hc4 : La ≤ c2 := by omega
  have HS : Hid (∀ wz, Below w2.heap.size w2 wz → Below w2.heap.size w2 wz ∧ (convert 28 9 (.slice A1 La c1)).run Try.prog wz = .ok (.string ⟨((encI m).take La).toArray⟩) wz ∧ (convert 28 9 (.slice A2 La c2)).run Try.prog wz = .ok (.string ⟨((encI n).take La).toArray⟩) wz) := Lib.hid (fun wz hb => ⟨hb, hs1 wz hb, hs2 wz hb⟩)
  clear hs1 hs2
  go_region_held3 (fun wz => Below w2.heap.size w2 wz ∧ (convert 28 9 (.slice A1 La c1)).run Try.prog wz = .ok (.string ⟨((encI m).take La).toArray⟩) wz ∧ (convert 28 9 (.slice A2 La c2)).run Try.prog wz = .ok (.string ⟨((encI n).take La).toArray⟩) wz)
    (first
      | (go_split_ands; exact HS.out _ ((by assumption : Below w2.heap.size w2 _).trans (hb5'.mono (by assumption : Below w2.heap.size w2 _).size)))
      | (go_split_ands; exact HS.out _ ((by assumption : Below w2.heap.size w2 _).trans (hb4.mono (by assumption : Below w2.heap.size w2 _).size)))
      | exact HS.out _ (Below.refl _ w2).drew
      | exact HS.out _ (Below.refl _ w2)
      | fail "keep")
    (first
      | (go_at_call 12; refine (sanityC _).mono ?_; rintro e w4 ⟨rfl, hb4⟩)
      | (go_at_call 14; refine (wIntN _ _ hr1 hr2 HE.out).mono ?_; rintro e w5 ⟨v5, rfl, hown5, hb5'⟩; have R5 := Rd.of_own hown5; obtain ⟨A5, c5, rfl, _, _⟩ := R5.form))
  have hb24 : Below w2.heap.size w2 w5 := (Below.trans (Below.drew (Below.refl _ w2)) hb4).trans (hb5'.mono hb4.size)
  rw [HP.out, beq_self_eq_true]
  go_wp2
  go_ret
  exact ⟨rfl, hb02.trans (hb24.mono hb02.size)⟩
set_option maxRecDepth 100000 in
set_option maxHeartbeats 1600000 in
theorem lenEb (m n i : Int) (La : Nat) (w : World) (m1 : -9223372036854775808 ≤ m) (m2 : m ≤ 9223372036854775807) (n1 : -9223372036854775808 ≤ n) (n2 : n ≤ 9223372036854775807)
    (f4 : 1 ≤ La ∧ La ≤ 10) (f5 : 1 ≤ La ∧ La ≤ 10) (HE : Hid ((encI (-1 - m)).length = La)) (HP : Hid (((encI m).take La == (encI n).take La) = (m == n)))
    (HQ : Hid ((if m < -1 - m then -1 - m else m) = i)) (HK : Hid ((if n < -1 - n then -1 - n else n) = i)) (HA : Hid (La = (encI m).length)) (HB : Hid (La = (encI n).length))
    (h64 : 64 ≤ i)  (a1 : ((La : Int) == 1) = false) :
    Calls Try.prog 5 #[.int .i64 m, .int .i64 n] w fun e w' => e = .returned (.bool true) ∧ Below w.heap.size w w' := by
  have hz1 : ((La : Int) == 0) = false := by simp; omega
  have hz2 : ((La : Int) == 0) = false := by simp; omega
  go_enter Try.func5, Try.ntmps5
  go_wp2_with fail
  refine (wInt _ _ m1 m2).mono ?_
  rw [← HA.out]
  rintro e w1 ⟨v1, rfl, hown1, hb1⟩
  go_wp2_with fail
  refine (wInt _ _ n1 n2).mono ?_
  rw [← HB.out]
  rintro e w2 ⟨v2, rfl, hown2, hb2⟩
  have R1 := (Rd.of_own hown1).below hb2
  have R2 := Rd.of_own hown2
  obtain ⟨A1, c1, rfl, hc1, hc1'⟩ := R1.form
  obtain ⟨A2, c2, rfl, hc2, hc2'⟩ := R2.form
  have hb02 := hb1.trans (hb2.mono hb1.size)
  clear hown1 hown2 hb1 hb2
  have qi := HQ.out
  have qk := HK.out
  go_wp2_with fail
  have R1p := R1.pre (k := La) (by omega)
  have R2p := R2.pre (k := La) (by omega)
  rw [← List.map_take] at R1p R2p
  have hr1 : -9223372036854775808 ≤ -1 - m := by omega
  have hr2 : -1 - m ≤ 9223372036854775807 := by omega
  have hw1 : IntKind.i64.wrap (-1 - m) = -1 - m := IntWalk.i64_in _ (by omega)
  have hs1 : ∀ wz, Below w2.heap.size w2 wz → (convert 28 9 (.slice A1 La c1)).run Try.prog wz = .ok (.string ⟨((encI m).take La).toArray⟩) wz := fun wz hb => run_str 28 9 5 Try.underlying28 Try.underlying5 Try.underlying9 (R1p.below hb)
  have hs2 : ∀ wz, Below w2.heap.size w2 wz → (convert 28 9 (.slice A2 La c2)).run Try.prog wz = .ok (.string ⟨((encI n).take La).toArray⟩) wz := fun wz hb => run_str 28 9 5 Try.underlying28 Try.underlying5 Try.underlying9 (R2p.below hb)
  have hc3 : La ≤ c1 := by omega
  have hc4 : La ≤ c2 := by omega
  have HS : Hid (∀ wz, Below w2.heap.size w2 wz → Below w2.heap.size w2 wz ∧ (convert 28 9 (.slice A1 La c1)).run Try.prog wz = .ok (.string ⟨((encI m).take La).toArray⟩) wz ∧ (convert 28 9 (.slice A2 La c2)).run Try.prog wz = .ok (.string ⟨((encI n).take La).toArray⟩) wz) := Lib.hid (fun wz hb => ⟨hb, hs1 wz hb, hs2 wz hb⟩)
  clear hs1 hs2
  go_region_held3 (fun wz => Below w2.heap.size w2 wz ∧ (convert 28 9 (.slice A1 La c1)).run Try.prog wz = .ok (.string ⟨((encI m).take La).toArray⟩) wz ∧ (convert 28 9 (.slice A2 La c2)).run Try.prog wz = .ok (.string ⟨((encI n).take La).toArray⟩) wz)
    (first
      | (go_split_ands; exact HS.out _ ((by assumption : Below w2.heap.size w2 _).trans (hb5'.mono (by assumption : Below w2.heap.size w2 _).size)))
      | (go_split_ands; exact HS.out _ ((by assumption : Below w2.heap.size w2 _).trans (hb4.mono (by assumption : Below w2.heap.size w2 _).size)))
      | exact HS.out _ (Below.refl _ w2).drew
      | exact HS.out _ (Below.refl _ w2)
      | fail "keep")
    (first
      | (go_at_call 12; refine (sanityC _).mono ?_; rintro e w4 ⟨rfl, hb4⟩)
      | (go_at_call 14; refine (wIntN _ _ hr1 hr2 HE.out).mono ?_; rintro e w5 ⟨v5, rfl, hown5, hb5'⟩; have R5 := Rd.of_own hown5; obtain ⟨A5, c5, rfl, _, _⟩ := R5.form))
  have hb24 : Below w2.heap.size w2 w5 := (Below.trans (Below.drew (Below.refl _ w2)) hb4).trans (hb5'.mono hb4.size)
  rw [HP.out, beq_self_eq_true]
  go_wp2
  go_ret
  exact ⟨rfl, hb02.trans (hb24.mono hb02.size)⟩
set_option maxRecDepth 100000 in
set_option maxHeartbeats 1600000 in
theorem lenSb (m n i k : Int) (La : Nat) (w : World) (m1 : -9223372036854775808 ≤ m) (m2 : m ≤ 9223372036854775807) (n1 : -9223372036854775808 ≤ n) (n2 : n ≤ 9223372036854775807)
    (f4 : 1 ≤ La ∧ La ≤ 10) (f5 : 1 ≤ La ∧ La ≤ 10) (HE : Hid ((encI (-1 - m)).length = La)) (HP : Hid (((encI m).take La == (encI n).take La) = (m == n)))
    (HQ : Hid ((if m < -1 - m then -1 - m else m) = i)) (HK : Hid ((if n < -1 - n then -1 - n else n) = k)) (HA : Hid (La = (encI m).length)) (HB : Hid (La = (encI n).length))
    (h64 : 64 ≤ i) (hik : k < i) (a1 : ((La : Int) == 1) = false) :
    Calls Try.prog 5 #[.int .i64 m, .int .i64 n] w fun e w' => e = .returned (.bool true) ∧ Below w.heap.size w w' := by
  have hz1 : ((La : Int) == 0) = false := by simp; omega
  have hz2 : ((La : Int) == 0) = false := by simp; omega
  go_enter Try.func5, Try.ntmps5
  go_wp2_with fail
  refine (wInt _ _ m1 m2).mono ?_
  rw [← HA.out]
  rintro e w1 ⟨v1, rfl, hown1, hb1⟩
  go_wp2_with fail
  refine (wInt _ _ n1 n2).mono ?_
  rw [← HB.out]
  rintro e w2 ⟨v2, rfl, hown2, hb2⟩
  have R1 := (Rd.of_own hown1).below hb2
  have R2 := Rd.of_own hown2
  obtain ⟨A1, c1, rfl, hc1, hc1'⟩ := R1.form
  obtain ⟨A2, c2, rfl, hc2, hc2'⟩ := R2.form
  have hb02 := hb1.trans (hb2.mono hb1.size)
  clear hown1 hown2 hb1 hb2
  have qi := HQ.out
  have qk := HK.out
  go_wp2_with fail
  have R1p := R1.pre (k := La) (by omega)
  have R2p := R2.pre (k := La) (by omega)
  rw [← List.map_take] at R1p R2p
  have hr1 : -9223372036854775808 ≤ -1 - m := by omega
  have hr2 : -1 - m ≤ 9223372036854775807 := by omega
  have hw1 : IntKind.i64.wrap (-1 - m) = -1 - m := IntWalk.i64_in _ (by omega)
  have hs1 : ∀ wz, Below w2.heap.size w2 wz → (convert 28 9 (.slice A1 La c1)).run Try.prog wz = .ok (.string ⟨((encI m).take La).toArray⟩) wz := fun wz hb => run_str 28 9 5 Try.underlying28 Try.underlying5 Try.underlying9 (R1p.below hb)
  have hs2 : ∀ wz, Below w2.heap.size w2 wz → (convert 28 9 (.slice A2 La c2)).run Try.prog wz = .ok (.string ⟨((encI n).take La).toArray⟩) wz := fun wz hb => run_str 28 9 5 Try.underlying28 Try.underlying5 Try.underlying9 (R2p.below hb)
  have hc3 : La ≤ c1 := by omega
  have hc4 : La ≤ c2 := by omega
  have HS : Hid (∀ wz, Below w2.heap.size w2 wz → Below w2.heap.size w2 wz ∧ (convert 28 9 (.slice A1 La c1)).run Try.prog wz = .ok (.string ⟨((encI m).take La).toArray⟩) wz ∧ (convert 28 9 (.slice A2 La c2)).run Try.prog wz = .ok (.string ⟨((encI n).take La).toArray⟩) wz) := Lib.hid (fun wz hb => ⟨hb, hs1 wz hb, hs2 wz hb⟩)
  clear hs1 hs2
  go_region_held3 (fun wz => Below w2.heap.size w2 wz ∧ (convert 28 9 (.slice A1 La c1)).run Try.prog wz = .ok (.string ⟨((encI m).take La).toArray⟩) wz ∧ (convert 28 9 (.slice A2 La c2)).run Try.prog wz = .ok (.string ⟨((encI n).take La).toArray⟩) wz)
    (first
      | (go_split_ands; exact HS.out _ ((by assumption : Below w2.heap.size w2 _).trans (hb5'.mono (by assumption : Below w2.heap.size w2 _).size)))
      | (go_split_ands; exact HS.out _ ((by assumption : Below w2.heap.size w2 _).trans (hb4.mono (by assumption : Below w2.heap.size w2 _).size)))
      | exact HS.out _ (Below.refl _ w2).drew
      | exact HS.out _ (Below.refl _ w2)
      | fail "keep")
    (first
      | (go_at_call 12; refine (sanityC _).mono ?_; rintro e w4 ⟨rfl, hb4⟩)
      | (go_at_call 14; refine (wIntN _ _ hr1 hr2 HE.out).mono ?_; rintro e w5 ⟨v5, rfl, hown5, hb5'⟩; have R5 := Rd.of_own hown5; obtain ⟨A5, c5, rfl, _, _⟩ := R5.form))
  have hb24 : Below w2.heap.size w2 w5 := (Below.trans (Below.drew (Below.refl _ w2)) hb4).trans (hb5'.mono hb4.size)
  rw [HP.out, beq_self_eq_true]
  go_wp2
  go_ret
  exact ⟨rfl, hb02.trans (hb24.mono hb02.size)⟩
set_option maxRecDepth 100000 in
set_option maxHeartbeats 1600000 in
theorem lenGb (m n i k : Int) (La Lb : Nat) (w : World) (m1 : -9223372036854775808 ≤ m) (m2 : m ≤ 9223372036854775807) (n1 : -9223372036854775808 ≤ n) (n2 : n ≤ 9223372036854775807)
    (f4 : 1 ≤ La ∧ La ≤ 10) (f5 : 1 ≤ Lb ∧ Lb ≤ 10) (HE : Hid ((encI (-1 - m)).length = La)) (HP : Hid (((encI m).take Lb == (encI n).take Lb) = (m == n)))
    (HQ : Hid ((if m < -1 - m then -1 - m else m) = i)) (HK : Hid ((if n < -1 - n then -1 - n else n) = k)) (HA : Hid (La = (encI m).length)) (HB : Hid (Lb = (encI n).length))
    (h64 : 64 ≤ i) (hik : k < i) (a1 : ((La : Int) == 1) = false) (g1 : Lb < La) :
    Calls Try.prog 5 #[.int .i64 m, .int .i64 n] w fun e w' => e = .returned (.bool true) ∧ Below w.heap.size w w' := by
  have hz1 : ((La : Int) == 0) = false := by simp; omega
  have hz2 : ((Lb : Int) == 0) = false := by simp; omega
  go_enter Try.func5, Try.ntmps5
  go_wp2_with fail
  refine (wInt _ _ m1 m2).mono ?_
  rw [← HA.out]
  rintro e w1 ⟨v1, rfl, hown1, hb1⟩
  go_wp2_with fail
  refine (wInt _ _ n1 n2).mono ?_
  rw [← HB.out]
  rintro e w2 ⟨v2, rfl, hown2, hb2⟩
  have R1 := (Rd.of_own hown1).below hb2
  have R2 := Rd.of_own hown2
  obtain ⟨A1, c1, rfl, hc1, hc1'⟩ := R1.form
  obtain ⟨A2, c2, rfl, hc2, hc2'⟩ := R2.form
  have hb02 := hb1.trans (hb2.mono hb1.size)
  clear hown1 hown2 hb1 hb2
  have qi := HQ.out
  have qk := HK.out
  go_wp2_with fail
  have R1p := R1.pre (k := Lb) (by omega)
  have R2p := R2.pre (k := Lb) (by omega)
  rw [← List.map_take] at R1p R2p
  have hr1 : -9223372036854775808 ≤ -1 - m := by omega
  have hr2 : -1 - m ≤ 9223372036854775807 := by omega
  have hw1 : IntKind.i64.wrap (-1 - m) = -1 - m := IntWalk.i64_in _ (by omega)
  have hs1 : ∀ wz, Below w2.heap.size w2 wz → (convert 28 9 (.slice A1 Lb c1)).run Try.prog wz = .ok (.string ⟨((encI m).take Lb).toArray⟩) wz := fun wz hb => run_str 28 9 5 Try.underlying28 Try.underlying5 Try.underlying9 (R1p.below hb)
  have hs2 : ∀ wz, Below w2.heap.size w2 wz → (convert 28 9 (.slice A2 Lb c2)).run Try.prog wz = .ok (.string ⟨((encI n).take Lb).toArray⟩) wz := fun wz hb => run_str 28 9 5 Try.underlying28 Try.underlying5 Try.underlying9 (R2p.below hb)
  have hc3 : Lb ≤ c1 := by omega
  have hc4 : Lb ≤ c2 := by omega
  have HS : Hid (∀ wz, Below w2.heap.size w2 wz → Below w2.heap.size w2 wz ∧ (convert 28 9 (.slice A1 Lb c1)).run Try.prog wz = .ok (.string ⟨((encI m).take Lb).toArray⟩) wz ∧ (convert 28 9 (.slice A2 Lb c2)).run Try.prog wz = .ok (.string ⟨((encI n).take Lb).toArray⟩) wz) := Lib.hid (fun wz hb => ⟨hb, hs1 wz hb, hs2 wz hb⟩)
  clear hs1 hs2
  go_region_held3 (fun wz => Below w2.heap.size w2 wz ∧ (convert 28 9 (.slice A1 Lb c1)).run Try.prog wz = .ok (.string ⟨((encI m).take Lb).toArray⟩) wz ∧ (convert 28 9 (.slice A2 Lb c2)).run Try.prog wz = .ok (.string ⟨((encI n).take Lb).toArray⟩) wz)
    (first
      | (go_split_ands; exact HS.out _ ((by assumption : Below w2.heap.size w2 _).trans (hb5'.mono (by assumption : Below w2.heap.size w2 _).size)))
      | (go_split_ands; exact HS.out _ ((by assumption : Below w2.heap.size w2 _).trans (hb4.mono (by assumption : Below w2.heap.size w2 _).size)))
      | exact HS.out _ (Below.refl _ w2).drew
      | exact HS.out _ (Below.refl _ w2)
      | fail "keep")
    (first
      | (go_at_call 12; refine (sanityC _).mono ?_; rintro e w4 ⟨rfl, hb4⟩)
      | (go_at_call 14; refine (wIntN _ _ hr1 hr2 HE.out).mono ?_; rintro e w5 ⟨v5, rfl, hown5, hb5'⟩; have R5 := Rd.of_own hown5; obtain ⟨A5, c5, rfl, _, _⟩ := R5.form))
  have hb24 : Below w2.heap.size w2 w5 := (Below.trans (Below.drew (Below.refl _ w2)) hb4).trans (hb5'.mono hb4.size)
  rw [HP.out, beq_self_eq_true]
  go_wp2
  go_ret
  exact ⟨rfl, hb02.trans (hb24.mono hb02.size)⟩
theorem walkLen (m n : Int) (w : World) (hm : -9223372036854775808 ≤ m ∧ m ≤ 9223372036854775807) (hn : -9223372036854775808 ≤ n ∧ n ≤ 9223372036854775807) :
    Calls Try.prog 5 #[.int .i64 m, .int .i64 n] w fun e w' => e = .returned (.bool true) ∧ Below w.heap.size w w' := by
  have hE := encI_neg m
  have hP := encI_pre m n hm hn _ rfl
  have f1 := encI_mono (m := m) (n := n)
  have f2 := encI_mono (m := n) (n := m)
  have f3 := encI_one m
  have f4 := encI_length m
  have f5 := encI_length n
  obtain ⟨La, hLa⟩ : ∃ k, k = (encI m).length := ⟨_, rfl⟩
  obtain ⟨Lb, hLb⟩ : ∃ k, k = (encI n).length := ⟨_, rfl⟩
  have qi : (if m < -1 - m then -1 - m else m) = max m (-1 - m) := by split <;> omega
  have qk : (if n < -1 - n then -1 - n else n) = max n (-1 - n) := by split <;> omega
  obtain ⟨i, hi⟩ : ∃ i, i = max m (-1 - m) := ⟨_, rfl⟩
  obtain ⟨k, hk⟩ : ∃ i, i = max n (-1 - n) := ⟨_, rfl⟩
  rw [← hi] at qi f1 f2 f3
  rw [← hk] at qk f1 f2
  rw [← hLa] at f1 f2 f3 f4 hP hE
  rw [← hLb] at f1 f2 f5 hP
  clear hi hk
  by_cases h64 : i < 64
  · have a1 : ((La : Int) == 1) = true := by have := f3.2 h64; simp; omega
    rcases Int.lt_trichotomy i k with hik | hik | hik
    · have g1 := f1 (by omega)
      rw [show min La Lb = La by omega] at hP
      exact lenLa m n i k La Lb w hm.1 hm.2 hn.1 hn.2 f4 f5 (Lib.hid hE) (Lib.hid hP) (Lib.hid qi) (Lib.hid qk) (Lib.hid hLa) (Lib.hid hLb) h64 hik a1 g1
    · subst hik
      have g1 := f1 (by omega)
      have g2 := f2 (by omega)
      obtain rfl : Lb = La := by omega
      rw [Nat.min_self] at hP
      exact lenEa m n i Lb w hm.1 hm.2 hn.1 hn.2 f4 f5 (Lib.hid hE) (Lib.hid hP) (Lib.hid qi) (Lib.hid qk) (Lib.hid hLa) (Lib.hid hLb) h64 a1
    · have g2 := f2 (by omega)
      rcases Nat.lt_or_ge Lb La with hl | hl
      · rw [show min La Lb = Lb by omega] at hP
        exact lenGa m n i k La Lb w hm.1 hm.2 hn.1 hn.2 f4 f5 (Lib.hid hE) (Lib.hid hP) (Lib.hid qi) (Lib.hid qk) (Lib.hid hLa) (Lib.hid hLb) h64 hik a1 hl
      · obtain rfl : Lb = La := by omega
        rw [Nat.min_self] at hP
        exact lenSa m n i k Lb w hm.1 hm.2 hn.1 hn.2 f4 f5 (Lib.hid hE) (Lib.hid hP) (Lib.hid qi) (Lib.hid qk) (Lib.hid hLa) (Lib.hid hLb) h64 hik a1
  · have a1 : ((La : Int) == 1) = false := by
      rw [beq_eq_false_iff_ne]
      intro h
      exact h64 (f3.1 (by omega))
    have h64 : 64 ≤ i := by omega
    rcases Int.lt_trichotomy i k with hik | hik | hik
    · have g1 := f1 (by omega)
      rw [show min La Lb = La by omega] at hP
      exact lenLb m n i k La Lb w hm.1 hm.2 hn.1 hn.2 f4 f5 (Lib.hid hE) (Lib.hid hP) (Lib.hid qi) (Lib.hid qk) (Lib.hid hLa) (Lib.hid hLb) h64 hik a1 g1
    · subst hik
      have g1 := f1 (by omega)
      have g2 := f2 (by omega)
      obtain rfl : Lb = La := by omega
      rw [Nat.min_self] at hP
      exact lenEb m n i Lb w hm.1 hm.2 hn.1 hn.2 f4 f5 (Lib.hid hE) (Lib.hid hP) (Lib.hid qi) (Lib.hid qk) (Lib.hid hLa) (Lib.hid hLb) h64 a1
    · have g2 := f2 (by omega)
      rcases Nat.lt_or_ge Lb La with hl | hl
      · rw [show min La Lb = Lb by omega] at hP
        exact lenGb m n i k La Lb w hm.1 hm.2 hn.1 hn.2 f4 f5 (Lib.hid hE) (Lib.hid hP) (Lib.hid qi) (Lib.hid qk) (Lib.hid hLa) (Lib.hid hLb) h64 hik a1 hl
      · obtain rfl : Lb = La := by omega
        rw [Nat.min_self] at hP
        exact lenSb m n i k Lb w hm.1 hm.2 hn.1 hn.2 f4 f5 (Lib.hid hE) (Lib.hid hP) (Lib.hid qi) (Lib.hid qk) (Lib.hid hLa) (Lib.hid hLb) h64 hik a1
end Go.Proofs.Ytbjddcjochealaa
