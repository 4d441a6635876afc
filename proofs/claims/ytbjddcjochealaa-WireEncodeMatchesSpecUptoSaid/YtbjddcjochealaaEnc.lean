/-
  'rivermarklaw01.WireEncodeMatchesSpec' returns true for every integer, string, and list of integers, strings (whose lengths' sum does not pass 2^62) and digests.
-/
import Derived.Test.YtbjddcjochealaaTrunc
namespace Go.Proofs.Ytbjddcjochealaa
open Go.RowKit

set_option maxRecDepth 100000 in
set_option maxHeartbeats 1600000 in
theorem walkEnc (n : Int) (s : List UInt8) (A2 A3 A4 : Option Addr) (n2 n3 n4 c2 c3 c4 : Nat) (l : List Int) (x d : List (List UInt8)) (w : World) (i1 : -9223372036854775808 ≤ n) (i2 : n ≤ 9223372036854775807)
    (hs : s.length ≤ 140737488351232) (z2 : n2 * 8 ≤ 140737488351232) (z3 : n3 * 16 ≤ 140737488351232) (z4 : n4 * 16 ≤ 140737488351232) (hr2 : Rd w 1 (.slice A2 n2 c2) n2 (l.map (Value.int .i64))) (hr3 : Rd w 1 (.slice A3 n3 c3) n3 (x.map tx)) (hr4 : Rd w 16 (.slice A4 n4 c4) n4 (fl cd d))
    (hl : ∀ y ∈ l, -9223372036854775808 ≤ y ∧ y ≤ 9223372036854775807) (ht : tot x ≤ 1048576) (hd : ∀ y ∈ d, y.length = 16) (e4 : d.length = n4) :
    Calls Try.prog 3 #[.int .i64 n, .string ⟨s.toArray⟩, .slice A2 n2 c2, .slice A3 n3 c3, .slice A4 n4 c4] w fun e w' => e = .returned (.bool true) ∧ Below w.heap.size w w' := by
  have e2 := hr2.n_eq
  have e3 := hr3.n_eq
  by_cases ha : s.length + n2 + n4 ≤ 2000
  · by_cases hf : n3 + tot x ≤ 2000
    · have f1 := encI_length n
      have f2 : (encS s).length ≤ 2020 := by have := encI_length s.length; unfold encS; rw [List.length_append]; omega
      have f3 : (encL encI l).length ≤ 20020 := by have := encL_sz (l := l); omega
      have f4 : (encL encS x).length ≤ 22020 := by have := encL_szS (l := x); omega
      have f5 : (encL id d).length ≤ 32020 := by have := encL_szD hd; omega
      have hx1 : ∀ y ∈ x, y.length ≤ 4294967296 := fun y hy => by have := tot_mem hy; omega
      subst e2 e3 e4
      have HX := Lib.hid hx1
      have HL := Lib.hid hl
      have HD := Lib.hid hd
      clear hx1 hl hd
      go_enter Try.func3, Try.ntmps3
      go_wp2_with fail
      refine (fewYes _ _ _ _ x hr3 hf).mono ?_
      rintro e w0 ⟨rfl, rfl⟩
      go_wp2_with fail
      refine (sanityC _).mono ?_
      rintro e w1 ⟨rfl, b1⟩
      go_wp2_with fail
      refine (wInt _ _ i1 i2).mono ?_
      rintro e w2 ⟨v2, rfl, hown2, hb2⟩
      have R2 := Rd.of_own hown2
      obtain ⟨A2', c2', rfl, _, _⟩ := R2.form
      have b2 := b1.trans (hb2.mono b1.size)
      go_wp2_with fail
      refine (rInt _ _ i1 i2).mono ?_
      rintro e w3 ⟨v3, rfl, hown3, hb3⟩
      have R3 := Rd.of_own hown3
      obtain ⟨A3', c3', rfl, _, _⟩ := R3.form
      have b3 := b2.trans (hb3.mono b2.size)
      go_wp2_with fail
      refine (sameB _ _ _ _ _ _ _ (encI n) (encI n) (R2.below hb3) R3).mono ?_
      rw [show (encI n == encI n) = true by simp]
      rintro e w0 ⟨rfl, rfl⟩
      clear R2 R3 hown2 hown3 hb2 hb3 b1 b2
      go_wp2_with fail
      refine (wBytes _ _ (by omega)).mono ?_
      rintro e w2 ⟨v2, rfl, hown2, hb2⟩
      have R2 := Rd.of_own hown2
      obtain ⟨A4', c4', rfl, _, _⟩ := R2.form
      have b2 := b3.trans (hb2.mono b3.size)
      go_wp2_with fail
      refine (rBytes _ _ (by omega)).mono ?_
      rintro e w5 ⟨v3, rfl, hown3, hb3⟩
      have R3 := Rd.of_own hown3
      obtain ⟨A5', c5', rfl, _, _⟩ := R3.form
      have b5 := b2.trans (hb3.mono b2.size)
      go_wp2_with fail
      refine (sameB _ _ _ _ _ _ _ (encS s) (encS s) (R2.below hb3) R3).mono ?_
      rw [show (encS s == encS s) = true by simp]
      rintro e w0 ⟨rfl, rfl⟩
      clear R2 R3 hown2 hown3 hb2 hb3 b2 b3
      go_wp2_with fail
      refine (wInts _ _ _ l (hr2.below b5) (by omega) HL.out (by omega)).mono ?_
      rintro e w2 ⟨v2, rfl, hown2, hb2⟩
      have R2 := Rd.of_own hown2
      obtain ⟨A6', c6', rfl, _, _⟩ := R2.form
      have b2 := b5.trans (hb2.mono b5.size)
      go_wp2_with fail
      refine (rInts _ _ _ l (hr2.below b2) (by omega) HL.out (by omega)).mono ?_
      rintro e w7 ⟨v3, rfl, hown3, hb3⟩
      have R3 := Rd.of_own hown3
      obtain ⟨A7', c7', rfl, _, _⟩ := R3.form
      have b7 := b2.trans (hb3.mono b2.size)
      go_wp2_with fail
      refine (sameB _ _ _ _ _ _ _ (encL encI l) (encL encI l) (R2.below hb3) R3).mono ?_
      rw [show (encL encI l == encL encI l) = true by simp]
      rintro e w0 ⟨rfl, rfl⟩
      clear R2 R3 hown2 hown3 hb2 hb3 b2 b5
      go_wp2_with fail
      refine (wStrings _ _ _ x (hr3.below b7) (by omega) HX.out (by omega)).mono ?_
      rintro e w2 ⟨v2, rfl, hown2, hb2⟩
      have R2 := Rd.of_own hown2
      obtain ⟨A8', c8', rfl, _, _⟩ := R2.form
      have b2 := b7.trans (hb2.mono b7.size)
      go_wp2_with fail
      refine (rStrings _ _ _ x (hr3.below b2) (by omega) HX.out (by omega)).mono ?_
      rintro e w9 ⟨v3, rfl, hown3, hb3⟩
      have R3 := Rd.of_own hown3
      obtain ⟨A9', c9', rfl, _, _⟩ := R3.form
      have b9 := b2.trans (hb3.mono b2.size)
      go_wp2_with fail
      refine (sameB _ _ _ _ _ _ _ (encL encS x) (encL encS x) (R2.below hb3) R3).mono ?_
      rw [show (encL encS x == encL encS x) = true by simp]
      rintro e w0 ⟨rfl, rfl⟩
      clear R2 R3 hown2 hown3 hb2 hb3 b2 b7
      go_wp2_with fail
      refine (wDigests _ _ _ d (hr4.below b9) (by omega) HD.out (by omega)).mono ?_
      rintro e w2 ⟨v2, rfl, hown2, hb2⟩
      have R2 := Rd.of_own hown2
      obtain ⟨A10, c10, rfl, _, _⟩ := R2.form
      have b2 := b9.trans (hb2.mono b9.size)
      go_wp2_with fail
      refine (rDigests _ _ _ d (hr4.below b2) (by omega) HD.out (by omega)).mono ?_
      rintro e w11 ⟨v3, rfl, hown3, hb3⟩
      have R3 := Rd.of_own hown3
      obtain ⟨A11, c11, rfl, _, _⟩ := R3.form
      have b11 := b2.trans (hb3.mono b2.size)
      go_wp2_with fail
      refine (sameB _ _ _ _ _ _ _ (encL id d) (encL id d) (R2.below hb3) R3).mono ?_
      rw [show (encL id d == encL id d) = true by simp]
      rintro e w0 ⟨rfl, rfl⟩
      go_wp2
      go_ret
      exact ⟨rfl, b11⟩
    · go_enter Try.func3, Try.ntmps3
      go_wp2_with fail
      refine (fewNo _ _ _ _ x hr3 (by omega) (by omega)).mono ?_
      rintro e w0 ⟨rfl, rfl⟩
      go_wp2_with fail
      refine (sanityC _).mono ?_
      rintro e w6 ⟨rfl, hb6⟩
      go_wp2
      go_ret
      exact ⟨rfl, hb6⟩
  · go_enter Try.func3, Try.ntmps3
    go_wp2_with fail
    refine (sanityC _).mono ?_
    rintro e w6 ⟨rfl, hb6⟩
    go_wp2
    go_ret
    exact ⟨rfl, hb6⟩
end Go.Proofs.Ytbjddcjochealaa
