/-
  'rivermarklaw01.WireListRoundTrip' returns true for every string, list of integers, of strings (whose lengths' sum does not pass 2^62) and of digests, whatever bytes follow.
-/
import Derived.Test.YtbjddcjochealaaTrunc
namespace Go.Proofs.Ytbjddcjochealaa
open Go.RowKit

set_option maxRecDepth 100000 in
set_option maxHeartbeats 1600000 in
theorem walkLrt (s : List UInt8) (A2 A3 A4 A5 : Option Addr) (n2 n3 n4 n5 c2 c3 c4 c5 : Nat) (l : List Int) (x d : List (List UInt8)) (tl : List UInt8) (w : World)
    (hs : s.length ≤ 140737488351232) (z2 : n2 * 8 ≤ 140737488351232) (z3 : n3 * 16 ≤ 140737488351232) (z4 : n4 * 16 ≤ 140737488351232) (z5 : n5 * 1 ≤ 140737488351232)
    (hr2 : Rd w 1 (.slice A2 n2 c2) n2 (l.map (Value.int .i64))) (hr3 : Rd w 1 (.slice A3 n3 c3) n3 (x.map tx)) (hr4 : Rd w 16 (.slice A4 n4 c4) n4 (fl cd d)) (hr5 : Rd w 1 (.slice A5 n5 c5) n5 (tl.map B8))
    (hl : ∀ y ∈ l, -9223372036854775808 ≤ y ∧ y ≤ 9223372036854775807) (ht : tot x ≤ 1048576) (hd : ∀ y ∈ d, y.length = 16) (e4 : d.length = n4) :
    Calls Try.prog 8 #[.string ⟨s.toArray⟩, .slice A2 n2 c2, .slice A3 n3 c3, .slice A4 n4 c4, .slice A5 n5 c5] w fun e w' => e = .returned (.bool true) ∧ Below w.heap.size w w' := by
  have e2 := hr2.n_eq
  have e3 := hr3.n_eq
  have e5 := hr5.n_eq
  by_cases ha : s.length + n2 + n4 + n5 ≤ 2000
  · by_cases hf : n3 + tot x ≤ 2000
    · have f2 : (encS s).length ≤ 2020 := by have := encI_length s.length; unfold encS; rw [List.length_append]; omega
      have f3 : (encL encI l).length ≤ 20020 := by have := encL_sz (l := l); omega
      have f4 : (encL encS x).length ≤ 22020 := by have := encL_szS (l := x); omega
      have f5 : (encL id d).length ≤ 32020 := by have := encL_szD hd; omega
      have p2 : 0 < (encS s).length := by have := encI_length s.length; unfold encS; rw [List.length_append]; omega
      have p3 : 0 < (encL encI l).length := by have := encI_length l.length; unfold encL; rw [List.length_append]; omega
      have p4 : 0 < (encL encS x).length := by have := encI_length x.length; unfold encL; rw [List.length_append]; omega
      have p5 : 0 < (encL id d).length := by have := encI_length d.length; unfold encL; rw [List.length_append]; omega
      have hx1 : ∀ y ∈ x, y.length ≤ 4294967296 := fun y hy => by have := tot_mem hy; omega
      have GS : Hid (getS (encS s ++ tl) = .ok (s, (encS s).length)) := getS_enc s tl (by omega)
      have GI : Hid (getL decI 1 (encL encI l ++ tl) = .ok (l, (encL encI l).length)) := getL_enc codecI (by omega) l tl hl (by omega)
      have GX : Hid (getL getS 1 (encL encS x ++ tl) = .ok (x, (encL encS x).length)) := getL_enc codecS (by omega) x tl (fun y hy => by have := hx1 y hy; omega) (by omega)
      have GD : Hid (getL oneD 16 (encL id d ++ tl) = .ok (d, (encL id d).length)) := getL_enc codecD (by omega) d tl hd (by omega)
      have T5 : tl.length ≤ 2000 := by omega
      have HT := Lib.hid e5
      subst e2 e3 e4
      clear e5
      have HX := Lib.hid hx1
      have HL := Lib.hid hl
      have HD := Lib.hid hd
      clear hx1 hl hd
      go_enter Try.func8, Try.ntmps8
      go_wp2_with fail
      refine (fewYes _ _ _ _ x hr3 hf).mono ?_
      rintro e w0 ⟨rfl, rfl⟩
      go_wp2_with fail
      refine (wBytes _ _ (by omega)).mono ?_
      rintro e w1 ⟨v1, rfl, hown1, hb1⟩
      have R1 := Rd.of_own hown1
      obtain ⟨B1, k1, rfl, _, _⟩ := R1.form
      have b1 := hb1
      go_wp2_with fail
      refine (wInts _ _ _ l (hr2.below b1) (by omega) HL.out (by omega)).mono ?_
      rintro e w2 ⟨v2, rfl, hown2, hb2⟩
      have R2 := Rd.of_own hown2
      obtain ⟨B2, k2, rfl, _, _⟩ := R2.form
      have b2 := b1.trans (hb2.mono b1.size)
      go_wp2_with fail
      refine (wDigests _ _ _ d (hr4.below b2) (by omega) HD.out (by omega)).mono ?_
      rintro e w3 ⟨v3, rfl, hown3, hb3⟩
      have R3 := Rd.of_own hown3
      obtain ⟨B3, k3, rfl, _, _⟩ := R3.form
      have b3 := b2.trans (hb3.mono b2.size)
      go_wp2_with fail
      refine (wStrings _ _ _ x (hr3.below b3) (by omega) HX.out (by omega)).mono ?_
      rintro e w4 ⟨v4, rfl, hown4, hb4⟩
      have R4 := Rd.of_own hown4
      obtain ⟨B4, k4, rfl, _, _⟩ := R4.form
      have b4 := b3.trans (hb4.mono b3.size)
      have D1 := ((R1.below hb2).below hb3).below hb4
      have D2 := (R2.below hb3).below hb4
      have D3 := R3.below hb4
      clear R1 R2 R3 hown1 hown2 hown3 hown4 b1 b2 b3 hb1 hb2 hb3 hb4
      go_wp2_with (at_builtin; refine append_cp rfl (.tmp 59) (.tmp 60) 28 rfl 5 _ 1 1 Try.underlying28 info_u8 rfl (by decide) _ _ _ rfl (D1.fit (by omega)) _ n5 _ rfl (hr5.below b4) (B8s_one _) (by omega) (by unfold maxLen; omega) ?_; intro E0 g0 y0 Y0 hy0)
      have b5 := b4.trans (hy0.mono b4.size)
      rw [← List.map_append] at Y0
      refine (uStr _ _ _ _ (encS s ++ tl) Y0 (by omega)).mono ?_
      rw [GS.out]
      simp only [rv, ru, re]
      rintro e w0 ⟨rfl, rfl⟩
      clear Y0
      have D2' := D2.below hy0
      have D3' := D3.below hy0
      have R4' := R4.below hy0
      go_wp2_with (at_builtin; refine append_cp rfl (.tmp 72) (.tmp 73) 28 rfl 5 _ 1 1 Try.underlying28 info_u8 rfl (by decide) _ _ _ rfl (D2'.fit (by omega)) _ n5 _ rfl (hr5.below b5) (B8s_one _) (by omega) (by unfold maxLen; omega) ?_; intro E1 g1 y1 Y1 hy1)
      have b7 := b5.trans (hy1.mono b5.size)
      rw [← List.map_append] at Y1
      refine (uInts _ _ _ _ (encL encI l ++ tl) Y1 (by omega)).mono ?_
      rw [GI.out]
      simp only [rv, ru, re]
      rintro e q1 ⟨J1, j1, rfl, Q1, hq1⟩
      have b8 := b7.trans (hq1.mono b7.size)
      clear Y1
      have D3'' := (D3'.below hy1).below hq1
      have R4'' := (R4'.below hy1).below hq1
      go_wp2_with (at_builtin; refine append_cp rfl (.tmp 85) (.tmp 86) 28 rfl 5 _ 1 1 Try.underlying28 info_u8 rfl (by decide) _ _ _ rfl (D3''.fit (by omega)) _ n5 _ rfl (hr5.below b8) (B8s_one _) (by omega) (by unfold maxLen; omega) ?_; intro E2 g2 y2 Y2 hy2)
      have b9 := b8.trans (hy2.mono b8.size)
      rw [← List.map_append] at Y2
      refine (uDgs _ _ _ _ (encL id d ++ tl) Y2 (by omega)).mono ?_
      rw [GD.out]
      simp only [rv, ru, re]
      rintro e q2 ⟨J2, j2, rfl, Q2, hq2⟩
      have b10 := b9.trans (hq2.mono b9.size)
      clear Y2
      have R4''' := (R4''.below hy2).below hq2
      have Q1' := (Q1.below hy2).below hq2
      go_wp2_with (at_builtin; refine append_cp rfl (.tmp 98) (.tmp 99) 28 rfl 5 _ 1 1 Try.underlying28 info_u8 rfl (by decide) _ _ _ rfl (R4'''.fit (by omega)) _ n5 _ rfl (hr5.below b10) (B8s_one _) (by omega) (by unfold maxLen; omega) ?_; intro E3 g3 y3 Y3 hy3)
      have b11 := b10.trans (hy3.mono b10.size)
      rw [← List.map_append] at Y3
      refine (uStrs _ _ _ _ (encL encS x ++ tl) Y3 (by omega)).mono ?_
      rw [GX.out]
      simp only [rv, ru, re]
      rintro e q3 ⟨J3, j3, rfl, Q3, hq3⟩
      have b12 := b11.trans (hq3.mono b11.size)
      clear Y3
      have Q1'' := (Q1'.below hy3).below hq3
      have Q2' := (Q2.below hy3).below hq3
      go_wp2_with fail
      refine (sanityC _).mono ?_
      rintro e z1 ⟨rfl, hz1⟩
      have u1 := b12.trans (hz1.mono b12.size)
      go_wp2_with fail
      refine (sameTexts _ _ _ _ _ _ _ x x (Q3.below hz1) (hr3.below u1) (by omega)).mono ?_
      rw [show (x == x) = true by simp]
      rintro e z2 ⟨rfl, hz2⟩
      have u2 := u1.trans (hz2.mono u1.size)
      go_wp2_with fail
      refine (sameInts _ _ _ _ _ _ _ l l ((Q1''.below hz1).below hz2) (hr2.below u2) (by omega)).mono ?_
      rw [show (l == l) = true by simp]
      rintro e z3 ⟨rfl, hz3⟩
      have u3 := u2.trans (hz3.mono u2.size)
      go_wp2_with fail
      refine (sameDigests _ _ _ _ _ _ _ d d (((Q2'.below hz1).below hz2).below hz3) (hr4.below u3) HD.out HD.out (by omega)).mono ?_
      rw [show (d == d) = true by simp]
      rintro e z4 ⟨rfl, hz4⟩
      have u4 := u3.trans (hz4.mono u3.size)
      go_wp2
      go_ret
      exact ⟨rfl, u4⟩
    · go_enter Try.func8, Try.ntmps8
      go_wp2_with fail
      refine (fewNo _ _ _ _ x hr3 (by omega) (by omega)).mono ?_
      rintro e w0 ⟨rfl, rfl⟩
      go_wp2_with fail
      refine (sanityC _).mono ?_
      rintro e w6 ⟨rfl, hb6⟩
      go_wp2
      go_ret
      exact ⟨rfl, hb6⟩
  · go_enter Try.func8, Try.ntmps8
    go_wp2_with fail
    refine (sanityC _).mono ?_
    rintro e w6 ⟨rfl, hb6⟩
    go_wp2
    go_ret
    exact ⟨rfl, hb6⟩
end Go.Proofs.Ytbjddcjochealaa
