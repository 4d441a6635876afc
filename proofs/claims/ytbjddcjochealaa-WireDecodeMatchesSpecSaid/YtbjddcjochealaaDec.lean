/-
  'rivermarklaw01.WireDecodeMatchesSpec' returns true: for every byte sequence (of at most 2000 bytes), decoding an integer, a string, and a list of integers, strings and digests at its beginning returns the results and the errors of the reference. No condition.
-/
import Derived.Test.YtbjddcjochealaaCanon
namespace Go.Proofs.Ytbjddcjochealaa
open Go.RowKit

set_option maxRecDepth 100000 in
set_option maxHeartbeats 800000 in
theorem walkDec (A : Option Addr) (n c : Nat) (bs : List UInt8) (w : World) (hn : n ≤ 140737488351232) (hr : Rd w 1 (.slice A n c) n (bs.map B8)) :
    Calls Try.prog 4 #[.slice A n c] w fun e w' => e = .returned (.bool true) ∧ Below w.heap.size w w' := by
  have hlen := hr.n_eq
  by_cases hlt : n ≤ 2000
  · obtain ⟨p1, p2, p3⟩ := getL_size codecI (fun b e h => by have := decI_err h; omega) (bs := bs) (by omega) (ok_I bs)
    obtain ⟨q1, q2, q3⟩ := getL_size codecS (fun b e h => by have := getS_err h; omega) (bs := bs) (by omega) (fun x hx => by have := ok_S bs x hx; omega)
    obtain ⟨r1, r2, r3⟩ := getL_size codecD oneD_err (bs := bs) (by omega) (ok_D bs)
    have e1 : (rv [] (getL decI 1 bs) == rv [] (getL decI 1 bs)) = true := by simp
    have e2 : (rv [] (getL getS 1 bs) == rv [] (getL getS 1 bs)) = true := by simp
    have e3 : (rv [] (getL oneD 16 bs) == rv [] (getL oneD 16 bs)) = true := by simp
    have HL := Lib.hid hlen
    have hlen1 : bs.length ≤ n := by omega
    clear hlen
    go_enter Try.func4, Try.ntmps4
    go_wp2_with fail
    refine (uInt _ _ _ _ bs hr (by omega)).mono ?_
    rintro e w0 ⟨rfl, rfl⟩
    go_wp2_with fail
    refine (uIntR _ _ _ _ bs hr (by omega)).mono ?_
    rintro e w0 ⟨rfl, rfl⟩
    go_wp2_with fail
    refine (uStr _ _ _ _ bs hr (by omega)).mono ?_
    rintro e w0 ⟨rfl, rfl⟩
    go_wp2_with fail
    refine (uStrR _ _ _ _ bs hr (by omega)).mono ?_
    rintro e w0 ⟨rfl, rfl⟩
    go_wp2_with fail
    refine (uInts _ _ _ _ bs hr (by omega)).mono ?_
    rintro e w1 ⟨A1, c1, rfl, R1, hb1⟩
    go_wp2_with fail
    refine (uIntsR _ _ _ _ bs (hr.below hb1) (by omega)).mono ?_
    rintro e w2 ⟨A2, c2, rfl, R2, hb2⟩
    have hb02 := hb1.trans (hb2.mono hb1.size)
    go_wp2_with fail
    refine (sameInts _ _ _ _ _ _ _ _ _ (R1.below hb2) R2 (by omega)).mono ?_
    rw [e1]
    rintro e w3 ⟨rfl, hb3⟩
    have hb03 := hb02.trans (hb3.mono hb02.size)
    clear R1 R2 hb1 hb2 hb3 hb02 e1
    go_wp2_with fail
    refine (uStrs _ _ _ _ bs (hr.below hb03) (by omega)).mono ?_
    rintro e w4 ⟨A4, c4, rfl, R4, hb4⟩
    have hb04 := hb03.trans (hb4.mono hb03.size)
    go_wp2_with fail
    refine (uStrsR _ _ _ _ bs (hr.below hb04) (by omega)).mono ?_
    rintro e w5 ⟨A5, c5, rfl, R5, hb5⟩
    have hb05 := hb04.trans (hb5.mono hb04.size)
    go_wp2_with fail
    refine (sameTexts _ _ _ _ _ _ _ _ _ (R4.below hb5) R5 (by omega)).mono ?_
    rw [e2]
    rintro e w6 ⟨rfl, hb6⟩
    have hb06 := hb05.trans (hb6.mono hb05.size)
    clear R4 R5 hb4 hb5 hb6 hb03 hb04 hb05 e2
    go_wp2_with fail
    refine (uDgs _ _ _ _ bs (hr.below hb06) (by omega)).mono ?_
    rintro e w7 ⟨A7, c7, rfl, R7, hb7⟩
    have hb07 := hb06.trans (hb7.mono hb06.size)
    go_wp2_with fail
    refine (uDgsR _ _ _ _ bs (hr.below hb07) (by omega)).mono ?_
    rintro e w8 ⟨A8, c8, rfl, R8, hb8⟩
    have hb08 := hb07.trans (hb8.mono hb07.size)
    go_wp2_with fail
    refine (sanityC _).mono ?_
    rintro e w9 ⟨rfl, hb9⟩
    have hb09 := hb08.trans (hb9.mono hb08.size)
    have R7b := R7.below hb8
    go_wp2_with fail
    refine (sameDigests _ _ _ _ _ _ _ _ _ (R7b.below hb9) (R8.below hb9) (ok_D bs) (ok_D bs) (by omega)).mono ?_
    rw [e3]
    rintro e w10 ⟨rfl, hb10⟩
    go_wp2
    go_ret
    exact ⟨by simp, hb09.trans (hb10.mono hb09.size)⟩
  · go_enter Try.func4, Try.ntmps4
    go_wp2_with (go_at_call 12; refine (sanityC _).mono ?_; rintro e w1 ⟨rfl, hb1⟩)
    go_ret
    exact ⟨rfl, hb1⟩
end Go.Proofs.Ytbjddcjochealaa
