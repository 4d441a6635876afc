import Derived.Test.YtbjddcjochealaaWk01j
namespace Go.Proofs.Ytbjddcjochealaa
open Go.RowKit

theorem Rd.newAt {w : World} {t : TypeId} {g n : Nat} {cs : Array Value} {xs : List Value} (h : cs = xs.toArray) (hn : xs.length = n) (hm : n ≤ maxLen) (hg : g = w.heap.size) :
    Rd (w.alloc (.cells cs t)) 1 (.slice (some ⟨g, 0, none⟩) n n) n xs := by
  subst hg
  exact Rd.new h hn hm

/-- A guarded load of a whole struct or array, the guard's answer known. -/
theorem op_load_aggG {P : Program} {w : World} {ops : Array Oper} {rest : List Oper} {o : Oper} {a : Act} {Q : Exit → Act → World → Prop} (hw : Region.wanted o (yielded ops a.tmps) = true) (ty : TypeId) (x : Operand) (ho : o.op = .load ty x) (b off : Nat) (hx : a.eval x = .pointer (some ⟨b, off, none⟩)) (d : TypeDesc) (hu : P.underlying ty = some d)
    (hd : (match d with | .struct _ | .array _ _ => true | _ => false) = true) (xs : List Value) (hc : Cl w b off xs) (hi : (P.info? ty).map (·.size) = some xs.length)
    (h : wpList P ops Q rest (a.put o.dst (.agg xs.toArray)) w) : wpList P ops Q (o :: rest) a w := by
  refine wpList_step fun K hK => ?_
  rw [if_pos hw]
  unfold Oper.wp execOp
  simp only [ho, hx, Instr.loadAt, Instr.sureAddr, Sem.run_bind, Sem.run_pure, Result.andThen_ok, run_loadVar_cl ty d b off xs hc hu hd hi]
  exact hK _ _ h

def dd0 : List UInt8 := [1, 2, 0, 0, 0, 0, 0, 0, 0, 0, 0, 0, 0, 0, 0, 0]

set_option maxRecDepth 100000 in
set_option maxHeartbeats 1600000 in
theorem sanityC (w : World) : Calls Try.prog 12 #[] w fun e w' => e = .returned (.bool true) ∧ Below w.heap.size w w' := by
  go_enter Try.func12, Try.ntmps12
  go_wp2_with fail
  refine (wGetInt' _ _ 3 3 [128, 1, 9] (Rd.newAt rfl rfl (by unfold maxLen; omega) (by simp)) (by omega)).mono ?_
  rw [show decI [128, 1, 9] = .ok (64, 2) from rfl]
  rintro e w1 ⟨rfl, rfl⟩
  simp only [outI]
  go_wp2_with fail
  refine (wGetInt' _ _ 1 1 [128] (Rd.newAt rfl rfl (by unfold maxLen; omega) (by simp)) (by omega)).mono ?_
  rw [show decI [128] = .error 10 from rfl]
  rintro e w1 ⟨rfl, rfl⟩
  simp only [outI]
  go_wp2_with fail
  refine (wGetInt' _ _ 2 2 [128, 0] (Rd.newAt rfl rfl (by unfold maxLen; omega) (by simp)) (by omega)).mono ?_
  rw [show decI [128, 0] = .error 11 from rfl]
  rintro e w1 ⟨rfl, rfl⟩
  simp only [outI]
  go_wp2_with fail
  refine (wGetBytes' _ _ 4 4 [4, 97, 98, 7] (Rd.newAt rfl rfl (by unfold maxLen; omega) (by simp)) (by omega)).mono ?_
  rw [show getS [4, 97, 98, 7] = .ok ([97, 98], 3) from rfl]
  rintro e w1 ⟨rfl, rfl⟩
  simp only [outS]
  go_wp2_with fail
  refine (wGetInts _ _ 3 [4, 2, 1] (Rd.newAt rfl rfl (by unfold maxLen; decide) (by simp)) (by decide)).mono ?_
  rw [show getL decI 1 [4, 2, 1] = .ok ([1, -1], 3) from rfl]
  rintro e w1 ⟨v1, rfl, hown, hb⟩
  have Cw1 : Below w.heap.size w w1 := Below.trans (by repeat (first | exact Below.refl _ _ | refine Below.alloc ?_ (by simp; try omega) _)) (hb.mono (by simp; try omega))
  have R1 := Rd.of_own hown
  clear hown hb
  obtain ⟨A1, c1, rfl, _, _⟩ := R1.form
  have Z1 := Cw1.size
  go_wp2_with fail
  refine (wDigests _ _ 1 [dd0] (Rd.newM rfl rfl (by unfold maxLen; decide) (by simp)) (by decide) (by decide) (by decide)).mono ?_
  rintro e w2 ⟨v2, rfl, hown, hb⟩
  have D2 : Cl w2 w1.heap.size 0 (cd dd0) := Cl.below (Cl.alloc (Cl.new rfl) (by simp) _) hb (by simp; try omega)
  have S2 : w1.heap.size < w2.heap.size := by have := hb.size; simp at this; omega
  have Cw2 : Below w1.heap.size w1 w2 := Below.trans (by repeat (first | exact Below.refl _ _ | refine Below.alloc ?_ (by simp; try omega) _)) (hb.mono (by simp; try omega))
  have R2 := Rd.of_own hown
  have R1b := R1.below Cw2
  clear hown hb
  obtain ⟨A2, c2, rfl, _, _⟩ := R2.form
  go_wp2_with fail
  refine (wGetDigests _ _ _ (encL id [dd0]) R2 (by decide)).mono ?_
  rw [show getL oneD 16 (encL id [dd0]) = .ok ([dd0], 17) from rfl]
  rintro e w3 ⟨v3, rfl, hown, hb⟩
  have D3 := D2.below hb S2
  have S3 : w1.heap.size < w3.heap.size := Nat.lt_of_lt_of_le S2 hb.size
  have Cw3 : Below w2.heap.size w2 w3 := Below.trans (by repeat (first | exact Below.refl _ _ | refine Below.alloc ?_ (by simp; try omega) _)) (hb.mono (by simp; try omega))
  have R3 := Rd.of_own hown
  have R1c := R1b.below Cw3
  clear hown hb
  obtain ⟨A3, c3, rfl, _, _⟩ := R3.form
  go_wp2_with fail
  refine (wGetStrings _ _ 5 [4, 0, 2, 97, 5] (Rd.newAt rfl rfl (by unfold maxLen; decide) (by simp)) (by decide)).mono ?_
  rw [show getL getS 1 [4, 0, 2, 97, 5] = .ok ([[], [97]], 4) from rfl]
  rintro e w4 ⟨v4, rfl, hown, hb⟩
  have Cw4 : Below w3.heap.size w3 w4 := Below.trans (by repeat (first | exact Below.refl _ _ | refine Below.alloc ?_ (by simp; try omega) _)) (hb.mono (by simp; try omega))
  have D4 := D3.below Cw4 S3
  have S4 : w1.heap.size < w4.heap.size := Nat.lt_of_lt_of_le S3 Cw4.size
  have R4 := Rd.of_own hown
  have R1d := R1c.below Cw4
  have R3d := R3.below Cw4
  clear hown hb
  obtain ⟨A4, c4, rfl, _, _⟩ := R4.form
  go_wp2_with fail
  refine (sameTexts _ _ _ _ _ _ _ [[], [97]] [[], [97]] (R4.alloc _) (Rd.newAt rfl rfl (by unfold maxLen; decide) (by simp)) (by decide)).mono ?_
  rw [show (([[], [97]] : List (List UInt8)) == [[], [97]]) = true from rfl]
  rintro e w5 ⟨rfl, hb⟩
  have Cw5 : Below w4.heap.size w4 w5 := Below.trans (by repeat (first | exact Below.refl _ _ | refine Below.alloc ?_ (by simp; try omega) _)) (hb.mono (by simp; try omega))
  have D5 := D4.below Cw5 S4
  have S5 : w1.heap.size < w5.heap.size := Nat.lt_of_lt_of_le S4 Cw5.size
  have R1e := R1d.below Cw5
  have R3e := R3d.below Cw5
  clear hb
  go_wp2_with fail
  refine (wStrings _ _ 2 [[], [97]] (Rd.newAt rfl rfl (by unfold maxLen; decide) (by simp)) (by decide) (by decide) (by decide)).mono ?_
  rintro e w6 ⟨v6, rfl, hown, hb⟩
  have Cw6 : Below w5.heap.size w5 w6 := Below.trans (by repeat (first | exact Below.refl _ _ | refine Below.alloc ?_ (by simp; try omega) _)) (hb.mono (by simp; try omega))
  have D6 := D5.below Cw6 S5
  have S6 : w1.heap.size < w6.heap.size := Nat.lt_of_lt_of_le S5 Cw6.size
  have R6 := Rd.of_own hown
  have R1f := R1e.below Cw6
  have R3f := R3e.below Cw6
  clear hown hb
  obtain ⟨A6, c6, rfl, _, _⟩ := R6.form
  go_wp2_with fail
  refine (sameB _ _ _ _ _ _ _ (encL encS [[], [97]]) [4, 0, 2, 97] (R6.alloc _) (Rd.newAt rfl rfl (by unfold maxLen; decide) (by simp))).mono ?_
  rw [show (encL encS [[], [97]] == [4, 0, 2, 97]) = true from rfl]
  rintro e w7 ⟨rfl, rfl⟩
  go_wp2_with fail
  refine (wInt (-65) _ (by decide) (by decide)).mono ?_
  rintro e w8 ⟨v8, rfl, hown, hb⟩
  have Cw8 : Below w6.heap.size w6 w8 := Below.trans (by repeat (first | exact Below.refl _ _ | refine Below.alloc ?_ (by simp; try omega) _)) (hb.mono (by simp; try omega))
  have D8 := D6.below Cw8 S6
  have S8 : w1.heap.size < w8.heap.size := Nat.lt_of_lt_of_le S6 Cw8.size
  have R8 := Rd.of_own hown
  have R1g := R1f.below Cw8
  have R3g := R3f.below Cw8
  clear hown hb
  obtain ⟨A8, c8, rfl, _, _⟩ := R8.form
  go_wp2_with fail
  refine (sameB _ _ _ _ _ _ _ (encI (-65)) [129, 1] (R8.alloc _) (Rd.newAt rfl rfl (by unfold maxLen; decide) (by simp))).mono ?_
  rw [show (encI (-65) == [129, 1]) = true from rfl]
  rintro e w9 ⟨rfl, rfl⟩
  go_wp2_with fail
  refine (sameInts _ _ _ _ _ _ _ [1, -1] [1, -1] ((R1g.alloc _).alloc _) (Rd.newAt rfl rfl (by unfold maxLen; decide) (by simp)) (by decide)).mono ?_
  rw [show (([1, -1] : List Int) == [1, -1]) = true from rfl]
  rintro e w10 ⟨rfl, hb⟩
  have Cw10 : Below w8.heap.size w8 w10 := Below.trans (by repeat (first | exact Below.refl _ _ | refine Below.alloc ?_ (by simp; try omega) _)) (hb.mono (by simp; try omega))
  have D10 := D8.below Cw10 S8
  have S10 : w1.heap.size < w10.heap.size := Nat.lt_of_lt_of_le S8 Cw10.size
  have R3h := R3g.below Cw10
  clear hb
  go_wp2_with fail
  refine (wBytes [97, 98] _ (by decide)).mono ?_
  rintro e w11 ⟨v11, rfl, hown, hb⟩
  have Cw11 : Below w10.heap.size w10 w11 := Below.trans (by repeat (first | exact Below.refl _ _ | refine Below.alloc ?_ (by simp; try omega) _)) (hb.mono (by simp; try omega))
  have D11 := D10.below Cw11 S10
  have S11 : w1.heap.size < w11.heap.size := Nat.lt_of_lt_of_le S10 Cw11.size
  have R11 := Rd.of_own hown
  have R3i := R3h.below Cw11
  clear hown hb
  obtain ⟨A11, c11, rfl, _, _⟩ := R11.form
  go_wp2_with fail
  refine (sameB _ _ _ _ _ _ _ (encS [97, 98]) [4, 97, 98] (R11.alloc _) (Rd.newAt rfl rfl (by unfold maxLen; decide) (by simp))).mono ?_
  rw [show (encS [97, 98] == [4, 97, 98]) = true from rfl]
  rintro e w12 ⟨rfl, rfl⟩
  go_wp2_with fail
  refine (wInts _ _ 2 [1, -1] (Rd.newAt rfl rfl (by unfold maxLen; decide) (by simp)) (by decide) (by decide) (by decide)).mono ?_
  rintro e w13 ⟨v13, rfl, hown, hb⟩
  have Cw13 : Below w11.heap.size w11 w13 := Below.trans (by repeat (first | exact Below.refl _ _ | refine Below.alloc ?_ (by simp; try omega) _)) (hb.mono (by simp; try omega))
  have D13 := D11.below Cw13 S11
  have S13 : w1.heap.size < w13.heap.size := Nat.lt_of_lt_of_le S11 Cw13.size
  have R13 := Rd.of_own hown
  have R3j := R3i.below Cw13
  clear hown hb
  obtain ⟨A13, c13, rfl, _, _⟩ := R13.form
  go_wp2_with fail
  refine (sameB _ _ _ _ _ _ _ (encL encI [1, -1]) [4, 2, 1] (R13.alloc _) (Rd.newAt rfl rfl (by unfold maxLen; decide) (by simp))).mono ?_
  rw [show (encL encI [1, -1] == [4, 2, 1]) = true from rfl]
  rintro e w14 ⟨rfl, rfl⟩
  go_wp2_with ((with_reducible show wpList _ _ _ _ _ _); refine op_load_aggG (by rfl) 57 (.tmp 16) rfl w1.heap.size 0 rfl _ Try.underlying57 rfl (cd dd0) (D13.alloc S13 _) (by kernel_rfl) ?_)
  refine (sameDigests _ _ _ _ _ _ _ [dd0] [dd0] ((R3j.alloc _).alloc _) (Rd.newM rfl rfl (by unfold maxLen; decide) (by simp)) (by decide) (by decide) (by decide)).mono ?_
  rw [show (([dd0] : List (List UInt8)) == [dd0]) = true from rfl]
  rintro e w15 ⟨rfl, hb⟩
  have Cw15 : Below w13.heap.size w13 w15 := Below.trans (by repeat (first | exact Below.refl _ _ | refine Below.alloc ?_ (by simp; try omega) _)) (hb.mono (by simp; try omega))
  go_wp2
  go_ret
  exact ⟨rfl, (Cw1.trans (Below.mono (Cw2.trans (Below.mono (Cw3.trans (Below.mono (Cw4.trans (Below.mono (Cw5.trans (Below.mono (Cw6.trans (Below.mono (Cw8.trans (Below.mono (Cw10.trans (Below.mono (Cw11.trans (Below.mono (Cw13.trans (Below.mono Cw15 Cw13.size)) Cw11.size)) Cw10.size)) Cw8.size)) Cw6.size)) Cw5.size)) Cw4.size)) Cw3.size)) Cw2.size)) Cw1.size))⟩
end Go.Proofs.Ytbjddcjochealaa
