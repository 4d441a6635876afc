/-
  The reference of layer 5: integers, operations, order, rounding.
-/
import Derived.Test.YtchhlgcakjjncaaGreatDoorR5a
import Derived.Test.YtchhlgcakjjncaaGreatDoorRin
import Derived.Test.YtchhlgcakjjncaaGreatDoorMH
import Derived.Test.YtchhlgcakjjncaaGreatDoorPl05o
import Derived.Test.YtchhlgcakjjncaaGreatDoorRk
set_option linter.unusedSimpArgs false
set_option linter.unusedVariables false
set_option maxRecDepth 100000
set_option maxHeartbeats 1600000
namespace Go.Proofs.YtchhlgcakjjncaaGreatDoor
open Go.RowKit
theorem info_made5 : (Tryz.prog.info? 31).map (·.size) = some 4 := by kernel_rfl
theorem load_err (b k : Nat) (X : World) (v : Value) (h : X.cell? ⟨b, k, none⟩ = some v) : (loadVar 27 ⟨b, k, none⟩).run Tryz.prog X = .ok v X := by
  go_simp
theorem rintI (m : Int) (k : Nat) (w : World) (h : m = (k : Int)) (hk : k < 9223372036854775808) : Calls Tryz.prog 97 #[.int .i64 m] w fun e w' => e = .returned (.agg #[.string ⟨(be k).toArray⟩, .int .i64 0]) ∧ Since w w' := by
  subst h
  exact rintC k w hk
theorem nat5_1 (m : Int) (w : World) (hm : insB m = true) (h : m < 0) : Calls Tryz.prog 60 #[.int .i64 m] w fun e w' => e = .returned (.string ⟨(be m.natAbs).toArray⟩) ∧ Since w w' := by
  have hbd := insB_t hm
  go_enter Tryz.func60, Tryz.ntmps60
  go_upto_region 1 with (fail)
  refine jp ?_
  refine jm (.int .i64 m) ?_
  refine jv (.bool true) (exec_lss _ _ _ _ (by rfl) .i64 m 0 (by rfl) (by rfl) true (decide_eq_true (by omega))) ?_
  refine jz fun X1 hX1 => ?_
  have hb : Below w.heap.size w X1 := hX1
  clear hX1
  go_upto_region 2 with (fail)
  refine jp ?_
  refine jm (.int .i64 m) ?_
  refine jv (.int .i64 (-m)) (exec_neg _ _ (by rfl) m (-m) (by rfl) rfl (by omega) (by omega)) ?_
  refine jm (.int .i64 (-m)) ?_
  refine jz fun X2 hX2 => ?_
  have hb := bel_next hb hX2
  clear hX2
  go_upto_region 3 with (fail)
  refine jp ?_
  refine jm (.int .i64 (-m)) ?_
  refine jc (.agg #[st (be m.natAbs), .int .i64 0]) (fun X hX hF => rintI (-m) m.natAbs X (by omega) (by omega)) ?_
  refine jm (st (be m.natAbs)) ?_
  refine jm (st (be m.natAbs)) ?_
  refine jz fun X3 hX3 => ?_
  have hb := bel_next hb hX3
  clear hX3
  go_wp2
  go_ret
  exact ⟨rfl, hb⟩
theorem nat5_0 (m : Int) (w : World) (hm : insB m = true) (h : 0 ≤ m) : Calls Tryz.prog 60 #[.int .i64 m] w fun e w' => e = .returned (.string ⟨(be m.natAbs).toArray⟩) ∧ Since w w' := by
  have hbd := insB_t hm
  go_enter Tryz.func60, Tryz.ntmps60
  go_upto_region 1 with (fail)
  refine jp ?_
  refine jm (.int .i64 m) ?_
  refine jv (.bool false) (exec_lss _ _ _ _ (by rfl) .i64 m 0 (by rfl) (by rfl) false (decide_eq_false (by omega))) ?_
  refine jz fun X1 hX1 => ?_
  have hb : Below w.heap.size w X1 := hX1
  clear hX1
  go_upto_region 3 with (fail)
  refine jp ?_
  refine jm (.int .i64 m) ?_
  refine jc (.agg #[st (be m.natAbs), .int .i64 0]) (fun X hX hF => rintI m m.natAbs X (by omega) (by omega)) ?_
  refine jm (st (be m.natAbs)) ?_
  refine jm (st (be m.natAbs)) ?_
  refine jz fun X2 hX2 => ?_
  have hb := bel_next hb hX2
  clear hX2
  go_wp2
  go_ret
  exact ⟨rfl, hb⟩
theorem natS (m : Int) (w : World) (hm : insB m = true) : Calls Tryz.prog 60 #[.int .i64 m] w fun e w' => e = .returned (.string ⟨(be m.natAbs).toArray⟩) ∧ Since w w' := by
  by_cases h : m < 0
  · exact nat5_1 m w hm h
  · exact nat5_0 m w hm (by omega)
theorem ins50 (n : Int) (w : World) (h : n < -999999999999999) : Calls Tryz.prog 58 #[.int .i64 n] w fun e w' => e = .returned (.bool (insB n)) ∧ Since w w' := by
  have HI : Hid (insB n = false) := by unfold insB; exact decide_eq_false (by omega)
  go_enter Tryz.func58, Tryz.ntmps58
  go_upto_region 1 with (fail)
  refine jp ?_
  refine jm (.int .i64 n) ?_
  refine jv (.bool false) (exec_geq _ _ _ _ (by rfl) .i64 n (-999999999999999) (by rfl) (by rfl) false (decide_eq_false (by omega))) ?_
  refine jm (.bool false) ?_
  refine js ?_
  refine js ?_
  refine jm (.bool false) ?_
  refine jm (.bool false) ?_
  refine jz fun X1 hX1 => ?_
  have hb : Below w.heap.size w X1 := hX1
  clear hX1
  go_wp2
  go_ret
  exact ⟨by rw [HI.out]; rfl, hb⟩
theorem ins51 (n : Int) (w : World) (h : 999999999999999 < n) : Calls Tryz.prog 58 #[.int .i64 n] w fun e w' => e = .returned (.bool (insB n)) ∧ Since w w' := by
  have HI : Hid (insB n = false) := by unfold insB; exact decide_eq_false (by omega)
  go_enter Tryz.func58, Tryz.ntmps58
  go_upto_region 1 with (fail)
  refine jp ?_
  refine jm (.int .i64 n) ?_
  refine jv (.bool true) (exec_geq _ _ _ _ (by rfl) .i64 n (-999999999999999) (by rfl) (by rfl) true (decide_eq_true (by omega))) ?_
  refine jm (.bool true) ?_
  refine jm (.int .i64 n) ?_
  refine jv (.bool false) (exec_leq _ _ _ _ (by rfl) .i64 n 999999999999999 (by rfl) (by rfl) false (decide_eq_false (by omega))) ?_
  refine jm (.bool false) ?_
  refine jm (.bool false) ?_
  refine jz fun X1 hX1 => ?_
  have hb : Below w.heap.size w X1 := hX1
  clear hX1
  go_wp2
  go_ret
  exact ⟨by rw [HI.out]; rfl, hb⟩
theorem ins52 (n : Int) (w : World) (h1 : -999999999999999 ≤ n) (h2 : n ≤ 999999999999999) : Calls Tryz.prog 58 #[.int .i64 n] w fun e w' => e = .returned (.bool (insB n)) ∧ Since w w' := by
  have HI : Hid (insB n = true) := by unfold insB; exact decide_eq_true (by omega)
  go_enter Tryz.func58, Tryz.ntmps58
  go_upto_region 1 with (fail)
  refine jp ?_
  refine jm (.int .i64 n) ?_
  refine jv (.bool true) (exec_geq _ _ _ _ (by rfl) .i64 n (-999999999999999) (by rfl) (by rfl) true (decide_eq_true (by omega))) ?_
  refine jm (.bool true) ?_
  refine jm (.int .i64 n) ?_
  refine jv (.bool true) (exec_leq _ _ _ _ (by rfl) .i64 n 999999999999999 (by rfl) (by rfl) true (decide_eq_true (by omega))) ?_
  refine jm (.bool true) ?_
  refine jm (.bool true) ?_
  refine jz fun X1 hX1 => ?_
  have hb : Below w.heap.size w X1 := hX1
  clear hX1
  go_wp2
  go_ret
  exact ⟨by rw [HI.out]; rfl, hb⟩
theorem insS (n : Int) (w : World) : Calls Tryz.prog 58 #[.int .i64 n] w fun e w' => e = .returned (.bool (insB n)) ∧ Since w w' := by
  by_cases h1 : n < -999999999999999
  · exact ins50 n w h1
  · by_cases h2 : 999999999999999 < n
    · exact ins51 n w h2
    · exact ins52 n w (by omega) (by omega)
theorem make5_11 (m n : Int) (w : World) (HM : Hid (insB m = true)) (HN : Hid (insB n = true)) (ha : m < 0) (hb1 : n < 0) (hlm : (be m.natAbs).length ≤ 8) (hln : (be n.natAbs).length ≤ 8) (HDP : Hid (0 < n.natAbs)) (HK : Hid (mkRat (sg false m.natAbs) n.natAbs = (m : Rat) / (n : Rat))) : Calls Tryz.prog 9 #[.int .i64 m, .int .i64 n] w fun e w' => e = .returned (.agg #[.bool (rN ((m : Rat) / (n : Rat))), .string ⟨(rP ((m : Rat) / (n : Rat))).toArray⟩, .string ⟨(rD ((m : Rat) / (n : Rat))).toArray⟩, .int .i64 0]) ∧ Since w w' := by
  go_enter Tryz.func9, Tryz.ntmps9
  go_upto_region 1 with (fail)
  obtain ⟨W0, hW0, hB0, hb⟩ := start1 w 31 [.bool false, .string ⟨#[]⟩, .string ⟨#[]⟩, .int .i64 0]
  rw [← hW0]
  clear hW0
  refine jp ?_
  refine jm (.int .i64 m) ?_
  refine jc (.bool true) (fun X hX hF => mo (insS m X) (by rw [HM.out])) ?_
  refine jm (.bool true) ?_
  refine jz fun X1 hX1 => ?_
  have hB0 := hB0.bel hX1
  have hb := bel_next hb hX1
  clear hX1
  go_upto_region 2 with (fail)
  refine jp ?_
  refine jm (.int .i64 n) ?_
  refine jc (.bool true) (fun X hX hF => mo (insS n X) (by rw [HN.out])) ?_
  refine jm (.bool true) ?_
  refine jz fun X2 hX2 => ?_
  have hB0 := hB0.bel hX2
  have hb := bel_next hb hX2
  clear hX2
  go_upto_region 3 with (fail)
  refine jp ?_
  refine jm (.bool true) ?_
  refine jm (.bool false) ?_
  refine jm (.bool false) ?_
  refine jm (.bool true) ?_
  refine jm (.bool false) ?_
  refine jm (.bool false) ?_
  refine jz fun X3 hX3 => ?_
  have hB0 := hB0.bel hX3
  have hb := bel_next hb hX3
  clear hX3
  go_upto_region 5 with (fail)
  refine jp ?_
  refine jm (.int .i64 n) ?_
  refine jv (.bool false) (exec_eqi _ _ _ _ (by rfl) .i64 n 0 (by rfl) (by rfl) false (decide_eq_false (by omega))) ?_
  refine jz fun X4 hX4 => ?_
  have hB0 := hB0.bel hX4
  have hb := bel_next hb hX4
  clear hX4
  go_upto_region 7 with (fail)
  refine jq 11 ?_
  refine jm (.int .i64 m) ?_
  refine jv (.bool true) (exec_lss _ _ _ _ (by rfl) .i64 m 0 (by rfl) (by rfl) true (decide_eq_true (by omega))) ?_
  refine jm (.int .i64 n) ?_
  refine jv (.bool true) (exec_lss _ _ _ _ (by rfl) .i64 n 0 (by rfl) (by rfl) true (decide_eq_true (by omega))) ?_
  refine jm (.bool false) ?_
  refine jm (.int .i64 m) ?_
  refine jc (st (be m.natAbs)) (fun X hX hF => natS m X HM.out) ?_
  refine jm (.int .i64 n) ?_
  refine jc (st (be n.natAbs)) (fun X hX hF => natS n X HN.out) ?_
  refine jc (rt (rN (mkRat (sg false m.natAbs) n.natAbs)) (rP (mkRat (sg false m.natAbs) n.natAbs)) (rD (mkRat (sg false m.natAbs) n.natAbs))) (fun X hX hF => lowS false m.natAbs n.natAbs X HDP.out (by first | omega | decide) (by first | omega | decide)) ?_
  refine jn (.agg #[.bool (rN (mkRat (sg false m.natAbs) n.natAbs)), st (rP (mkRat (sg false m.natAbs) n.natAbs)), st (rD (mkRat (sg false m.natAbs) n.natAbs)), .int .i64 0]) ?_
  refine jz fun X5 hX5 => ?_
  have hB0 := hB0.bel hX5
  have hb := bel_next hb hX5
  clear hX5
  refine osb 31 4 31 w.heap.size 31 hB0 [.bool (rN (mkRat (sg false m.natAbs) n.natAbs)), .string ⟨(rP (mkRat (sg false m.natAbs) n.natAbs)).toArray⟩, .string ⟨(rD (mkRat (sg false m.natAbs) n.natAbs)).toArray⟩, .int .i64 0] info_made5 ?_
  intro w9 hR9 hO9 hB9 hs9
  have hb9 := hB9 _ _ hb (by omega)
  clear hO9 hB9
  go_wp2
  refine post_cell rfl rfl (by rfl) Tryz.underlying31 rfl hR9 info_made5 ⟨by rw [HK.out], hb9⟩
theorem make5_10 (m n : Int) (w : World) (HM : Hid (insB m = true)) (HN : Hid (insB n = true)) (ha : m < 0) (hb1 : 0 < n) (hlm : (be m.natAbs).length ≤ 8) (hln : (be n.natAbs).length ≤ 8) (HDP : Hid (0 < n.natAbs)) (HK : Hid (mkRat (sg true m.natAbs) n.natAbs = (m : Rat) / (n : Rat))) : Calls Tryz.prog 9 #[.int .i64 m, .int .i64 n] w fun e w' => e = .returned (.agg #[.bool (rN ((m : Rat) / (n : Rat))), .string ⟨(rP ((m : Rat) / (n : Rat))).toArray⟩, .string ⟨(rD ((m : Rat) / (n : Rat))).toArray⟩, .int .i64 0]) ∧ Since w w' := by
  go_enter Tryz.func9, Tryz.ntmps9
  go_upto_region 1 with (fail)
  obtain ⟨W0, hW0, hB0, hb⟩ := start1 w 31 [.bool false, .string ⟨#[]⟩, .string ⟨#[]⟩, .int .i64 0]
  rw [← hW0]
  clear hW0
  refine jp ?_
  refine jm (.int .i64 m) ?_
  refine jc (.bool true) (fun X hX hF => mo (insS m X) (by rw [HM.out])) ?_
  refine jm (.bool true) ?_
  refine jz fun X1 hX1 => ?_
  have hB0 := hB0.bel hX1
  have hb := bel_next hb hX1
  clear hX1
  go_upto_region 2 with (fail)
  refine jp ?_
  refine jm (.int .i64 n) ?_
  refine jc (.bool true) (fun X hX hF => mo (insS n X) (by rw [HN.out])) ?_
  refine jm (.bool true) ?_
  refine jz fun X2 hX2 => ?_
  have hB0 := hB0.bel hX2
  have hb := bel_next hb hX2
  clear hX2
  go_upto_region 3 with (fail)
  refine jp ?_
  refine jm (.bool true) ?_
  refine jm (.bool false) ?_
  refine jm (.bool false) ?_
  refine jm (.bool true) ?_
  refine jm (.bool false) ?_
  refine jm (.bool false) ?_
  refine jz fun X3 hX3 => ?_
  have hB0 := hB0.bel hX3
  have hb := bel_next hb hX3
  clear hX3
  go_upto_region 5 with (fail)
  refine jp ?_
  refine jm (.int .i64 n) ?_
  refine jv (.bool false) (exec_eqi _ _ _ _ (by rfl) .i64 n 0 (by rfl) (by rfl) false (decide_eq_false (by omega))) ?_
  refine jz fun X4 hX4 => ?_
  have hB0 := hB0.bel hX4
  have hb := bel_next hb hX4
  clear hX4
  go_upto_region 7 with (fail)
  refine jq 11 ?_
  refine jm (.int .i64 m) ?_
  refine jv (.bool true) (exec_lss _ _ _ _ (by rfl) .i64 m 0 (by rfl) (by rfl) true (decide_eq_true (by omega))) ?_
  refine jm (.int .i64 n) ?_
  refine jv (.bool false) (exec_lss _ _ _ _ (by rfl) .i64 n 0 (by rfl) (by rfl) false (decide_eq_false (by omega))) ?_
  refine jm (.bool true) ?_
  refine jm (.int .i64 m) ?_
  refine jc (st (be m.natAbs)) (fun X hX hF => natS m X HM.out) ?_
  refine jm (.int .i64 n) ?_
  refine jc (st (be n.natAbs)) (fun X hX hF => natS n X HN.out) ?_
  refine jc (rt (rN (mkRat (sg true m.natAbs) n.natAbs)) (rP (mkRat (sg true m.natAbs) n.natAbs)) (rD (mkRat (sg true m.natAbs) n.natAbs))) (fun X hX hF => lowS true m.natAbs n.natAbs X HDP.out (by first | omega | decide) (by first | omega | decide)) ?_
  refine jn (.agg #[.bool (rN (mkRat (sg true m.natAbs) n.natAbs)), st (rP (mkRat (sg true m.natAbs) n.natAbs)), st (rD (mkRat (sg true m.natAbs) n.natAbs)), .int .i64 0]) ?_
  refine jz fun X5 hX5 => ?_
  have hB0 := hB0.bel hX5
  have hb := bel_next hb hX5
  clear hX5
  refine osb 31 4 31 w.heap.size 31 hB0 [.bool (rN (mkRat (sg true m.natAbs) n.natAbs)), .string ⟨(rP (mkRat (sg true m.natAbs) n.natAbs)).toArray⟩, .string ⟨(rD (mkRat (sg true m.natAbs) n.natAbs)).toArray⟩, .int .i64 0] info_made5 ?_
  intro w9 hR9 hO9 hB9 hs9
  have hb9 := hB9 _ _ hb (by omega)
  clear hO9 hB9
  go_wp2
  refine post_cell rfl rfl (by rfl) Tryz.underlying31 rfl hR9 info_made5 ⟨by rw [HK.out], hb9⟩
theorem make5_01 (m n : Int) (w : World) (HM : Hid (insB m = true)) (HN : Hid (insB n = true)) (ha : 0 ≤ m) (hb1 : n < 0) (hlm : (be m.natAbs).length ≤ 8) (hln : (be n.natAbs).length ≤ 8) (HDP : Hid (0 < n.natAbs)) (HK : Hid (mkRat (sg true m.natAbs) n.natAbs = (m : Rat) / (n : Rat))) : Calls Tryz.prog 9 #[.int .i64 m, .int .i64 n] w fun e w' => e = .returned (.agg #[.bool (rN ((m : Rat) / (n : Rat))), .string ⟨(rP ((m : Rat) / (n : Rat))).toArray⟩, .string ⟨(rD ((m : Rat) / (n : Rat))).toArray⟩, .int .i64 0]) ∧ Since w w' := by
  go_enter Tryz.func9, Tryz.ntmps9
  go_upto_region 1 with (fail)
  obtain ⟨W0, hW0, hB0, hb⟩ := start1 w 31 [.bool false, .string ⟨#[]⟩, .string ⟨#[]⟩, .int .i64 0]
  rw [← hW0]
  clear hW0
  refine jp ?_
  refine jm (.int .i64 m) ?_
  refine jc (.bool true) (fun X hX hF => mo (insS m X) (by rw [HM.out])) ?_
  refine jm (.bool true) ?_
  refine jz fun X1 hX1 => ?_
  have hB0 := hB0.bel hX1
  have hb := bel_next hb hX1
  clear hX1
  go_upto_region 2 with (fail)
  refine jp ?_
  refine jm (.int .i64 n) ?_
  refine jc (.bool true) (fun X hX hF => mo (insS n X) (by rw [HN.out])) ?_
  refine jm (.bool true) ?_
  refine jz fun X2 hX2 => ?_
  have hB0 := hB0.bel hX2
  have hb := bel_next hb hX2
  clear hX2
  go_upto_region 3 with (fail)
  refine jp ?_
  refine jm (.bool true) ?_
  refine jm (.bool false) ?_
  refine jm (.bool false) ?_
  refine jm (.bool true) ?_
  refine jm (.bool false) ?_
  refine jm (.bool false) ?_
  refine jz fun X3 hX3 => ?_
  have hB0 := hB0.bel hX3
  have hb := bel_next hb hX3
  clear hX3
  go_upto_region 5 with (fail)
  refine jp ?_
  refine jm (.int .i64 n) ?_
  refine jv (.bool false) (exec_eqi _ _ _ _ (by rfl) .i64 n 0 (by rfl) (by rfl) false (decide_eq_false (by omega))) ?_
  refine jz fun X4 hX4 => ?_
  have hB0 := hB0.bel hX4
  have hb := bel_next hb hX4
  clear hX4
  go_upto_region 7 with (fail)
  refine jq 11 ?_
  refine jm (.int .i64 m) ?_
  refine jv (.bool false) (exec_lss _ _ _ _ (by rfl) .i64 m 0 (by rfl) (by rfl) false (decide_eq_false (by omega))) ?_
  refine jm (.int .i64 n) ?_
  refine jv (.bool true) (exec_lss _ _ _ _ (by rfl) .i64 n 0 (by rfl) (by rfl) true (decide_eq_true (by omega))) ?_
  refine jm (.bool true) ?_
  refine jm (.int .i64 m) ?_
  refine jc (st (be m.natAbs)) (fun X hX hF => natS m X HM.out) ?_
  refine jm (.int .i64 n) ?_
  refine jc (st (be n.natAbs)) (fun X hX hF => natS n X HN.out) ?_
  refine jc (rt (rN (mkRat (sg true m.natAbs) n.natAbs)) (rP (mkRat (sg true m.natAbs) n.natAbs)) (rD (mkRat (sg true m.natAbs) n.natAbs))) (fun X hX hF => lowS true m.natAbs n.natAbs X HDP.out (by first | omega | decide) (by first | omega | decide)) ?_
  refine jn (.agg #[.bool (rN (mkRat (sg true m.natAbs) n.natAbs)), st (rP (mkRat (sg true m.natAbs) n.natAbs)), st (rD (mkRat (sg true m.natAbs) n.natAbs)), .int .i64 0]) ?_
  refine jz fun X5 hX5 => ?_
  have hB0 := hB0.bel hX5
  have hb := bel_next hb hX5
  clear hX5
  refine osb 31 4 31 w.heap.size 31 hB0 [.bool (rN (mkRat (sg true m.natAbs) n.natAbs)), .string ⟨(rP (mkRat (sg true m.natAbs) n.natAbs)).toArray⟩, .string ⟨(rD (mkRat (sg true m.natAbs) n.natAbs)).toArray⟩, .int .i64 0] info_made5 ?_
  intro w9 hR9 hO9 hB9 hs9
  have hb9 := hB9 _ _ hb (by omega)
  clear hO9 hB9
  go_wp2
  refine post_cell rfl rfl (by rfl) Tryz.underlying31 rfl hR9 info_made5 ⟨by rw [HK.out], hb9⟩
theorem make5_00 (m n : Int) (w : World) (HM : Hid (insB m = true)) (HN : Hid (insB n = true)) (ha : 0 ≤ m) (hb1 : 0 < n) (hlm : (be m.natAbs).length ≤ 8) (hln : (be n.natAbs).length ≤ 8) (HDP : Hid (0 < n.natAbs)) (HK : Hid (mkRat (sg false m.natAbs) n.natAbs = (m : Rat) / (n : Rat))) : Calls Tryz.prog 9 #[.int .i64 m, .int .i64 n] w fun e w' => e = .returned (.agg #[.bool (rN ((m : Rat) / (n : Rat))), .string ⟨(rP ((m : Rat) / (n : Rat))).toArray⟩, .string ⟨(rD ((m : Rat) / (n : Rat))).toArray⟩, .int .i64 0]) ∧ Since w w' := by
  go_enter Tryz.func9, Tryz.ntmps9
  go_upto_region 1 with (fail)
  obtain ⟨W0, hW0, hB0, hb⟩ := start1 w 31 [.bool false, .string ⟨#[]⟩, .string ⟨#[]⟩, .int .i64 0]
  rw [← hW0]
  clear hW0
  refine jp ?_
  refine jm (.int .i64 m) ?_
  refine jc (.bool true) (fun X hX hF => mo (insS m X) (by rw [HM.out])) ?_
  refine jm (.bool true) ?_
  refine jz fun X1 hX1 => ?_
  have hB0 := hB0.bel hX1
  have hb := bel_next hb hX1
  clear hX1
  go_upto_region 2 with (fail)
  refine jp ?_
  refine jm (.int .i64 n) ?_
  refine jc (.bool true) (fun X hX hF => mo (insS n X) (by rw [HN.out])) ?_
  refine jm (.bool true) ?_
  refine jz fun X2 hX2 => ?_
  have hB0 := hB0.bel hX2
  have hb := bel_next hb hX2
  clear hX2
  go_upto_region 3 with (fail)
  refine jp ?_
  refine jm (.bool true) ?_
  refine jm (.bool false) ?_
  refine jm (.bool false) ?_
  refine jm (.bool true) ?_
  refine jm (.bool false) ?_
  refine jm (.bool false) ?_
  refine jz fun X3 hX3 => ?_
  have hB0 := hB0.bel hX3
  have hb := bel_next hb hX3
  clear hX3
  go_upto_region 5 with (fail)
  refine jp ?_
  refine jm (.int .i64 n) ?_
  refine jv (.bool false) (exec_eqi _ _ _ _ (by rfl) .i64 n 0 (by rfl) (by rfl) false (decide_eq_false (by omega))) ?_
  refine jz fun X4 hX4 => ?_
  have hB0 := hB0.bel hX4
  have hb := bel_next hb hX4
  clear hX4
  go_upto_region 7 with (fail)
  refine jq 11 ?_
  refine jm (.int .i64 m) ?_
  refine jv (.bool false) (exec_lss _ _ _ _ (by rfl) .i64 m 0 (by rfl) (by rfl) false (decide_eq_false (by omega))) ?_
  refine jm (.int .i64 n) ?_
  refine jv (.bool false) (exec_lss _ _ _ _ (by rfl) .i64 n 0 (by rfl) (by rfl) false (decide_eq_false (by omega))) ?_
  refine jm (.bool false) ?_
  refine jm (.int .i64 m) ?_
  refine jc (st (be m.natAbs)) (fun X hX hF => natS m X HM.out) ?_
  refine jm (.int .i64 n) ?_
  refine jc (st (be n.natAbs)) (fun X hX hF => natS n X HN.out) ?_
  refine jc (rt (rN (mkRat (sg false m.natAbs) n.natAbs)) (rP (mkRat (sg false m.natAbs) n.natAbs)) (rD (mkRat (sg false m.natAbs) n.natAbs))) (fun X hX hF => lowS false m.natAbs n.natAbs X HDP.out (by first | omega | decide) (by first | omega | decide)) ?_
  refine jn (.agg #[.bool (rN (mkRat (sg false m.natAbs) n.natAbs)), st (rP (mkRat (sg false m.natAbs) n.natAbs)), st (rD (mkRat (sg false m.natAbs) n.natAbs)), .int .i64 0]) ?_
  refine jz fun X5 hX5 => ?_
  have hB0 := hB0.bel hX5
  have hb := bel_next hb hX5
  clear hX5
  refine osb 31 4 31 w.heap.size 31 hB0 [.bool (rN (mkRat (sg false m.natAbs) n.natAbs)), .string ⟨(rP (mkRat (sg false m.natAbs) n.natAbs)).toArray⟩, .string ⟨(rD (mkRat (sg false m.natAbs) n.natAbs)).toArray⟩, .int .i64 0] info_made5 ?_
  intro w9 hR9 hO9 hB9 hs9
  have hb9 := hB9 _ _ hb (by omega)
  clear hO9 hB9
  go_wp2
  refine post_cell rfl rfl (by rfl) Tryz.underlying31 rfl hR9 info_made5 ⟨by rw [HK.out], hb9⟩
theorem mk_quot {m n : Int} (h0 : n ≠ 0) : mkRat (sg (decide (m < 0) != decide (n < 0)) m.natAbs) n.natAbs = (m : Rat) / (n : Rat) := by
  have h1 := div_fr (decide (m < 0)) (decide (n < 0)) m.natAbs (q := n.natAbs) (d := 1) (e := 1) (by omega) (by omega)
  rw [mk_int, mk_int, Nat.mul_one, Nat.one_mul] at h1
  exact h1.symm
theorem makeS (m n : Int) (w : World) (hm : insB m = true) (hn : insB n = true) (h0 : n ≠ 0) : Calls Tryz.prog 9 #[.int .i64 m, .int .i64 n] w fun e w' => e = .returned (.agg #[.bool (rN ((m : Rat) / (n : Rat))), .string ⟨(rP ((m : Rat) / (n : Rat))).toArray⟩, .string ⟨(rD ((m : Rat) / (n : Rat))).toArray⟩, .int .i64 0]) ∧ Since w w' := by
  have b1 := insB_t hm
  have b2 := insB_t hn
  have lm : (be m.natAbs).length ≤ 8 := be_len (by omega)
  have ln : (be n.natAbs).length ≤ 8 := be_len (by omega)
  have key := mk_quot (m := m) h0
  by_cases ha : m < 0 <;> by_cases hb : n < 0
  · rw [decide_eq_true ha, decide_eq_true hb] at key
    exact make5_11 m n w hm hn ha hb lm ln (show 0 < n.natAbs by omega) key
  · rw [decide_eq_true ha, decide_eq_false hb] at key
    exact make5_10 m n w hm hn ha (by omega) lm ln (show 0 < n.natAbs by omega) key
  · rw [decide_eq_false ha, decide_eq_true hb] at key
    exact make5_01 m n w hm hn (by omega) hb lm ln (show 0 < n.natAbs by omega) key
  · rw [decide_eq_false ha, decide_eq_false hb] at key
    exact make5_00 m n w hm hn (by omega) (by omega) lm ln (show 0 < n.natAbs by omega) key
theorem neg5_z (n : Bool) (p q : List UInt8) (x : Rat) (HX : Hid (rq n p q = x)) (w : World) (h : tz p q 1000000) (HM : Hid (rN x = false)) (HE : Hid (rP x = [])) (HK : Hid (-x = x)) : Calls Tryz.prog 21 #[.agg #[.bool n, .string ⟨p.toArray⟩, .string ⟨q.toArray⟩]] w fun e w' => e = .returned (rbv (-x)) ∧ Since w w' := by
  go_enter Tryz.func21, Tryz.ntmps21
  go_upto_region 1 with (fail)
  obtain ⟨W0, hW0, hB0, hB1, hb⟩ := start2 w 23 23 [.bool n, .string ⟨p.toArray⟩, .string ⟨q.toArray⟩] [.bool false, .string ⟨#[]⟩, .string ⟨#[]⟩]
  rw [← hW0]
  clear hW0
  refine jq 2 ?_
  refine ja hB0 Tryz.underlying23 (by rfl) info_rat ?_
  refine jc (rt false (rP x) (rD x)) (fun X hX hF => mo (cleanS n p q HX.out X h) (by rw [rbv_n HM.out])) ?_
  refine jz fun X1 hX1 => ?_
  have hB0 := hB0.bel hX1
  have hB1 := hB1.bel hX1
  have hb := bel_next hb hX1
  clear hX1
  go_upto_region 2 with (refine osn 23 3 5 #[.bool false, .string ⟨(rP x).toArray⟩, .string ⟨(rD x).toArray⟩] info_rat ?_)
  obtain ⟨Y1, hY9, hD3, hS9⟩ := start1 X1 23 [.bool false, .string ⟨(rP x).toArray⟩, .string ⟨(rD x).toArray⟩]
  rw [← hY9]
  clear hY9
  have hgs3 := hb.size
  have hlt3x0 := hB0.lt
  have hlt3x1 := hB1.lt
  have hB0 := hB0.bel hS9
  have hB1 := hB1.bel hS9
  have hb := bel_next hb hS9
  clear hS9
  generalize X1.heap.size = g3 at *
  refine jp ?_
  refine jn (.pointer (some ⟨g3, 1, none⟩)) ?_
  refine jf (st (rP x)) hD3 1 load_str ?_
  refine jv (.bool false) (exec_nesB _ _ _ _ (by rfl) (rP x) ([] : List UInt8) (by rfl) (by rfl) false (nes_f HE.out)) ?_
  refine jz fun X2 hX2 => ?_
  have hB0 := hB0.bel hX2
  have hB1 := hB1.bel hX2
  have hD3 := hD3.bel hX2
  have hb := bel_next hb hX2
  clear hX2
  go_upto_region 4 with (fail)
  refine jq 1 ?_
  refine ja hD3 Tryz.underlying23 (by rfl) info_rat ?_
  refine jz fun X3 hX3 => ?_
  have hB0 := hB0.bel hX3
  have hB1 := hB1.bel hX3
  have hD3 := hD3.bel hX3
  have hb := bel_next hb hX3
  clear hX3
  refine osb 23 2 13 (w.heap.size + 1) 23 hB1 [.bool false, .string ⟨(rP x).toArray⟩, .string ⟨(rD x).toArray⟩] info_rat ?_
  intro w9 hR9 hO9 hB9 hs9
  have hb9 := hB9 _ _ hb (by omega)
  clear hO9 hB9
  go_wp2
  refine post_cell rfl rfl (by rfl) Tryz.underlying23 rfl hR9 info_rat ⟨by rw [HK.out, rbv_n HM.out], hb9⟩
theorem neg5_true (n : Bool) (p q : List UInt8) (x : Rat) (HX : Hid (rq n p q = x)) (w : World) (h : tz p q 1000000) (HM : Hid (rN x = true)) (HE : Hid (rP x ≠ [])) (HK : Hid (rN (-x) = false ∧ rP (-x) = rP x ∧ rD (-x) = rD x)) : Calls Tryz.prog 21 #[.agg #[.bool n, .string ⟨p.toArray⟩, .string ⟨q.toArray⟩]] w fun e w' => e = .returned (rbv (-x)) ∧ Since w w' := by
  go_enter Tryz.func21, Tryz.ntmps21
  go_upto_region 1 with (fail)
  obtain ⟨W0, hW0, hB0, hB1, hb⟩ := start2 w 23 23 [.bool n, .string ⟨p.toArray⟩, .string ⟨q.toArray⟩] [.bool false, .string ⟨#[]⟩, .string ⟨#[]⟩]
  rw [← hW0]
  clear hW0
  refine jq 2 ?_
  refine ja hB0 Tryz.underlying23 (by rfl) info_rat ?_
  refine jc (rt true (rP x) (rD x)) (fun X hX hF => mo (cleanS n p q HX.out X h) (by rw [rbv_n HM.out])) ?_
  refine jz fun X1 hX1 => ?_
  have hB0 := hB0.bel hX1
  have hB1 := hB1.bel hX1
  have hb := bel_next hb hX1
  clear hX1
  go_upto_region 2 with (refine osn 23 3 5 #[.bool true, .string ⟨(rP x).toArray⟩, .string ⟨(rD x).toArray⟩] info_rat ?_)
  obtain ⟨Y1, hY9, hD3, hS9⟩ := start1 X1 23 [.bool true, .string ⟨(rP x).toArray⟩, .string ⟨(rD x).toArray⟩]
  rw [← hY9]
  clear hY9
  have hgs3 := hb.size
  have hlt3x0 := hB0.lt
  have hlt3x1 := hB1.lt
  have hB0 := hB0.bel hS9
  have hB1 := hB1.bel hS9
  have hb := bel_next hb hS9
  clear hS9
  generalize X1.heap.size = g3 at *
  refine jp ?_
  refine jn (.pointer (some ⟨g3, 1, none⟩)) ?_
  refine jf (st (rP x)) hD3 1 load_str ?_
  refine jv (.bool true) (exec_nesB _ _ _ _ (by rfl) (rP x) ([] : List UInt8) (by rfl) (by rfl) true (nes_t HE.out)) ?_
  refine jz fun X2 hX2 => ?_
  have hB0 := hB0.bel hX2
  have hB1 := hB1.bel hX2
  have hD3 := hD3.bel hX2
  have hb := bel_next hb hX2
  clear hX2
  go_upto_region 3 with (fail)
  refine jq 4 ?_
  refine jn (.pointer (some ⟨g3, 0, none⟩)) ?_
  refine jf (.bool true) hD3 0 load_bool ?_
  refine jm (.bool false) ?_
  refine jn (.pointer (some ⟨g3, 0, none⟩)) ?_
  refine jz fun X3 hX3 => ?_
  have hB0 := hB0.bel hX3
  have hB1 := hB1.bel hX3
  have hD3 := hD3.bel hX3
  have hb := bel_next hb hX3
  clear hX3
  refine op_store1 rfl g3 0 23 _ hD3 (.bool false) (by simp) (fun X u h1 h2 => exec_stb _ _ (by rfl) _ _ (by rfl) (by rfl) u X h1 h2) ?_
  intro w5 hR5 hO5 hB5
  have hb := hB5 _ _ hb (by omega)
  have hB0 := hO5 _ _ _ (by omega) hB0
  have hB1 := hO5 _ _ _ (by omega) hB1
  have hD3 := hR5
  clear hR5 hO5 hB5
  go_upto_region 4 with (fail)
  refine jq 1 ?_
  refine ja hD3 Tryz.underlying23 (by rfl) info_rat ?_
  refine jz fun X4 hX4 => ?_
  have hB0 := hB0.bel hX4
  have hB1 := hB1.bel hX4
  have hD3 := hD3.bel hX4
  have hb := bel_next hb hX4
  clear hX4
  refine osb 23 2 13 (w.heap.size + 1) 23 hB1 [.bool false, .string ⟨(rP x).toArray⟩, .string ⟨(rD x).toArray⟩] info_rat ?_
  intro w9 hR9 hO9 hB9 hs9
  have hb9 := hB9 _ _ hb (by omega)
  clear hO9 hB9
  go_wp2
  refine post_cell rfl rfl (by rfl) Tryz.underlying23 rfl hR9 info_rat ⟨by rw [rbv_of HK.out], hb9⟩
theorem neg5_false (n : Bool) (p q : List UInt8) (x : Rat) (HX : Hid (rq n p q = x)) (w : World) (h : tz p q 1000000) (HM : Hid (rN x = false)) (HE : Hid (rP x ≠ [])) (HK : Hid (rN (-x) = true ∧ rP (-x) = rP x ∧ rD (-x) = rD x)) : Calls Tryz.prog 21 #[.agg #[.bool n, .string ⟨p.toArray⟩, .string ⟨q.toArray⟩]] w fun e w' => e = .returned (rbv (-x)) ∧ Since w w' := by
  go_enter Tryz.func21, Tryz.ntmps21
  go_upto_region 1 with (fail)
  obtain ⟨W0, hW0, hB0, hB1, hb⟩ := start2 w 23 23 [.bool n, .string ⟨p.toArray⟩, .string ⟨q.toArray⟩] [.bool false, .string ⟨#[]⟩, .string ⟨#[]⟩]
  rw [← hW0]
  clear hW0
  refine jq 2 ?_
  refine ja hB0 Tryz.underlying23 (by rfl) info_rat ?_
  refine jc (rt false (rP x) (rD x)) (fun X hX hF => mo (cleanS n p q HX.out X h) (by rw [rbv_n HM.out])) ?_
  refine jz fun X1 hX1 => ?_
  have hB0 := hB0.bel hX1
  have hB1 := hB1.bel hX1
  have hb := bel_next hb hX1
  clear hX1
  go_upto_region 2 with (refine osn 23 3 5 #[.bool false, .string ⟨(rP x).toArray⟩, .string ⟨(rD x).toArray⟩] info_rat ?_)
  obtain ⟨Y1, hY9, hD3, hS9⟩ := start1 X1 23 [.bool false, .string ⟨(rP x).toArray⟩, .string ⟨(rD x).toArray⟩]
  rw [← hY9]
  clear hY9
  have hgs3 := hb.size
  have hlt3x0 := hB0.lt
  have hlt3x1 := hB1.lt
  have hB0 := hB0.bel hS9
  have hB1 := hB1.bel hS9
  have hb := bel_next hb hS9
  clear hS9
  generalize X1.heap.size = g3 at *
  refine jp ?_
  refine jn (.pointer (some ⟨g3, 1, none⟩)) ?_
  refine jf (st (rP x)) hD3 1 load_str ?_
  refine jv (.bool true) (exec_nesB _ _ _ _ (by rfl) (rP x) ([] : List UInt8) (by rfl) (by rfl) true (nes_t HE.out)) ?_
  refine jz fun X2 hX2 => ?_
  have hB0 := hB0.bel hX2
  have hB1 := hB1.bel hX2
  have hD3 := hD3.bel hX2
  have hb := bel_next hb hX2
  clear hX2
  go_upto_region 3 with (fail)
  refine jq 4 ?_
  refine jn (.pointer (some ⟨g3, 0, none⟩)) ?_
  refine jf (.bool false) hD3 0 load_bool ?_
  refine jm (.bool true) ?_
  refine jn (.pointer (some ⟨g3, 0, none⟩)) ?_
  refine jz fun X3 hX3 => ?_
  have hB0 := hB0.bel hX3
  have hB1 := hB1.bel hX3
  have hD3 := hD3.bel hX3
  have hb := bel_next hb hX3
  clear hX3
  refine op_store1 rfl g3 0 23 _ hD3 (.bool true) (by simp) (fun X u h1 h2 => exec_stb _ _ (by rfl) _ _ (by rfl) (by rfl) u X h1 h2) ?_
  intro w5 hR5 hO5 hB5
  have hb := hB5 _ _ hb (by omega)
  have hB0 := hO5 _ _ _ (by omega) hB0
  have hB1 := hO5 _ _ _ (by omega) hB1
  have hD3 := hR5
  clear hR5 hO5 hB5
  go_upto_region 4 with (fail)
  refine jq 1 ?_
  refine ja hD3 Tryz.underlying23 (by rfl) info_rat ?_
  refine jz fun X4 hX4 => ?_
  have hB0 := hB0.bel hX4
  have hB1 := hB1.bel hX4
  have hD3 := hD3.bel hX4
  have hb := bel_next hb hX4
  clear hX4
  refine osb 23 2 13 (w.heap.size + 1) 23 hB1 [.bool true, .string ⟨(rP x).toArray⟩, .string ⟨(rD x).toArray⟩] info_rat ?_
  intro w9 hR9 hO9 hB9 hs9
  have hb9 := hB9 _ _ hb (by omega)
  clear hO9 hB9
  go_wp2
  refine post_cell rfl rfl (by rfl) Tryz.underlying23 rfl hR9 info_rat ⟨by rw [rbv_of HK.out], hb9⟩
theorem negS (n : Bool) (p q : List UInt8) {x : Rat} (hx : rq n p q = x) (w : World) (h : tz p q 1000000) : Calls Tryz.prog 21 #[.agg #[.bool n, .string ⟨p.toArray⟩, .string ⟨q.toArray⟩]] w fun e w' => e = .returned (rbv (-x)) ∧ Since w w' := by
  by_cases h0 : x = 0
  · exact neg5_z n p q x hx w h (by rw [h0]; rfl) (by rw [h0]; rfl) (show -x = x by rw [h0]; rfl)
  · have he : rP x ≠ [] := fun h9 => h0 ((num_zero x).1 (be_nil.1 h9))
    have hn : x.num ≠ 0 := fun h9 => h0 ((num_zero x).1 (by rw [h9]; rfl))
    have h2 : rP (-x) = rP x := by unfold rP; rw [Rat.neg_num, Int.natAbs_neg]
    have h3 : rD (-x) = rD x := by
      unfold rD
      rw [Rat.neg_num, Rat.neg_den, if_neg hn, if_neg (by omega)]
    rcases hm : rN x with _ | _
    · refine neg5_false n p q x hx w h hm he ⟨?_, h2, h3⟩
      unfold rN at hm ⊢
      rw [Rat.neg_num]
      have := of_decide_eq_false hm
      exact decide_eq_true (by omega)
    · refine neg5_true n p q x hx w h hm he ⟨?_, h2, h3⟩
      unfold rN at hm ⊢
      rw [Rat.neg_num]
      have := of_decide_eq_true hm
      exact decide_eq_false (by omega)
theorem sub5 (n : Bool) (p q : List UInt8) (n' : Bool) (p' q' : List UInt8) (x y : Rat) (HX : Hid (rq n p q = x)) (HY : Hid (rq n' p' q' = y)) (w : World) (h : tz p q 1000000) (h' : tz p' q' 1000000) (sy : szR (-y) 1000000) : Calls Tryz.prog 25 #[.agg #[.bool n, .string ⟨p.toArray⟩, .string ⟨q.toArray⟩], .agg #[.bool n', .string ⟨p'.toArray⟩, .string ⟨q'.toArray⟩]] w fun e w' => e = .returned (rbv (x - y)) ∧ Since w w' := by
  go_enter Tryz.func25, Tryz.ntmps25
  go_upto_region 1 with (fail)
  obtain ⟨W0, hW0, hB0, hB1, hB2, hb⟩ := start3 w 23 23 23 [.bool n, .string ⟨p.toArray⟩, .string ⟨q.toArray⟩] [.bool n', .string ⟨p'.toArray⟩, .string ⟨q'.toArray⟩] [.bool false, .string ⟨#[]⟩, .string ⟨#[]⟩]
  rw [← hW0]
  clear hW0
  refine lx_region_tail [] (by kernel_rfl) (by kernel_rfl) (by kernel_rfl) rfl (lasts_nil) ?_
  simp only [its, List.dropLast, Nat.zero_add, Nat.reduceAdd]
  refine ja hB0 Tryz.underlying23 (by rfl) info_rat ?_
  refine ja hB1 Tryz.underlying23 (by rfl) info_rat ?_
  refine jc (rt (rN (-y)) (rP (-y)) (rD (-y))) (fun X hX hF => negS n' p' q' HY.out X h') ?_
  refine jc (rt (rN (x + (-y))) (rP (x + (-y))) (rD (x + (-y)))) (fun X hX hF => addS n p q (rN (-y)) (rP (-y)) (rD (-y)) HX.out (rq_rb (-y)) X h (tzR sy (by omega))) ?_
  refine jz fun X1 hX1 => ?_
  have hB0 := hB0.bel hX1
  have hB1 := hB1.bel hX1
  have hB2 := hB2.bel hX1
  have hb := bel_next hb hX1
  clear hX1
  refine osb 23 4 8 (w.heap.size + 2) 23 hB2 [.bool (rN (x + (-y))), .string ⟨(rP (x + (-y))).toArray⟩, .string ⟨(rD (x + (-y))).toArray⟩] info_rat ?_
  intro w9 hR9 hO9 hB9 hs9
  have hb9 := hB9 _ _ hb (by omega)
  clear hO9 hB9
  go_wp2
  refine post_cell rfl rfl (by rfl) Tryz.underlying23 rfl hR9 info_rat ⟨by rw [Rat.sub_eq_add_neg], hb9⟩
theorem subV5 (n : Bool) (p q : List UInt8) (n' : Bool) (p' q' : List UInt8) {x : Rat} (hx : rq n p q = x) {y : Rat} (hy : rq n' p' q' = y) (w : World) (h : tz p q 1000000) (h' : tz p' q' 1000000) : Calls Tryz.prog 25 #[.agg #[.bool n, .string ⟨p.toArray⟩, .string ⟨q.toArray⟩], .agg #[.bool n', .string ⟨p'.toArray⟩, .string ⟨q'.toArray⟩]] w fun e w' => e = .returned (rbv (x - y)) ∧ Since w w' := sub5 n p q n' p' q' x y hx hy w h h' (szR_neg (szR_tz hy h'))
theorem mul5_true_true (n : Bool) (p q : List UInt8) (n' : Bool) (p' q' : List UInt8) (x y : Rat) (HX : Hid (rq n p q = x)) (HY : Hid (rq n' p' q' = y)) (w : World) (h : tz p q 1000000) (h' : tz p' q' 1000000) (sx : szR x 1000000) (sy : szR y 1000000) (HM : Hid (rN x = true)) (HN : Hid (rN y = true)) (HK : Hid (mkRat (sg false (x.num.natAbs * y.num.natAbs)) (x.den * y.den) = x * y)) : Calls Tryz.prog 27 #[.agg #[.bool n, .string ⟨p.toArray⟩, .string ⟨q.toArray⟩], .agg #[.bool n', .string ⟨p'.toArray⟩, .string ⟨q'.toArray⟩]] w fun e w' => e = .returned (rbv (x * y)) ∧ Since w w' := by
  have lpq := be_mulL sx.1 sy.1
  have lde := be_mulL sx.2 sy.2
  have l4 := sx.1
  have l5 := sx.2
  have l6 := sy.1
  have l7 := sy.2
  have HDP : Hid (0 < (x.den * y.den)) := Nat.mul_pos (Nat.pos_of_ne_zero x.den_nz) (Nat.pos_of_ne_zero y.den_nz)
  go_enter Tryz.func27, Tryz.ntmps27
  go_upto_region 1 with (fail)
  obtain ⟨W0, hW0, hB0, hB1, hB2, hb⟩ := start3 w 23 23 23 [.bool n, .string ⟨p.toArray⟩, .string ⟨q.toArray⟩] [.bool n', .string ⟨p'.toArray⟩, .string ⟨q'.toArray⟩] [.bool false, .string ⟨#[]⟩, .string ⟨#[]⟩]
  rw [← hW0]
  clear hW0
  refine jq 2 ?_
  refine ja hB0 Tryz.underlying23 (by rfl) info_rat ?_
  refine jc (rt true (rP x) (rD x)) (fun X hX hF => mo (cleanS n p q HX.out X h) (by rw [rbv_n HM.out])) ?_
  refine jz fun X1 hX1 => ?_
  have hB0 := hB0.bel hX1
  have hB1 := hB1.bel hX1
  have hB2 := hB2.bel hX1
  have hb := bel_next hb hX1
  clear hX1
  go_upto_region 2 with (refine osn 23 5 12 #[.bool true, .string ⟨(rP x).toArray⟩, .string ⟨(rD x).toArray⟩] info_rat ?_)
  obtain ⟨Y1, hY9, hD5, hS9⟩ := start1 X1 23 [.bool true, .string ⟨(rP x).toArray⟩, .string ⟨(rD x).toArray⟩]
  rw [← hY9]
  clear hY9
  have hgs5 := hb.size
  have hlt5x0 := hB0.lt
  have hlt5x1 := hB1.lt
  have hlt5x2 := hB2.lt
  have hB0 := hB0.bel hS9
  have hB1 := hB1.bel hS9
  have hB2 := hB2.bel hS9
  have hb := bel_next hb hS9
  clear hS9
  generalize X1.heap.size = g5 at *
  refine jq 2 ?_
  refine ja hB1 Tryz.underlying23 (by rfl) info_rat ?_
  refine jc (rt true (rP y) (rD y)) (fun X hX hF => mo (cleanS n' p' q' HY.out X h') (by rw [rbv_n HN.out])) ?_
  refine jz fun X2 hX2 => ?_
  have hB0 := hB0.bel hX2
  have hB1 := hB1.bel hX2
  have hB2 := hB2.bel hX2
  have hD5 := hD5.bel hX2
  have hb := bel_next hb hX2
  clear hX2
  go_upto_region 3 with (refine osn 23 6 14 #[.bool true, .string ⟨(rP y).toArray⟩, .string ⟨(rD y).toArray⟩] info_rat ?_)
  obtain ⟨Y2, hY9, hD6, hS9⟩ := start1 X2 23 [.bool true, .string ⟨(rP y).toArray⟩, .string ⟨(rD y).toArray⟩]
  rw [← hY9]
  clear hY9
  have hgs6 := hb.size
  have hlt6x0 := hB0.lt
  have hlt6x1 := hB1.lt
  have hlt6x2 := hB2.lt
  have hlt6x3 := hD5.lt
  have hB0 := hB0.bel hS9
  have hB1 := hB1.bel hS9
  have hB2 := hB2.bel hS9
  have hD5 := hD5.bel hS9
  have hb := bel_next hb hS9
  clear hS9
  generalize X2.heap.size = g6 at *
  refine jp ?_
  refine ja hD5 Tryz.underlying23 (by rfl) info_rat ?_
  refine jc (.tuple #[st (be x.num.natAbs), st (be x.den)]) (fun X hX hF => partsN HM.out X) ?_
  refine jm (.tuple #[st (be x.num.natAbs), st (be x.den)]) ?_
  refine jm (st (be x.num.natAbs)) ?_
  refine jm (st (be x.den)) ?_
  refine jm (st (be x.num.natAbs)) ?_
  refine jm (st (be x.den)) ?_
  refine jz fun X3 hX3 => ?_
  have hB0 := hB0.bel hX3
  have hB1 := hB1.bel hX3
  have hB2 := hB2.bel hX3
  have hD5 := hD5.bel hX3
  have hD6 := hD6.bel hX3
  have hb := bel_next hb hX3
  clear hX3
  go_upto_region 4 with (fail)
  refine jp ?_
  refine ja hD6 Tryz.underlying23 (by rfl) info_rat ?_
  refine jc (.tuple #[st (be y.num.natAbs), st (be y.den)]) (fun X hX hF => partsN HN.out X) ?_
  refine jm (.tuple #[st (be y.num.natAbs), st (be y.den)]) ?_
  refine jm (st (be y.num.natAbs)) ?_
  refine jm (st (be y.den)) ?_
  refine jm (st (be y.num.natAbs)) ?_
  refine jm (st (be y.den)) ?_
  refine jz fun X4 hX4 => ?_
  have hB0 := hB0.bel hX4
  have hB1 := hB1.bel hX4
  have hB2 := hB2.bel hX4
  have hD5 := hD5.bel hX4
  have hD6 := hD6.bel hX4
  have hb := bel_next hb hX4
  clear hX4
  go_upto_region 5 with (fail)
  refine lx_region_tail [] (by kernel_rfl) (by kernel_rfl) (by kernel_rfl) rfl (lasts_nil) ?_
  simp only [its, List.dropLast, Nat.zero_add, Nat.reduceAdd]
  refine jn (.pointer (some ⟨g5, 0, none⟩)) ?_
  refine jf (.bool true) hD5 0 load_bool ?_
  refine jn (.pointer (some ⟨g6, 0, none⟩)) ?_
  refine jf (.bool true) hD6 0 load_bool ?_
  refine jm (.bool false) ?_
  refine jm (st (be x.num.natAbs)) ?_
  refine jm (st (be y.num.natAbs)) ?_
  refine jc (st (be (x.num.natAbs * y.num.natAbs))) (fun X hX hF => mo (rmulC (be x.num.natAbs) (be y.num.natAbs) X (by first | omega | decide) (by first | omega | decide)) (by rw [val_be, val_be])) ?_
  refine jm (st (be x.den)) ?_
  refine jm (st (be y.den)) ?_
  refine jc (st (be (x.den * y.den))) (fun X hX hF => mo (rmulC (be x.den) (be y.den) X (by first | omega | decide) (by first | omega | decide)) (by rw [val_be, val_be])) ?_
  refine jc (.agg #[.bool (rN (mkRat (sg false (x.num.natAbs * y.num.natAbs)) (x.den * y.den))), st (rP (mkRat (sg false (x.num.natAbs * y.num.natAbs)) (x.den * y.den))), st (rD (mkRat (sg false (x.num.natAbs * y.num.natAbs)) (x.den * y.den)))]) (fun X hX hF => lowS false (x.num.natAbs * y.num.natAbs) (x.den * y.den) X HDP.out (by first | omega | decide) (by first | omega | decide)) ?_
  refine jz fun X5 hX5 => ?_
  have hB0 := hB0.bel hX5
  have hB1 := hB1.bel hX5
  have hB2 := hB2.bel hX5
  have hD5 := hD5.bel hX5
  have hD6 := hD6.bel hX5
  have hb := bel_next hb hX5
  clear hX5
  refine osb 23 4 36 (w.heap.size + 2) 23 hB2 [.bool (rN (mkRat (sg false (x.num.natAbs * y.num.natAbs)) (x.den * y.den))), .string ⟨(rP (mkRat (sg false (x.num.natAbs * y.num.natAbs)) (x.den * y.den))).toArray⟩, .string ⟨(rD (mkRat (sg false (x.num.natAbs * y.num.natAbs)) (x.den * y.den))).toArray⟩] info_rat ?_
  intro w9 hR9 hO9 hB9 hs9
  have hb9 := hB9 _ _ hb (by omega)
  clear hO9 hB9
  go_wp2
  refine post_cell rfl rfl (by rfl) Tryz.underlying23 rfl hR9 info_rat ⟨by rw [HK.out], hb9⟩
theorem mul5_true_false (n : Bool) (p q : List UInt8) (n' : Bool) (p' q' : List UInt8) (x y : Rat) (HX : Hid (rq n p q = x)) (HY : Hid (rq n' p' q' = y)) (w : World) (h : tz p q 1000000) (h' : tz p' q' 1000000) (sx : szR x 1000000) (sy : szR y 1000000) (HM : Hid (rN x = true)) (HN : Hid (rN y = false)) (HK : Hid (mkRat (sg true (x.num.natAbs * y.num.natAbs)) (x.den * y.den) = x * y)) : Calls Tryz.prog 27 #[.agg #[.bool n, .string ⟨p.toArray⟩, .string ⟨q.toArray⟩], .agg #[.bool n', .string ⟨p'.toArray⟩, .string ⟨q'.toArray⟩]] w fun e w' => e = .returned (rbv (x * y)) ∧ Since w w' := by
  have lpq := be_mulL sx.1 sy.1
  have lde := be_mulL sx.2 sy.2
  have l4 := sx.1
  have l5 := sx.2
  have l6 := sy.1
  have l7 := sy.2
  have HDP : Hid (0 < (x.den * y.den)) := Nat.mul_pos (Nat.pos_of_ne_zero x.den_nz) (Nat.pos_of_ne_zero y.den_nz)
  go_enter Tryz.func27, Tryz.ntmps27
  go_upto_region 1 with (fail)
  obtain ⟨W0, hW0, hB0, hB1, hB2, hb⟩ := start3 w 23 23 23 [.bool n, .string ⟨p.toArray⟩, .string ⟨q.toArray⟩] [.bool n', .string ⟨p'.toArray⟩, .string ⟨q'.toArray⟩] [.bool false, .string ⟨#[]⟩, .string ⟨#[]⟩]
  rw [← hW0]
  clear hW0
  refine jq 2 ?_
  refine ja hB0 Tryz.underlying23 (by rfl) info_rat ?_
  refine jc (rt true (rP x) (rD x)) (fun X hX hF => mo (cleanS n p q HX.out X h) (by rw [rbv_n HM.out])) ?_
  refine jz fun X1 hX1 => ?_
  have hB0 := hB0.bel hX1
  have hB1 := hB1.bel hX1
  have hB2 := hB2.bel hX1
  have hb := bel_next hb hX1
  clear hX1
  go_upto_region 2 with (refine osn 23 5 12 #[.bool true, .string ⟨(rP x).toArray⟩, .string ⟨(rD x).toArray⟩] info_rat ?_)
  obtain ⟨Y1, hY9, hD5, hS9⟩ := start1 X1 23 [.bool true, .string ⟨(rP x).toArray⟩, .string ⟨(rD x).toArray⟩]
  rw [← hY9]
  clear hY9
  have hgs5 := hb.size
  have hlt5x0 := hB0.lt
  have hlt5x1 := hB1.lt
  have hlt5x2 := hB2.lt
  have hB0 := hB0.bel hS9
  have hB1 := hB1.bel hS9
  have hB2 := hB2.bel hS9
  have hb := bel_next hb hS9
  clear hS9
  generalize X1.heap.size = g5 at *
  refine jq 2 ?_
  refine ja hB1 Tryz.underlying23 (by rfl) info_rat ?_
  refine jc (rt false (rP y) (rD y)) (fun X hX hF => mo (cleanS n' p' q' HY.out X h') (by rw [rbv_n HN.out])) ?_
  refine jz fun X2 hX2 => ?_
  have hB0 := hB0.bel hX2
  have hB1 := hB1.bel hX2
  have hB2 := hB2.bel hX2
  have hD5 := hD5.bel hX2
  have hb := bel_next hb hX2
  clear hX2
  go_upto_region 3 with (refine osn 23 6 14 #[.bool false, .string ⟨(rP y).toArray⟩, .string ⟨(rD y).toArray⟩] info_rat ?_)
  obtain ⟨Y2, hY9, hD6, hS9⟩ := start1 X2 23 [.bool false, .string ⟨(rP y).toArray⟩, .string ⟨(rD y).toArray⟩]
  rw [← hY9]
  clear hY9
  have hgs6 := hb.size
  have hlt6x0 := hB0.lt
  have hlt6x1 := hB1.lt
  have hlt6x2 := hB2.lt
  have hlt6x3 := hD5.lt
  have hB0 := hB0.bel hS9
  have hB1 := hB1.bel hS9
  have hB2 := hB2.bel hS9
  have hD5 := hD5.bel hS9
  have hb := bel_next hb hS9
  clear hS9
  generalize X2.heap.size = g6 at *
  refine jp ?_
  refine ja hD5 Tryz.underlying23 (by rfl) info_rat ?_
  refine jc (.tuple #[st (be x.num.natAbs), st (be x.den)]) (fun X hX hF => partsN HM.out X) ?_
  refine jm (.tuple #[st (be x.num.natAbs), st (be x.den)]) ?_
  refine jm (st (be x.num.natAbs)) ?_
  refine jm (st (be x.den)) ?_
  refine jm (st (be x.num.natAbs)) ?_
  refine jm (st (be x.den)) ?_
  refine jz fun X3 hX3 => ?_
  have hB0 := hB0.bel hX3
  have hB1 := hB1.bel hX3
  have hB2 := hB2.bel hX3
  have hD5 := hD5.bel hX3
  have hD6 := hD6.bel hX3
  have hb := bel_next hb hX3
  clear hX3
  go_upto_region 4 with (fail)
  refine jp ?_
  refine ja hD6 Tryz.underlying23 (by rfl) info_rat ?_
  refine jc (.tuple #[st (be y.num.natAbs), st (be y.den)]) (fun X hX hF => partsN HN.out X) ?_
  refine jm (.tuple #[st (be y.num.natAbs), st (be y.den)]) ?_
  refine jm (st (be y.num.natAbs)) ?_
  refine jm (st (be y.den)) ?_
  refine jm (st (be y.num.natAbs)) ?_
  refine jm (st (be y.den)) ?_
  refine jz fun X4 hX4 => ?_
  have hB0 := hB0.bel hX4
  have hB1 := hB1.bel hX4
  have hB2 := hB2.bel hX4
  have hD5 := hD5.bel hX4
  have hD6 := hD6.bel hX4
  have hb := bel_next hb hX4
  clear hX4
  go_upto_region 5 with (fail)
  refine lx_region_tail [] (by kernel_rfl) (by kernel_rfl) (by kernel_rfl) rfl (lasts_nil) ?_
  simp only [its, List.dropLast, Nat.zero_add, Nat.reduceAdd]
  refine jn (.pointer (some ⟨g5, 0, none⟩)) ?_
  refine jf (.bool true) hD5 0 load_bool ?_
  refine jn (.pointer (some ⟨g6, 0, none⟩)) ?_
  refine jf (.bool false) hD6 0 load_bool ?_
  refine jm (.bool true) ?_
  refine jm (st (be x.num.natAbs)) ?_
  refine jm (st (be y.num.natAbs)) ?_
  refine jc (st (be (x.num.natAbs * y.num.natAbs))) (fun X hX hF => mo (rmulC (be x.num.natAbs) (be y.num.natAbs) X (by first | omega | decide) (by first | omega | decide)) (by rw [val_be, val_be])) ?_
  refine jm (st (be x.den)) ?_
  refine jm (st (be y.den)) ?_
  refine jc (st (be (x.den * y.den))) (fun X hX hF => mo (rmulC (be x.den) (be y.den) X (by first | omega | decide) (by first | omega | decide)) (by rw [val_be, val_be])) ?_
  refine jc (.agg #[.bool (rN (mkRat (sg true (x.num.natAbs * y.num.natAbs)) (x.den * y.den))), st (rP (mkRat (sg true (x.num.natAbs * y.num.natAbs)) (x.den * y.den))), st (rD (mkRat (sg true (x.num.natAbs * y.num.natAbs)) (x.den * y.den)))]) (fun X hX hF => lowS true (x.num.natAbs * y.num.natAbs) (x.den * y.den) X HDP.out (by first | omega | decide) (by first | omega | decide)) ?_
  refine jz fun X5 hX5 => ?_
  have hB0 := hB0.bel hX5
  have hB1 := hB1.bel hX5
  have hB2 := hB2.bel hX5
  have hD5 := hD5.bel hX5
  have hD6 := hD6.bel hX5
  have hb := bel_next hb hX5
  clear hX5
  refine osb 23 4 36 (w.heap.size + 2) 23 hB2 [.bool (rN (mkRat (sg true (x.num.natAbs * y.num.natAbs)) (x.den * y.den))), .string ⟨(rP (mkRat (sg true (x.num.natAbs * y.num.natAbs)) (x.den * y.den))).toArray⟩, .string ⟨(rD (mkRat (sg true (x.num.natAbs * y.num.natAbs)) (x.den * y.den))).toArray⟩] info_rat ?_
  intro w9 hR9 hO9 hB9 hs9
  have hb9 := hB9 _ _ hb (by omega)
  clear hO9 hB9
  go_wp2
  refine post_cell rfl rfl (by rfl) Tryz.underlying23 rfl hR9 info_rat ⟨by rw [HK.out], hb9⟩
theorem mul5_false_true (n : Bool) (p q : List UInt8) (n' : Bool) (p' q' : List UInt8) (x y : Rat) (HX : Hid (rq n p q = x)) (HY : Hid (rq n' p' q' = y)) (w : World) (h : tz p q 1000000) (h' : tz p' q' 1000000) (sx : szR x 1000000) (sy : szR y 1000000) (HM : Hid (rN x = false)) (HN : Hid (rN y = true)) (HK : Hid (mkRat (sg true (x.num.natAbs * y.num.natAbs)) (x.den * y.den) = x * y)) : Calls Tryz.prog 27 #[.agg #[.bool n, .string ⟨p.toArray⟩, .string ⟨q.toArray⟩], .agg #[.bool n', .string ⟨p'.toArray⟩, .string ⟨q'.toArray⟩]] w fun e w' => e = .returned (rbv (x * y)) ∧ Since w w' := by
  have lpq := be_mulL sx.1 sy.1
  have lde := be_mulL sx.2 sy.2
  have l4 := sx.1
  have l5 := sx.2
  have l6 := sy.1
  have l7 := sy.2
  have HDP : Hid (0 < (x.den * y.den)) := Nat.mul_pos (Nat.pos_of_ne_zero x.den_nz) (Nat.pos_of_ne_zero y.den_nz)
  go_enter Tryz.func27, Tryz.ntmps27
  go_upto_region 1 with (fail)
  obtain ⟨W0, hW0, hB0, hB1, hB2, hb⟩ := start3 w 23 23 23 [.bool n, .string ⟨p.toArray⟩, .string ⟨q.toArray⟩] [.bool n', .string ⟨p'.toArray⟩, .string ⟨q'.toArray⟩] [.bool false, .string ⟨#[]⟩, .string ⟨#[]⟩]
  rw [← hW0]
  clear hW0
  refine jq 2 ?_
  refine ja hB0 Tryz.underlying23 (by rfl) info_rat ?_
  refine jc (rt false (rP x) (rD x)) (fun X hX hF => mo (cleanS n p q HX.out X h) (by rw [rbv_n HM.out])) ?_
  refine jz fun X1 hX1 => ?_
  have hB0 := hB0.bel hX1
  have hB1 := hB1.bel hX1
  have hB2 := hB2.bel hX1
  have hb := bel_next hb hX1
  clear hX1
  go_upto_region 2 with (refine osn 23 5 12 #[.bool false, .string ⟨(rP x).toArray⟩, .string ⟨(rD x).toArray⟩] info_rat ?_)
  obtain ⟨Y1, hY9, hD5, hS9⟩ := start1 X1 23 [.bool false, .string ⟨(rP x).toArray⟩, .string ⟨(rD x).toArray⟩]
  rw [← hY9]
  clear hY9
  have hgs5 := hb.size
  have hlt5x0 := hB0.lt
  have hlt5x1 := hB1.lt
  have hlt5x2 := hB2.lt
  have hB0 := hB0.bel hS9
  have hB1 := hB1.bel hS9
  have hB2 := hB2.bel hS9
  have hb := bel_next hb hS9
  clear hS9
  generalize X1.heap.size = g5 at *
  refine jq 2 ?_
  refine ja hB1 Tryz.underlying23 (by rfl) info_rat ?_
  refine jc (rt true (rP y) (rD y)) (fun X hX hF => mo (cleanS n' p' q' HY.out X h') (by rw [rbv_n HN.out])) ?_
  refine jz fun X2 hX2 => ?_
  have hB0 := hB0.bel hX2
  have hB1 := hB1.bel hX2
  have hB2 := hB2.bel hX2
  have hD5 := hD5.bel hX2
  have hb := bel_next hb hX2
  clear hX2
  go_upto_region 3 with (refine osn 23 6 14 #[.bool true, .string ⟨(rP y).toArray⟩, .string ⟨(rD y).toArray⟩] info_rat ?_)
  obtain ⟨Y2, hY9, hD6, hS9⟩ := start1 X2 23 [.bool true, .string ⟨(rP y).toArray⟩, .string ⟨(rD y).toArray⟩]
  rw [← hY9]
  clear hY9
  have hgs6 := hb.size
  have hlt6x0 := hB0.lt
  have hlt6x1 := hB1.lt
  have hlt6x2 := hB2.lt
  have hlt6x3 := hD5.lt
  have hB0 := hB0.bel hS9
  have hB1 := hB1.bel hS9
  have hB2 := hB2.bel hS9
  have hD5 := hD5.bel hS9
  have hb := bel_next hb hS9
  clear hS9
  generalize X2.heap.size = g6 at *
  refine jp ?_
  refine ja hD5 Tryz.underlying23 (by rfl) info_rat ?_
  refine jc (.tuple #[st (be x.num.natAbs), st (be x.den)]) (fun X hX hF => partsN HM.out X) ?_
  refine jm (.tuple #[st (be x.num.natAbs), st (be x.den)]) ?_
  refine jm (st (be x.num.natAbs)) ?_
  refine jm (st (be x.den)) ?_
  refine jm (st (be x.num.natAbs)) ?_
  refine jm (st (be x.den)) ?_
  refine jz fun X3 hX3 => ?_
  have hB0 := hB0.bel hX3
  have hB1 := hB1.bel hX3
  have hB2 := hB2.bel hX3
  have hD5 := hD5.bel hX3
  have hD6 := hD6.bel hX3
  have hb := bel_next hb hX3
  clear hX3
  go_upto_region 4 with (fail)
  refine jp ?_
  refine ja hD6 Tryz.underlying23 (by rfl) info_rat ?_
  refine jc (.tuple #[st (be y.num.natAbs), st (be y.den)]) (fun X hX hF => partsN HN.out X) ?_
  refine jm (.tuple #[st (be y.num.natAbs), st (be y.den)]) ?_
  refine jm (st (be y.num.natAbs)) ?_
  refine jm (st (be y.den)) ?_
  refine jm (st (be y.num.natAbs)) ?_
  refine jm (st (be y.den)) ?_
  refine jz fun X4 hX4 => ?_
  have hB0 := hB0.bel hX4
  have hB1 := hB1.bel hX4
  have hB2 := hB2.bel hX4
  have hD5 := hD5.bel hX4
  have hD6 := hD6.bel hX4
  have hb := bel_next hb hX4
  clear hX4
  go_upto_region 5 with (fail)
  refine lx_region_tail [] (by kernel_rfl) (by kernel_rfl) (by kernel_rfl) rfl (lasts_nil) ?_
  simp only [its, List.dropLast, Nat.zero_add, Nat.reduceAdd]
  refine jn (.pointer (some ⟨g5, 0, none⟩)) ?_
  refine jf (.bool false) hD5 0 load_bool ?_
  refine jn (.pointer (some ⟨g6, 0, none⟩)) ?_
  refine jf (.bool true) hD6 0 load_bool ?_
  refine jm (.bool true) ?_
  refine jm (st (be x.num.natAbs)) ?_
  refine jm (st (be y.num.natAbs)) ?_
  refine jc (st (be (x.num.natAbs * y.num.natAbs))) (fun X hX hF => mo (rmulC (be x.num.natAbs) (be y.num.natAbs) X (by first | omega | decide) (by first | omega | decide)) (by rw [val_be, val_be])) ?_
  refine jm (st (be x.den)) ?_
  refine jm (st (be y.den)) ?_
  refine jc (st (be (x.den * y.den))) (fun X hX hF => mo (rmulC (be x.den) (be y.den) X (by first | omega | decide) (by first | omega | decide)) (by rw [val_be, val_be])) ?_
  refine jc (.agg #[.bool (rN (mkRat (sg true (x.num.natAbs * y.num.natAbs)) (x.den * y.den))), st (rP (mkRat (sg true (x.num.natAbs * y.num.natAbs)) (x.den * y.den))), st (rD (mkRat (sg true (x.num.natAbs * y.num.natAbs)) (x.den * y.den)))]) (fun X hX hF => lowS true (x.num.natAbs * y.num.natAbs) (x.den * y.den) X HDP.out (by first | omega | decide) (by first | omega | decide)) ?_
  refine jz fun X5 hX5 => ?_
  have hB0 := hB0.bel hX5
  have hB1 := hB1.bel hX5
  have hB2 := hB2.bel hX5
  have hD5 := hD5.bel hX5
  have hD6 := hD6.bel hX5
  have hb := bel_next hb hX5
  clear hX5
  refine osb 23 4 36 (w.heap.size + 2) 23 hB2 [.bool (rN (mkRat (sg true (x.num.natAbs * y.num.natAbs)) (x.den * y.den))), .string ⟨(rP (mkRat (sg true (x.num.natAbs * y.num.natAbs)) (x.den * y.den))).toArray⟩, .string ⟨(rD (mkRat (sg true (x.num.natAbs * y.num.natAbs)) (x.den * y.den))).toArray⟩] info_rat ?_
  intro w9 hR9 hO9 hB9 hs9
  have hb9 := hB9 _ _ hb (by omega)
  clear hO9 hB9
  go_wp2
  refine post_cell rfl rfl (by rfl) Tryz.underlying23 rfl hR9 info_rat ⟨by rw [HK.out], hb9⟩
theorem mul5_false_false (n : Bool) (p q : List UInt8) (n' : Bool) (p' q' : List UInt8) (x y : Rat) (HX : Hid (rq n p q = x)) (HY : Hid (rq n' p' q' = y)) (w : World) (h : tz p q 1000000) (h' : tz p' q' 1000000) (sx : szR x 1000000) (sy : szR y 1000000) (HM : Hid (rN x = false)) (HN : Hid (rN y = false)) (HK : Hid (mkRat (sg false (x.num.natAbs * y.num.natAbs)) (x.den * y.den) = x * y)) : Calls Tryz.prog 27 #[.agg #[.bool n, .string ⟨p.toArray⟩, .string ⟨q.toArray⟩], .agg #[.bool n', .string ⟨p'.toArray⟩, .string ⟨q'.toArray⟩]] w fun e w' => e = .returned (rbv (x * y)) ∧ Since w w' := by
  have lpq := be_mulL sx.1 sy.1
  have lde := be_mulL sx.2 sy.2
  have l4 := sx.1
  have l5 := sx.2
  have l6 := sy.1
  have l7 := sy.2
  have HDP : Hid (0 < (x.den * y.den)) := Nat.mul_pos (Nat.pos_of_ne_zero x.den_nz) (Nat.pos_of_ne_zero y.den_nz)
  go_enter Tryz.func27, Tryz.ntmps27
  go_upto_region 1 with (fail)
  obtain ⟨W0, hW0, hB0, hB1, hB2, hb⟩ := start3 w 23 23 23 [.bool n, .string ⟨p.toArray⟩, .string ⟨q.toArray⟩] [.bool n', .string ⟨p'.toArray⟩, .string ⟨q'.toArray⟩] [.bool false, .string ⟨#[]⟩, .string ⟨#[]⟩]
  rw [← hW0]
  clear hW0
  refine jq 2 ?_
  refine ja hB0 Tryz.underlying23 (by rfl) info_rat ?_
  refine jc (rt false (rP x) (rD x)) (fun X hX hF => mo (cleanS n p q HX.out X h) (by rw [rbv_n HM.out])) ?_
  refine jz fun X1 hX1 => ?_
  have hB0 := hB0.bel hX1
  have hB1 := hB1.bel hX1
  have hB2 := hB2.bel hX1
  have hb := bel_next hb hX1
  clear hX1
  go_upto_region 2 with (refine osn 23 5 12 #[.bool false, .string ⟨(rP x).toArray⟩, .string ⟨(rD x).toArray⟩] info_rat ?_)
  obtain ⟨Y1, hY9, hD5, hS9⟩ := start1 X1 23 [.bool false, .string ⟨(rP x).toArray⟩, .string ⟨(rD x).toArray⟩]
  rw [← hY9]
  clear hY9
  have hgs5 := hb.size
  have hlt5x0 := hB0.lt
  have hlt5x1 := hB1.lt
  have hlt5x2 := hB2.lt
  have hB0 := hB0.bel hS9
  have hB1 := hB1.bel hS9
  have hB2 := hB2.bel hS9
  have hb := bel_next hb hS9
  clear hS9
  generalize X1.heap.size = g5 at *
  refine jq 2 ?_
  refine ja hB1 Tryz.underlying23 (by rfl) info_rat ?_
  refine jc (rt false (rP y) (rD y)) (fun X hX hF => mo (cleanS n' p' q' HY.out X h') (by rw [rbv_n HN.out])) ?_
  refine jz fun X2 hX2 => ?_
  have hB0 := hB0.bel hX2
  have hB1 := hB1.bel hX2
  have hB2 := hB2.bel hX2
  have hD5 := hD5.bel hX2
  have hb := bel_next hb hX2
  clear hX2
  go_upto_region 3 with (refine osn 23 6 14 #[.bool false, .string ⟨(rP y).toArray⟩, .string ⟨(rD y).toArray⟩] info_rat ?_)
  obtain ⟨Y2, hY9, hD6, hS9⟩ := start1 X2 23 [.bool false, .string ⟨(rP y).toArray⟩, .string ⟨(rD y).toArray⟩]
  rw [← hY9]
  clear hY9
  have hgs6 := hb.size
  have hlt6x0 := hB0.lt
  have hlt6x1 := hB1.lt
  have hlt6x2 := hB2.lt
  have hlt6x3 := hD5.lt
  have hB0 := hB0.bel hS9
  have hB1 := hB1.bel hS9
  have hB2 := hB2.bel hS9
  have hD5 := hD5.bel hS9
  have hb := bel_next hb hS9
  clear hS9
  generalize X2.heap.size = g6 at *
  refine jp ?_
  refine ja hD5 Tryz.underlying23 (by rfl) info_rat ?_
  refine jc (.tuple #[st (be x.num.natAbs), st (be x.den)]) (fun X hX hF => partsN HM.out X) ?_
  refine jm (.tuple #[st (be x.num.natAbs), st (be x.den)]) ?_
  refine jm (st (be x.num.natAbs)) ?_
  refine jm (st (be x.den)) ?_
  refine jm (st (be x.num.natAbs)) ?_
  refine jm (st (be x.den)) ?_
  refine jz fun X3 hX3 => ?_
  have hB0 := hB0.bel hX3
  have hB1 := hB1.bel hX3
  have hB2 := hB2.bel hX3
  have hD5 := hD5.bel hX3
  have hD6 := hD6.bel hX3
  have hb := bel_next hb hX3
  clear hX3
  go_upto_region 4 with (fail)
  refine jp ?_
  refine ja hD6 Tryz.underlying23 (by rfl) info_rat ?_
  refine jc (.tuple #[st (be y.num.natAbs), st (be y.den)]) (fun X hX hF => partsN HN.out X) ?_
  refine jm (.tuple #[st (be y.num.natAbs), st (be y.den)]) ?_
  refine jm (st (be y.num.natAbs)) ?_
  refine jm (st (be y.den)) ?_
  refine jm (st (be y.num.natAbs)) ?_
  refine jm (st (be y.den)) ?_
  refine jz fun X4 hX4 => ?_
  have hB0 := hB0.bel hX4
  have hB1 := hB1.bel hX4
  have hB2 := hB2.bel hX4
  have hD5 := hD5.bel hX4
  have hD6 := hD6.bel hX4
  have hb := bel_next hb hX4
  clear hX4
  go_upto_region 5 with (fail)
  refine lx_region_tail [] (by kernel_rfl) (by kernel_rfl) (by kernel_rfl) rfl (lasts_nil) ?_
  simp only [its, List.dropLast, Nat.zero_add, Nat.reduceAdd]
  refine jn (.pointer (some ⟨g5, 0, none⟩)) ?_
  refine jf (.bool false) hD5 0 load_bool ?_
  refine jn (.pointer (some ⟨g6, 0, none⟩)) ?_
  refine jf (.bool false) hD6 0 load_bool ?_
  refine jm (.bool false) ?_
  refine jm (st (be x.num.natAbs)) ?_
  refine jm (st (be y.num.natAbs)) ?_
  refine jc (st (be (x.num.natAbs * y.num.natAbs))) (fun X hX hF => mo (rmulC (be x.num.natAbs) (be y.num.natAbs) X (by first | omega | decide) (by first | omega | decide)) (by rw [val_be, val_be])) ?_
  refine jm (st (be x.den)) ?_
  refine jm (st (be y.den)) ?_
  refine jc (st (be (x.den * y.den))) (fun X hX hF => mo (rmulC (be x.den) (be y.den) X (by first | omega | decide) (by first | omega | decide)) (by rw [val_be, val_be])) ?_
  refine jc (.agg #[.bool (rN (mkRat (sg false (x.num.natAbs * y.num.natAbs)) (x.den * y.den))), st (rP (mkRat (sg false (x.num.natAbs * y.num.natAbs)) (x.den * y.den))), st (rD (mkRat (sg false (x.num.natAbs * y.num.natAbs)) (x.den * y.den)))]) (fun X hX hF => lowS false (x.num.natAbs * y.num.natAbs) (x.den * y.den) X HDP.out (by first | omega | decide) (by first | omega | decide)) ?_
  refine jz fun X5 hX5 => ?_
  have hB0 := hB0.bel hX5
  have hB1 := hB1.bel hX5
  have hB2 := hB2.bel hX5
  have hD5 := hD5.bel hX5
  have hD6 := hD6.bel hX5
  have hb := bel_next hb hX5
  clear hX5
  refine osb 23 4 36 (w.heap.size + 2) 23 hB2 [.bool (rN (mkRat (sg false (x.num.natAbs * y.num.natAbs)) (x.den * y.den))), .string ⟨(rP (mkRat (sg false (x.num.natAbs * y.num.natAbs)) (x.den * y.den))).toArray⟩, .string ⟨(rD (mkRat (sg false (x.num.natAbs * y.num.natAbs)) (x.den * y.den))).toArray⟩] info_rat ?_
  intro w9 hR9 hO9 hB9 hs9
  have hb9 := hB9 _ _ hb (by omega)
  clear hO9 hB9
  go_wp2
  refine post_cell rfl rfl (by rfl) Tryz.underlying23 rfl hR9 info_rat ⟨by rw [HK.out], hb9⟩
theorem mulS (n : Bool) (p q : List UInt8) (n' : Bool) (p' q' : List UInt8) {x : Rat} (hx : rq n p q = x) {y : Rat} (hy : rq n' p' q' = y) (w : World) (h : tz p q 1000000) (h' : tz p' q' 1000000) : Calls Tryz.prog 27 #[.agg #[.bool n, .string ⟨p.toArray⟩, .string ⟨q.toArray⟩], .agg #[.bool n', .string ⟨p'.toArray⟩, .string ⟨q'.toArray⟩]] w fun e w' => e = .returned (rbv (x * y)) ∧ Since w w' := by
  have sx := szR_tz hx h
  have sy := szR_tz hy h'
  have key := mul_fr (rN x) (rN y) x.num.natAbs y.num.natAbs x.den y.den
  rw [rb_mk, rb_mk] at key
  rcases hm : rN x with _ | _ <;> rcases hn : rN y with _ | _ <;> rw [hm, hn] at key
  · exact mul5_false_false n p q n' p' q' x y hx hy w h h' sx sy hm hn key.symm
  · exact mul5_false_true n p q n' p' q' x y hx hy w h h' sx sy hm hn key.symm
  · exact mul5_true_false n p q n' p' q' x y hx hy w h h' sx sy hm hn key.symm
  · exact mul5_true_true n p q n' p' q' x y hx hy w h h' sx sy hm hn key.symm
theorem cmp5_e (n : Bool) (p q : List UInt8) (n' : Bool) (p' q' : List UInt8) (x y : Rat) (HX : Hid (rq n p q = x)) (HY : Hid (rq n' p' q' = y)) (w : World) (h : tz p q 1000000) (h' : tz p' q' 1000000) (HE : Hid (rP (x - y) = [])) (HC : Hid (cmpR x y = 0)) : Calls Tryz.prog 29 #[.agg #[.bool n, .string ⟨p.toArray⟩, .string ⟨q.toArray⟩], .agg #[.bool n', .string ⟨p'.toArray⟩, .string ⟨q'.toArray⟩]] w fun e w' => e = .returned (.int .i64 (cmpR x y)) ∧ Since w w' := by
  go_enter Tryz.func29, Tryz.ntmps29
  go_upto_region 1 with (fail)
  obtain ⟨W0, hW0, hB0, hB1, hb⟩ := start2 w 23 23 [.bool n, .string ⟨p.toArray⟩, .string ⟨q.toArray⟩] [.bool n', .string ⟨p'.toArray⟩, .string ⟨q'.toArray⟩]
  rw [← hW0]
  clear hW0
  refine jq 3 ?_
  refine ja hB0 Tryz.underlying23 (by rfl) info_rat ?_
  refine ja hB1 Tryz.underlying23 (by rfl) info_rat ?_
  refine jc (rt (rN (x - y)) (rP (x - y)) (rD (x - y))) (fun X hX hF => subV5 n p q n' p' q' HX.out HY.out X h h') ?_
  refine jz fun X1 hX1 => ?_
  have hB0 := hB0.bel hX1
  have hB1 := hB1.bel hX1
  have hb := bel_next hb hX1
  clear hX1
  go_upto_region 2 with (refine osn 23 5 8 #[.bool (rN (x - y)), .string ⟨(rP (x - y)).toArray⟩, .string ⟨(rD (x - y)).toArray⟩] info_rat ?_)
  obtain ⟨Y1, hY9, hD5, hS9⟩ := start1 X1 23 [.bool (rN (x - y)), .string ⟨(rP (x - y)).toArray⟩, .string ⟨(rD (x - y)).toArray⟩]
  rw [← hY9]
  clear hY9
  have hgs5 := hb.size
  have hlt5x0 := hB0.lt
  have hlt5x1 := hB1.lt
  have hB0 := hB0.bel hS9
  have hB1 := hB1.bel hS9
  have hb := bel_next hb hS9
  clear hS9
  generalize X1.heap.size = g5 at *
  refine jp ?_
  refine jn (.pointer (some ⟨g5, 1, none⟩)) ?_
  refine jf (st (rP (x - y))) hD5 1 load_str ?_
  refine jv (.bool true) (exec_eqsB _ _ _ _ (by rfl) (rP (x - y)) ([] : List UInt8) (by rfl) (by rfl) true (eqs_t HE.out)) ?_
  refine jz fun X2 hX2 => ?_
  have hB0 := hB0.bel hX2
  have hB1 := hB1.bel hX2
  have hD5 := hD5.bel hX2
  have hb := bel_next hb hX2
  clear hX2
  go_wp2
  go_ret
  exact ⟨by rw [HC.out]; rfl, hb⟩
theorem cmp5_l (n : Bool) (p q : List UInt8) (n' : Bool) (p' q' : List UInt8) (x y : Rat) (HX : Hid (rq n p q = x)) (HY : Hid (rq n' p' q' = y)) (w : World) (h : tz p q 1000000) (h' : tz p' q' 1000000) (HE : Hid (rP (x - y) ≠ [])) (HM : Hid (rN (x - y) = true)) (HC : Hid (cmpR x y = -1)) : Calls Tryz.prog 29 #[.agg #[.bool n, .string ⟨p.toArray⟩, .string ⟨q.toArray⟩], .agg #[.bool n', .string ⟨p'.toArray⟩, .string ⟨q'.toArray⟩]] w fun e w' => e = .returned (.int .i64 (cmpR x y)) ∧ Since w w' := by
  go_enter Tryz.func29, Tryz.ntmps29
  go_upto_region 1 with (fail)
  obtain ⟨W0, hW0, hB0, hB1, hb⟩ := start2 w 23 23 [.bool n, .string ⟨p.toArray⟩, .string ⟨q.toArray⟩] [.bool n', .string ⟨p'.toArray⟩, .string ⟨q'.toArray⟩]
  rw [← hW0]
  clear hW0
  refine jq 3 ?_
  refine ja hB0 Tryz.underlying23 (by rfl) info_rat ?_
  refine ja hB1 Tryz.underlying23 (by rfl) info_rat ?_
  refine jc (rt true (rP (x - y)) (rD (x - y))) (fun X hX hF => mo (subV5 n p q n' p' q' HX.out HY.out X h h') (by rw [rbv_n HM.out])) ?_
  refine jz fun X1 hX1 => ?_
  have hB0 := hB0.bel hX1
  have hB1 := hB1.bel hX1
  have hb := bel_next hb hX1
  clear hX1
  go_upto_region 2 with (refine osn 23 5 8 #[.bool true, .string ⟨(rP (x - y)).toArray⟩, .string ⟨(rD (x - y)).toArray⟩] info_rat ?_)
  obtain ⟨Y1, hY9, hD5, hS9⟩ := start1 X1 23 [.bool true, .string ⟨(rP (x - y)).toArray⟩, .string ⟨(rD (x - y)).toArray⟩]
  rw [← hY9]
  clear hY9
  have hgs5 := hb.size
  have hlt5x0 := hB0.lt
  have hlt5x1 := hB1.lt
  have hB0 := hB0.bel hS9
  have hB1 := hB1.bel hS9
  have hb := bel_next hb hS9
  clear hS9
  generalize X1.heap.size = g5 at *
  refine jp ?_
  refine jn (.pointer (some ⟨g5, 1, none⟩)) ?_
  refine jf (st (rP (x - y))) hD5 1 load_str ?_
  refine jv (.bool false) (exec_eqsB _ _ _ _ (by rfl) (rP (x - y)) ([] : List UInt8) (by rfl) (by rfl) false (eqs_f HE.out)) ?_
  refine jz fun X2 hX2 => ?_
  have hB0 := hB0.bel hX2
  have hB1 := hB1.bel hX2
  have hD5 := hD5.bel hX2
  have hb := bel_next hb hX2
  clear hX2
  go_upto_region 4 with (fail)
  refine jp ?_
  refine jn (.pointer (some ⟨g5, 0, none⟩)) ?_
  refine jf (.bool true) hD5 0 load_bool ?_
  refine jz fun X3 hX3 => ?_
  have hB0 := hB0.bel hX3
  have hB1 := hB1.bel hX3
  have hD5 := hD5.bel hX3
  have hb := bel_next hb hX3
  clear hX3
  go_wp2
  go_ret
  exact ⟨by rw [HC.out]; rfl, hb⟩
theorem cmp5_g (n : Bool) (p q : List UInt8) (n' : Bool) (p' q' : List UInt8) (x y : Rat) (HX : Hid (rq n p q = x)) (HY : Hid (rq n' p' q' = y)) (w : World) (h : tz p q 1000000) (h' : tz p' q' 1000000) (HE : Hid (rP (x - y) ≠ [])) (HM : Hid (rN (x - y) = false)) (HC : Hid (cmpR x y = 1)) : Calls Tryz.prog 29 #[.agg #[.bool n, .string ⟨p.toArray⟩, .string ⟨q.toArray⟩], .agg #[.bool n', .string ⟨p'.toArray⟩, .string ⟨q'.toArray⟩]] w fun e w' => e = .returned (.int .i64 (cmpR x y)) ∧ Since w w' := by
  go_enter Tryz.func29, Tryz.ntmps29
  go_upto_region 1 with (fail)
  obtain ⟨W0, hW0, hB0, hB1, hb⟩ := start2 w 23 23 [.bool n, .string ⟨p.toArray⟩, .string ⟨q.toArray⟩] [.bool n', .string ⟨p'.toArray⟩, .string ⟨q'.toArray⟩]
  rw [← hW0]
  clear hW0
  refine jq 3 ?_
  refine ja hB0 Tryz.underlying23 (by rfl) info_rat ?_
  refine ja hB1 Tryz.underlying23 (by rfl) info_rat ?_
  refine jc (rt false (rP (x - y)) (rD (x - y))) (fun X hX hF => mo (subV5 n p q n' p' q' HX.out HY.out X h h') (by rw [rbv_n HM.out])) ?_
  refine jz fun X1 hX1 => ?_
  have hB0 := hB0.bel hX1
  have hB1 := hB1.bel hX1
  have hb := bel_next hb hX1
  clear hX1
  go_upto_region 2 with (refine osn 23 5 8 #[.bool false, .string ⟨(rP (x - y)).toArray⟩, .string ⟨(rD (x - y)).toArray⟩] info_rat ?_)
  obtain ⟨Y1, hY9, hD5, hS9⟩ := start1 X1 23 [.bool false, .string ⟨(rP (x - y)).toArray⟩, .string ⟨(rD (x - y)).toArray⟩]
  rw [← hY9]
  clear hY9
  have hgs5 := hb.size
  have hlt5x0 := hB0.lt
  have hlt5x1 := hB1.lt
  have hB0 := hB0.bel hS9
  have hB1 := hB1.bel hS9
  have hb := bel_next hb hS9
  clear hS9
  generalize X1.heap.size = g5 at *
  refine jp ?_
  refine jn (.pointer (some ⟨g5, 1, none⟩)) ?_
  refine jf (st (rP (x - y))) hD5 1 load_str ?_
  refine jv (.bool false) (exec_eqsB _ _ _ _ (by rfl) (rP (x - y)) ([] : List UInt8) (by rfl) (by rfl) false (eqs_f HE.out)) ?_
  refine jz fun X2 hX2 => ?_
  have hB0 := hB0.bel hX2
  have hB1 := hB1.bel hX2
  have hD5 := hD5.bel hX2
  have hb := bel_next hb hX2
  clear hX2
  go_upto_region 4 with (fail)
  refine jp ?_
  refine jn (.pointer (some ⟨g5, 0, none⟩)) ?_
  refine jf (.bool false) hD5 0 load_bool ?_
  refine jz fun X3 hX3 => ?_
  have hB0 := hB0.bel hX3
  have hB1 := hB1.bel hX3
  have hD5 := hD5.bel hX3
  have hb := bel_next hb hX3
  clear hX3
  go_wp2
  go_ret
  exact ⟨by rw [HC.out]; rfl, hb⟩
theorem num_neg5 {x : Rat} : x.num < 0 ↔ x < 0 := by
  rw [Rat.lt_iff]
  show _ ↔ x.num * ((1 : Nat) : Int) < 0 * (x.den : Int)
  omega
theorem cmpS (n : Bool) (p q : List UInt8) (n' : Bool) (p' q' : List UInt8) {x : Rat} (hx : rq n p q = x) {y : Rat} (hy : rq n' p' q' = y) (w : World) (h : tz p q 1000000) (h' : tz p' q' 1000000) : Calls Tryz.prog 29 #[.agg #[.bool n, .string ⟨p.toArray⟩, .string ⟨q.toArray⟩], .agg #[.bool n', .string ⟨p'.toArray⟩, .string ⟨q'.toArray⟩]] w fun e w' => e = .returned (.int .i64 (cmpR x y)) ∧ Since w w' := by
  have hne : x ≠ y → rP (x - y) ≠ [] := fun h0 h9 => h0 (sub_zero_iff.1 ((num_zero _).1 (be_nil.1 h9)))
  rcases rtri x y with h1 | h1 | h1
  · exact cmp5_l n p q n' p' q' x y hx hy w h h' (hne (by grind)) (decide_eq_true (num_neg5.2 (sub_neg.2 h1))) (cmpR_lt.2 h1)
  · exact cmp5_e n p q n' p' q' x y hx hy w h h' (by rw [sub_zero_iff.2 h1]; rfl) (cmpR_eq.2 h1)
  · exact cmp5_g n p q n' p' q' x y hx hy w h h' (hne (by grind)) (decide_eq_false (fun h9 => by have := num_neg5.1 h9; have := sub_neg.1 this; grind)) (cmpR_gt.2 h1)
end Go.Proofs.YtchhlgcakjjncaaGreatDoor
