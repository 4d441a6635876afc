/-
  The reference of layer 5: integers, operations, order, rounding.
-/
import Derived.Test.YtchhlgcakjjncaaGreatDoorR5a
import Derived.Test.YtchhlgcakjjncaaGreatDoorRin
import Derived.Test.YtchhlgcakjjncaaGreatDoorRva
import Derived.Test.YtchhlgcakjjncaaGreatDoorPl05o
set_option linter.unusedSimpArgs false
set_option linter.unusedVariables false
set_option maxRecDepth 100000
set_option maxHeartbeats 1600000
namespace Go.Proofs.YtchhlgcakjjncaaGreatDoor
open Go.RowKit

theorem info_made5 : (Tryz.prog.info? 31).map (·.size) = some 4 := by kernel_rfl
theorem info_cnt5 : (Tryz.prog.info? 38).map (·.size) = some 2 := by kernel_rfl
theorem info_div4 : (Tryz.prog.info? 98).map (·.size) = some 3 := by kernel_rfl
theorem load_err (b k : Nat) (X : World) (v : Value) (h : X.cell? ⟨b, k, none⟩ = some v) : (loadVar 27 ⟨b, k, none⟩).run Tryz.prog X = .ok v X := by
  go_simp
/-- A load of a struct that lies within a greater one. -/
theorem exec_inr {P : Program} {f : Operand → Value} {o : Oper} (T : TypeId) (x : Operand) (ho : o.op = .load T x) (g k : Nat) (xs : List Value) (hx : f x = .pointer (some ⟨g, k, none⟩)) {d : TypeDesc} (hu : P.underlying T = some d)
    (hag : (match d with | .struct _ | .array _ _ => true | _ => false) = true) {t : TypeId} {cs : List Value} (X : World) (hB : Blk X g t cs) (hs : (cs.drop k).take xs.length = xs) (hi : (P.info? T).map (·.size) = some xs.length) : (execOp f o).run P X = .ok (.value (.agg xs.toArray)) X := by
  have hc : Cl X g k xs := fun j u hj => by
    refine hB.cell ?_
    have hl : j < xs.length := (List.getElem?_eq_some_iff.1 hj).1
    rw [← hs, List.getElem?_take_of_lt hl, List.getElem?_drop] at hj
    exact hj
  unfold execOp
  simp only [ho, hx, Instr.loadAt, Instr.sureAddr, Sem.run_bind, Sem.run_pure, Result.andThen_ok, run_loadVar_cl T d g k xs hc hu hag hi]
theorem rintI (m : Int) (k : Nat) (w : World) (h : m = (k : Int)) (hk : k < 9223372036854775808) : Calls Tryz.prog 97 #[.int .i64 m] w fun e w' => e = .returned (.agg #[.string ⟨(be k).toArray⟩, .int .i64 0]) ∧ Since w w' := by
  subst h
  exact rintC k w hk
theorem nat5_1 (m : Int) (w : World) (hm : insB m = true) (h : m < 0) : Calls Tryz.prog 60 #[.int .i64 m] w fun e w' => e = .returned (.string ⟨(be m.natAbs).toArray⟩) ∧ Since w w' := by
  have hbd := insB_t hm
  go_enter Tryz.func60, Tryz.ntmps60
  go_upto_region 1 with (fail)
  refine jp ?_
  refine jm (.int .i64 m) ?_
  refine jv (.bool true) (exec_lss _ _ _ _ (by rfl) .i64 m 0 (by rfl) (by rfl) true (decide_eq_true (by omega))) ?_
  refine jz fun X1 hX1 => ?_
  have hb : Below w.heap.size w X1 := hX1
  clear hX1
  go_upto_region 2 with (fail)
  refine jp ?_
  refine jm (.int .i64 m) ?_
  refine jv (.int .i64 (-m)) (exec_neg _ _ (by rfl) m (-m) (by rfl) rfl (by omega) (by omega)) ?_
  refine jm (.int .i64 (-m)) ?_
  refine jz fun X2 hX2 => ?_
  have hb := bel_next hb hX2
  clear hX2
  go_upto_region 3 with (fail)
  refine jp ?_
  refine jm (.int .i64 (-m)) ?_
  refine jc (.agg #[st (be m.natAbs), .int .i64 0]) (fun X hX hF => rintI (-m) m.natAbs X (by omega) (by omega)) ?_
  refine jm (st (be m.natAbs)) ?_
  refine jm (st (be m.natAbs)) ?_
  refine jz fun X3 hX3 => ?_
  have hb := bel_next hb hX3
  clear hX3
  go_wp2
  go_ret
  exact ⟨rfl, hb⟩

theorem nat5_0 (m : Int) (w : World) (hm : insB m = true) (h : 0 ≤ m) : Calls Tryz.prog 60 #[.int .i64 m] w fun e w' => e = .returned (.string ⟨(be m.natAbs).toArray⟩) ∧ Since w w' := by
  have hbd := insB_t hm
  go_enter Tryz.func60, Tryz.ntmps60
  go_upto_region 1 with (fail)
  refine jp ?_
  refine jm (.int .i64 m) ?_
  refine jv (.bool false) (exec_lss _ _ _ _ (by rfl) .i64 m 0 (by rfl) (by rfl) false (decide_eq_false (by omega))) ?_
  refine jz fun X1 hX1 => ?_
  have hb : Below w.heap.size w X1 := hX1
  clear hX1
  go_upto_region 3 with (fail)
  refine jp ?_
  refine jm (.int .i64 m) ?_
  refine jc (.agg #[st (be m.natAbs), .int .i64 0]) (fun X hX hF => rintI m m.natAbs X (by omega) (by omega)) ?_
  refine jm (st (be m.natAbs)) ?_
  refine jm (st (be m.natAbs)) ?_
  refine jz fun X2 hX2 => ?_
  have hb := bel_next hb hX2
  clear hX2
  go_wp2
  go_ret
  exact ⟨rfl, hb⟩

theorem natS (m : Int) (w : World) (hm : insB m = true) : Calls Tryz.prog 60 #[.int .i64 m] w fun e w' => e = .returned (.string ⟨(be m.natAbs).toArray⟩) ∧ Since w w' := by
  by_cases h : m < 0
  · exact nat5_1 m w hm h
  · exact nat5_0 m w hm (by omega)

theorem ins50 (n : Int) (w : World) (h : n < -999999999999999) : Calls Tryz.prog 58 #[.int .i64 n] w fun e w' => e = .returned (.bool (insB n)) ∧ Since w w' := by
  have HI : Hid (insB n = false) := by unfold insB; exact decide_eq_false (by omega)
  go_enter Tryz.func58, Tryz.ntmps58
  go_upto_region 1 with (fail)
  refine jp ?_
  refine jm (.int .i64 n) ?_
  refine jv (.bool false) (exec_geq _ _ _ _ (by rfl) .i64 n (-999999999999999) (by rfl) (by rfl) false (decide_eq_false (by omega))) ?_
  refine jm (.bool false) ?_
  refine js ?_
  refine js ?_
  refine jm (.bool false) ?_
  refine jm (.bool false) ?_
  refine jz fun X1 hX1 => ?_
  have hb : Below w.heap.size w X1 := hX1
  clear hX1
  go_wp2
  go_ret
  exact ⟨by rw [HI.out]; rfl, hb⟩

theorem ins51 (n : Int) (w : World) (h : 999999999999999 < n) : Calls Tryz.prog 58 #[.int .i64 n] w fun e w' => e = .returned (.bool (insB n)) ∧ Since w w' := by
  have HI : Hid (insB n = false) := by unfold insB; exact decide_eq_false (by omega)
  go_enter Tryz.func58, Tryz.ntmps58
  go_upto_region 1 with (fail)
  refine jp ?_
  refine jm (.int .i64 n) ?_
  refine jv (.bool true) (exec_geq _ _ _ _ (by rfl) .i64 n (-999999999999999) (by rfl) (by rfl) true (decide_eq_true (by omega))) ?_
  refine jm (.bool true) ?_
  refine jm (.int .i64 n) ?_
  refine jv (.bool false) (exec_leq _ _ _ _ (by rfl) .i64 n 999999999999999 (by rfl) (by rfl) false (decide_eq_false (by omega))) ?_
  refine jm (.bool false) ?_
  refine jm (.bool false) ?_
  refine jz fun X1 hX1 => ?_
  have hb : Below w.heap.size w X1 := hX1
  clear hX1
  go_wp2
  go_ret
  exact ⟨by rw [HI.out]; rfl, hb⟩

theorem ins52 (n : Int) (w : World) (h1 : -999999999999999 ≤ n) (h2 : n ≤ 999999999999999) : Calls Tryz.prog 58 #[.int .i64 n] w fun e w' => e = .returned (.bool (insB n)) ∧ Since w w' := by
  have HI : Hid (insB n = true) := by unfold insB; exact decide_eq_true (by omega)
  go_enter Tryz.func58, Tryz.ntmps58
  go_upto_region 1 with (fail)
  refine jp ?_
  refine jm (.int .i64 n) ?_
  refine jv (.bool true) (exec_geq _ _ _ _ (by rfl) .i64 n (-999999999999999) (by rfl) (by rfl) true (decide_eq_true (by omega))) ?_
  refine jm (.bool true) ?_
  refine jm (.int .i64 n) ?_
  refine jv (.bool true) (exec_leq _ _ _ _ (by rfl) .i64 n 999999999999999 (by rfl) (by rfl) true (decide_eq_true (by omega))) ?_
  refine jm (.bool true) ?_
  refine jm (.bool true) ?_
  refine jz fun X1 hX1 => ?_
  have hb : Below w.heap.size w X1 := hX1
  clear hX1
  go_wp2
  go_ret
  exact ⟨by rw [HI.out]; rfl, hb⟩

theorem insS (n : Int) (w : World) : Calls Tryz.prog 58 #[.int .i64 n] w fun e w' => e = .returned (.bool (insB n)) ∧ Since w w' := by
  by_cases h1 : n < -999999999999999
  · exact ins50 n w h1
  · by_cases h2 : 999999999999999 < n
    · exact ins51 n w h2
    · exact ins52 n w (by omega) (by omega)

theorem make5_r1 (m n : Int) (w : World) (HM : Hid (insB m = false)) (HN : Hid (insB n = true)) : Calls Tryz.prog 9 #[.int .i64 m, .int .i64 n] w fun e w' => e = .returned (.agg #[.bool false, .string ⟨#[]⟩, .string ⟨#[]⟩, .int .i64 3]) ∧ Since w w' := by
  go_enter Tryz.func9, Tryz.ntmps9
  go_upto_region 1 with (fail)
  obtain ⟨W0, hW0, hB0, hb⟩ := start1 w 31 [.bool false, .string ⟨#[]⟩, .string ⟨#[]⟩, .int .i64 0]
  rw [← hW0]
  clear hW0
  refine jp ?_
  refine jm (.int .i64 m) ?_
  refine jc (.bool false) (fun X hX hF => mo (insS m X) (by rw [HM.out])) ?_
  refine jm (.bool false) ?_
  refine jz fun X1 hX1 => ?_
  have hB0 := hB0.bel hX1
  have hb := bel_next hb hX1
  clear hX1
  go_upto_region 2 with (fail)
  refine jp ?_
  refine jm (.int .i64 n) ?_
  refine jc (.bool true) (fun X hX hF => mo (insS n X) (by rw [HN.out])) ?_
  refine jm (.bool true) ?_
  refine jz fun X2 hX2 => ?_
  have hB0 := hB0.bel hX2
  have hb := bel_next hb hX2
  clear hX2
  go_upto_region 3 with (fail)
  refine jp ?_
  refine jm (.bool false) ?_
  refine jm (.bool true) ?_
  refine jm (.bool true) ?_
  refine js ?_
  refine js ?_
  refine jm (.bool true) ?_
  refine jz fun X3 hX3 => ?_
  have hB0 := hB0.bel hX3
  have hb := bel_next hb hX3
  clear hX3
  go_upto_region 4 with (fail)
  refine jq 1 ?_
  refine jn (.agg #[.bool false, .string ⟨#[]⟩, .string ⟨#[]⟩, .int .i64 3]) ?_
  refine jz fun X4 hX4 => ?_
  have hB0 := hB0.bel hX4
  have hb := bel_next hb hX4
  clear hX4
  refine osb 31 4 17 w.heap.size 31 hB0 [.bool false, .string ⟨#[]⟩, .string ⟨#[]⟩, .int .i64 3] info_made5 ?_
  intro w9 hR9 hO9 hB9 hs9
  have hb9 := hB9 _ _ hb (by omega)
  clear hO9 hB9
  go_wp2
  refine post_cell rfl rfl (by rfl) Tryz.underlying31 rfl hR9 info_made5 ⟨rfl, hb9⟩

theorem make5_r2 (m n : Int) (w : World) (HM : Hid (insB m = true)) (HN : Hid (insB n = false)) : Calls Tryz.prog 9 #[.int .i64 m, .int .i64 n] w fun e w' => e = .returned (.agg #[.bool false, .string ⟨#[]⟩, .string ⟨#[]⟩, .int .i64 3]) ∧ Since w w' := by
  go_enter Tryz.func9, Tryz.ntmps9
  go_upto_region 1 with (fail)
  obtain ⟨W0, hW0, hB0, hb⟩ := start1 w 31 [.bool false, .string ⟨#[]⟩, .string ⟨#[]⟩, .int .i64 0]
  rw [← hW0]
  clear hW0
  refine jp ?_
  refine jm (.int .i64 m) ?_
  refine jc (.bool true) (fun X hX hF => mo (insS m X) (by rw [HM.out])) ?_
  refine jm (.bool true) ?_
  refine jz fun X1 hX1 => ?_
  have hB0 := hB0.bel hX1
  have hb := bel_next hb hX1
  clear hX1
  go_upto_region 2 with (fail)
  refine jp ?_
  refine jm (.int .i64 n) ?_
  refine jc (.bool false) (fun X hX hF => mo (insS n X) (by rw [HN.out])) ?_
  refine jm (.bool false) ?_
  refine jz fun X2 hX2 => ?_
  have hB0 := hB0.bel hX2
  have hb := bel_next hb hX2
  clear hX2
  go_upto_region 3 with (fail)
  refine jp ?_
  refine jm (.bool true) ?_
  refine jm (.bool false) ?_
  refine jm (.bool false) ?_
  refine jm (.bool false) ?_
  refine jm (.bool true) ?_
  refine jm (.bool true) ?_
  refine jz fun X3 hX3 => ?_
  have hB0 := hB0.bel hX3
  have hb := bel_next hb hX3
  clear hX3
  go_upto_region 4 with (fail)
  refine jq 1 ?_
  refine jn (.agg #[.bool false, .string ⟨#[]⟩, .string ⟨#[]⟩, .int .i64 3]) ?_
  refine jz fun X4 hX4 => ?_
  have hB0 := hB0.bel hX4
  have hb := bel_next hb hX4
  clear hX4
  refine osb 31 4 17 w.heap.size 31 hB0 [.bool false, .string ⟨#[]⟩, .string ⟨#[]⟩, .int .i64 3] info_made5 ?_
  intro w9 hR9 hO9 hB9 hs9
  have hb9 := hB9 _ _ hb (by omega)
  clear hO9 hB9
  go_wp2
  refine post_cell rfl rfl (by rfl) Tryz.underlying31 rfl hR9 info_made5 ⟨rfl, hb9⟩

theorem make5_r3 (m n : Int) (w : World) (HM : Hid (insB m = false)) (HN : Hid (insB n = false)) : Calls Tryz.prog 9 #[.int .i64 m, .int .i64 n] w fun e w' => e = .returned (.agg #[.bool false, .string ⟨#[]⟩, .string ⟨#[]⟩, .int .i64 3]) ∧ Since w w' := by
  go_enter Tryz.func9, Tryz.ntmps9
  go_upto_region 1 with (fail)
  obtain ⟨W0, hW0, hB0, hb⟩ := start1 w 31 [.bool false, .string ⟨#[]⟩, .string ⟨#[]⟩, .int .i64 0]
  rw [← hW0]
  clear hW0
  refine jp ?_
  refine jm (.int .i64 m) ?_
  refine jc (.bool false) (fun X hX hF => mo (insS m X) (by rw [HM.out])) ?_
  refine jm (.bool false) ?_
  refine jz fun X1 hX1 => ?_
  have hB0 := hB0.bel hX1
  have hb := bel_next hb hX1
  clear hX1
  go_upto_region 2 with (fail)
  refine jp ?_
  refine jm (.int .i64 n) ?_
  refine jc (.bool false) (fun X hX hF => mo (insS n X) (by rw [HN.out])) ?_
  refine jm (.bool false) ?_
  refine jz fun X2 hX2 => ?_
  have hB0 := hB0.bel hX2
  have hb := bel_next hb hX2
  clear hX2
  go_upto_region 3 with (fail)
  refine jp ?_
  refine jm (.bool false) ?_
  refine jm (.bool true) ?_
  refine jm (.bool true) ?_
  refine js ?_
  refine js ?_
  refine jm (.bool true) ?_
  refine jz fun X3 hX3 => ?_
  have hB0 := hB0.bel hX3
  have hb := bel_next hb hX3
  clear hX3
  go_upto_region 4 with (fail)
  refine jq 1 ?_
  refine jn (.agg #[.bool false, .string ⟨#[]⟩, .string ⟨#[]⟩, .int .i64 3]) ?_
  refine jz fun X4 hX4 => ?_
  have hB0 := hB0.bel hX4
  have hb := bel_next hb hX4
  clear hX4
  refine osb 31 4 17 w.heap.size 31 hB0 [.bool false, .string ⟨#[]⟩, .string ⟨#[]⟩, .int .i64 3] info_made5 ?_
  intro w9 hR9 hO9 hB9 hs9
  have hb9 := hB9 _ _ hb (by omega)
  clear hO9 hB9
  go_wp2
  refine post_cell rfl rfl (by rfl) Tryz.underlying31 rfl hR9 info_made5 ⟨rfl, hb9⟩

theorem make5_a (m n : Int) (w : World) (HM : Hid (insB m = true)) (HN : Hid (insB n = true)) (h0 : n ≤ 0 ∧ 0 ≤ n) : Calls Tryz.prog 9 #[.int .i64 m, .int .i64 n] w fun e w' => e = .returned (.agg #[.bool false, .string ⟨#[]⟩, .string ⟨#[]⟩, .int .i64 1]) ∧ Since w w' := by
  go_enter Tryz.func9, Tryz.ntmps9
  go_upto_region 1 with (fail)
  obtain ⟨W0, hW0, hB0, hb⟩ := start1 w 31 [.bool false, .string ⟨#[]⟩, .string ⟨#[]⟩, .int .i64 0]
  rw [← hW0]
  clear hW0
  refine jp ?_
  refine jm (.int .i64 m) ?_
  refine jc (.bool true) (fun X hX hF => mo (insS m X) (by rw [HM.out])) ?_
  refine jm (.bool true) ?_
  refine jz fun X1 hX1 => ?_
  have hB0 := hB0.bel hX1
  have hb := bel_next hb hX1
  clear hX1
  go_upto_region 2 with (fail)
  refine jp ?_
  refine jm (.int .i64 n) ?_
  refine jc (.bool true) (fun X hX hF => mo (insS n X) (by rw [HN.out])) ?_
  refine jm (.bool true) ?_
  refine jz fun X2 hX2 => ?_
  have hB0 := hB0.bel hX2
  have hb := bel_next hb hX2
  clear hX2
  go_upto_region 3 with (fail)
  refine jp ?_
  refine jm (.bool true) ?_
  refine jm (.bool false) ?_
  refine jm (.bool false) ?_
  refine jm (.bool true) ?_
  refine jm (.bool false) ?_
  refine jm (.bool false) ?_
  refine jz fun X3 hX3 => ?_
  have hB0 := hB0.bel hX3
  have hb := bel_next hb hX3
  clear hX3
  go_upto_region 5 with (fail)
  refine jp ?_
  refine jm (.int .i64 n) ?_
  refine jv (.bool true) (exec_eqi _ _ _ _ (by rfl) .i64 n 0 (by rfl) (by rfl) true (decide_eq_true (by omega))) ?_
  refine jz fun X4 hX4 => ?_
  have hB0 := hB0.bel hX4
  have hb := bel_next hb hX4
  clear hX4
  go_upto_region 6 with (fail)
  refine jq 1 ?_
  refine jn (.agg #[.bool false, .string ⟨#[]⟩, .string ⟨#[]⟩, .int .i64 1]) ?_
  refine jz fun X5 hX5 => ?_
  have hB0 := hB0.bel hX5
  have hb := bel_next hb hX5
  clear hX5
  refine osb 31 4 20 w.heap.size 31 hB0 [.bool false, .string ⟨#[]⟩, .string ⟨#[]⟩, .int .i64 1] info_made5 ?_
  intro w9 hR9 hO9 hB9 hs9
  have hb9 := hB9 _ _ hb (by omega)
  clear hO9 hB9
  go_wp2
  refine post_cell rfl rfl (by rfl) Tryz.underlying31 rfl hR9 info_made5 ⟨rfl, hb9⟩

theorem make5_11 (m n : Int) (w : World) (HM : Hid (insB m = true)) (HN : Hid (insB n = true)) (ha : m < 0) (hb1 : n < 0) (hlm : (be m.natAbs).length ≤ 8) (hln : (be n.natAbs).length ≤ 8) (HDP : Hid (0 < n.natAbs)) (HK : Hid (mkRat (sg false m.natAbs) n.natAbs = (m : Rat) / (n : Rat))) : Calls Tryz.prog 9 #[.int .i64 m, .int .i64 n] w fun e w' => e = .returned (.agg #[.bool (rN ((m : Rat) / (n : Rat))), .string ⟨(rP ((m : Rat) / (n : Rat))).toArray⟩, .string ⟨(rD ((m : Rat) / (n : Rat))).toArray⟩, .int .i64 0]) ∧ Since w w' := by
  go_enter Tryz.func9, Tryz.ntmps9
  go_upto_region 1 with (fail)
  obtain ⟨W0, hW0, hB0, hb⟩ := start1 w 31 [.bool false, .string ⟨#[]⟩, .string ⟨#[]⟩, .int .i64 0]
  rw [← hW0]
  clear hW0
  refine jp ?_
  refine jm (.int .i64 m) ?_
  refine jc (.bool true) (fun X hX hF => mo (insS m X) (by rw [HM.out])) ?_
  refine jm (.bool true) ?_
  refine jz fun X1 hX1 => ?_
  have hB0 := hB0.bel hX1
  have hb := bel_next hb hX1
  clear hX1
  go_upto_region 2 with (fail)
  refine jp ?_
  refine jm (.int .i64 n) ?_
  refine jc (.bool true) (fun X hX hF => mo (insS n X) (by rw [HN.out])) ?_
  refine jm (.bool true) ?_
  refine jz fun X2 hX2 => ?_
  have hB0 := hB0.bel hX2
  have hb := bel_next hb hX2
  clear hX2
  go_upto_region 3 with (fail)
  refine jp ?_
  refine jm (.bool true) ?_
  refine jm (.bool false) ?_
  refine jm (.bool false) ?_
  refine jm (.bool true) ?_
  refine jm (.bool false) ?_
  refine jm (.bool false) ?_
  refine jz fun X3 hX3 => ?_
  have hB0 := hB0.bel hX3
  have hb := bel_next hb hX3
  clear hX3
  go_upto_region 5 with (fail)
  refine jp ?_
  refine jm (.int .i64 n) ?_
  refine jv (.bool false) (exec_eqi _ _ _ _ (by rfl) .i64 n 0 (by rfl) (by rfl) false (decide_eq_false (by omega))) ?_
  refine jz fun X4 hX4 => ?_
  have hB0 := hB0.bel hX4
  have hb := bel_next hb hX4
  clear hX4
  go_upto_region 7 with (fail)
  refine jq 11 ?_
  refine jm (.int .i64 m) ?_
  refine jv (.bool true) (exec_lss _ _ _ _ (by rfl) .i64 m 0 (by rfl) (by rfl) true (decide_eq_true (by omega))) ?_
  refine jm (.int .i64 n) ?_
  refine jv (.bool true) (exec_lss _ _ _ _ (by rfl) .i64 n 0 (by rfl) (by rfl) true (decide_eq_true (by omega))) ?_
  refine jm (.bool false) ?_
  refine jm (.int .i64 m) ?_
  refine jc (st (be m.natAbs)) (fun X hX hF => natS m X HM.out) ?_
  refine jm (.int .i64 n) ?_
  refine jc (st (be n.natAbs)) (fun X hX hF => natS n X HN.out) ?_
  refine jc (rt (rN (mkRat (sg false m.natAbs) n.natAbs)) (rP (mkRat (sg false m.natAbs) n.natAbs)) (rD (mkRat (sg false m.natAbs) n.natAbs))) (fun X hX hF => lowS false m.natAbs n.natAbs X HDP.out (by first | omega | decide) (by first | omega | decide)) ?_
  refine jn (.agg #[.bool (rN (mkRat (sg false m.natAbs) n.natAbs)), st (rP (mkRat (sg false m.natAbs) n.natAbs)), st (rD (mkRat (sg false m.natAbs) n.natAbs)), .int .i64 0]) ?_
  refine jz fun X5 hX5 => ?_
  have hB0 := hB0.bel hX5
  have hb := bel_next hb hX5
  clear hX5
  refine osb 31 4 31 w.heap.size 31 hB0 [.bool (rN (mkRat (sg false m.natAbs) n.natAbs)), .string ⟨(rP (mkRat (sg false m.natAbs) n.natAbs)).toArray⟩, .string ⟨(rD (mkRat (sg false m.natAbs) n.natAbs)).toArray⟩, .int .i64 0] info_made5 ?_
  intro w9 hR9 hO9 hB9 hs9
  have hb9 := hB9 _ _ hb (by omega)
  clear hO9 hB9
  go_wp2
  refine post_cell rfl rfl (by rfl) Tryz.underlying31 rfl hR9 info_made5 ⟨by rw [HK.out], hb9⟩

theorem make5_10 (m n : Int) (w : World) (HM : Hid (insB m = true)) (HN : Hid (insB n = true)) (ha : m < 0) (hb1 : 0 < n) (hlm : (be m.natAbs).length ≤ 8) (hln : (be n.natAbs).length ≤ 8) (HDP : Hid (0 < n.natAbs)) (HK : Hid (mkRat (sg true m.natAbs) n.natAbs = (m : Rat) / (n : Rat))) : Calls Tryz.prog 9 #[.int .i64 m, .int .i64 n] w fun e w' => e = .returned (.agg #[.bool (rN ((m : Rat) / (n : Rat))), .string ⟨(rP ((m : Rat) / (n : Rat))).toArray⟩, .string ⟨(rD ((m : Rat) / (n : Rat))).toArray⟩, .int .i64 0]) ∧ Since w w' := by
  go_enter Tryz.func9, Tryz.ntmps9
  go_upto_region 1 with (fail)
  obtain ⟨W0, hW0, hB0, hb⟩ := start1 w 31 [.bool false, .string ⟨#[]⟩, .string ⟨#[]⟩, .int .i64 0]
  rw [← hW0]
  clear hW0
  refine jp ?_
  refine jm (.int .i64 m) ?_
  refine jc (.bool true) (fun X hX hF => mo (insS m X) (by rw [HM.out])) ?_
  refine jm (.bool true) ?_
  refine jz fun X1 hX1 => ?_
  have hB0 := hB0.bel hX1
  have hb := bel_next hb hX1
  clear hX1
  go_upto_region 2 with (fail)
  refine jp ?_
  refine jm (.int .i64 n) ?_
  refine jc (.bool true) (fun X hX hF => mo (insS n X) (by rw [HN.out])) ?_
  refine jm (.bool true) ?_
  refine jz fun X2 hX2 => ?_
  have hB0 := hB0.bel hX2
  have hb := bel_next hb hX2
  clear hX2
  go_upto_region 3 with (fail)
  refine jp ?_
  refine jm (.bool true) ?_
  refine jm (.bool false) ?_
  refine jm (.bool false) ?_
  refine jm (.bool true) ?_
  refine jm (.bool false) ?_
  refine jm (.bool false) ?_
  refine jz fun X3 hX3 => ?_
  have hB0 := hB0.bel hX3
  have hb := bel_next hb hX3
  clear hX3
  go_upto_region 5 with (fail)
  refine jp ?_
  refine jm (.int .i64 n) ?_
  refine jv (.bool false) (exec_eqi _ _ _ _ (by rfl) .i64 n 0 (by rfl) (by rfl) false (decide_eq_false (by omega))) ?_
  refine jz fun X4 hX4 => ?_
  have hB0 := hB0.bel hX4
  have hb := bel_next hb hX4
  clear hX4
  go_upto_region 7 with (fail)
  refine jq 11 ?_
  refine jm (.int .i64 m) ?_
  refine jv (.bool true) (exec_lss _ _ _ _ (by rfl) .i64 m 0 (by rfl) (by rfl) true (decide_eq_true (by omega))) ?_
  refine jm (.int .i64 n) ?_
  refine jv (.bool false) (exec_lss _ _ _ _ (by rfl) .i64 n 0 (by rfl) (by rfl) false (decide_eq_false (by omega))) ?_
  refine jm (.bool true) ?_
  refine jm (.int .i64 m) ?_
  refine jc (st (be m.natAbs)) (fun X hX hF => natS m X HM.out) ?_
  refine jm (.int .i64 n) ?_
  refine jc (st (be n.natAbs)) (fun X hX hF => natS n X HN.out) ?_
  refine jc (rt (rN (mkRat (sg true m.natAbs) n.natAbs)) (rP (mkRat (sg true m.natAbs) n.natAbs)) (rD (mkRat (sg true m.natAbs) n.natAbs))) (fun X hX hF => lowS true m.natAbs n.natAbs X HDP.out (by first | omega | decide) (by first | omega | decide)) ?_
  refine jn (.agg #[.bool (rN (mkRat (sg true m.natAbs) n.natAbs)), st (rP (mkRat (sg true m.natAbs) n.natAbs)), st (rD (mkRat (sg true m.natAbs) n.natAbs)), .int .i64 0]) ?_
  refine jz fun X5 hX5 => ?_
  have hB0 := hB0.bel hX5
  have hb := bel_next hb hX5
  clear hX5
  refine osb 31 4 31 w.heap.size 31 hB0 [.bool (rN (mkRat (sg true m.natAbs) n.natAbs)), .string ⟨(rP (mkRat (sg true m.natAbs) n.natAbs)).toArray⟩, .string ⟨(rD (mkRat (sg true m.natAbs) n.natAbs)).toArray⟩, .int .i64 0] info_made5 ?_
  intro w9 hR9 hO9 hB9 hs9
  have hb9 := hB9 _ _ hb (by omega)
  clear hO9 hB9
  go_wp2
  refine post_cell rfl rfl (by rfl) Tryz.underlying31 rfl hR9 info_made5 ⟨by rw [HK.out], hb9⟩

theorem make5_01 (m n : Int) (w : World) (HM : Hid (insB m = true)) (HN : Hid (insB n = true)) (ha : 0 ≤ m) (hb1 : n < 0) (hlm : (be m.natAbs).length ≤ 8) (hln : (be n.natAbs).length ≤ 8) (HDP : Hid (0 < n.natAbs)) (HK : Hid (mkRat (sg true m.natAbs) n.natAbs = (m : Rat) / (n : Rat))) : Calls Tryz.prog 9 #[.int .i64 m, .int .i64 n] w fun e w' => e = .returned (.agg #[.bool (rN ((m : Rat) / (n : Rat))), .string ⟨(rP ((m : Rat) / (n : Rat))).toArray⟩, .string ⟨(rD ((m : Rat) / (n : Rat))).toArray⟩, .int .i64 0]) ∧ Since w w' := by
  go_enter Tryz.func9, Tryz.ntmps9
  go_upto_region 1 with (fail)
  obtain ⟨W0, hW0, hB0, hb⟩ := start1 w 31 [.bool false, .string ⟨#[]⟩, .string ⟨#[]⟩, .int .i64 0]
  rw [← hW0]
  clear hW0
  refine jp ?_
  refine jm (.int .i64 m) ?_
  refine jc (.bool true) (fun X hX hF => mo (insS m X) (by rw [HM.out])) ?_
  refine jm (.bool true) ?_
  refine jz fun X1 hX1 => ?_
  have hB0 := hB0.bel hX1
  have hb := bel_next hb hX1
  clear hX1
  go_upto_region 2 with (fail)
  refine jp ?_
  refine jm (.int .i64 n) ?_
  refine jc (.bool true) (fun X hX hF => mo (insS n X) (by rw [HN.out])) ?_
  refine jm (.bool true) ?_
  refine jz fun X2 hX2 => ?_
  have hB0 := hB0.bel hX2
  have hb := bel_next hb hX2
  clear hX2
  go_upto_region 3 with (fail)
  refine jp ?_
  refine jm (.bool true) ?_
  refine jm (.bool false) ?_
  refine jm (.bool false) ?_
  refine jm (.bool true) ?_
  refine jm (.bool false) ?_
  refine jm (.bool false) ?_
  refine jz fun X3 hX3 => ?_
  have hB0 := hB0.bel hX3
  have hb := bel_next hb hX3
  clear hX3
  go_upto_region 5 with (fail)
  refine jp ?_
  refine jm (.int .i64 n) ?_
  refine jv (.bool false) (exec_eqi _ _ _ _ (by rfl) .i64 n 0 (by rfl) (by rfl) false (decide_eq_false (by omega))) ?_
  refine jz fun X4 hX4 => ?_
  have hB0 := hB0.bel hX4
  have hb := bel_next hb hX4
  clear hX4
  go_upto_region 7 with (fail)
  refine jq 11 ?_
  refine jm (.int .i64 m) ?_
  refine jv (.bool false) (exec_lss _ _ _ _ (by rfl) .i64 m 0 (by rfl) (by rfl) false (decide_eq_false (by omega))) ?_
  refine jm (.int .i64 n) ?_
  refine jv (.bool true) (exec_lss _ _ _ _ (by rfl) .i64 n 0 (by rfl) (by rfl) true (decide_eq_true (by omega))) ?_
  refine jm (.bool true) ?_
  refine jm (.int .i64 m) ?_
  refine jc (st (be m.natAbs)) (fun X hX hF => natS m X HM.out) ?_
  refine jm (.int .i64 n) ?_
  refine jc (st (be n.natAbs)) (fun X hX hF => natS n X HN.out) ?_
  refine jc (rt (rN (mkRat (sg true m.natAbs) n.natAbs)) (rP (mkRat (sg true m.natAbs) n.natAbs)) (rD (mkRat (sg true m.natAbs) n.natAbs))) (fun X hX hF => lowS true m.natAbs n.natAbs X HDP.out (by first | omega | decide) (by first | omega | decide)) ?_
  refine jn (.agg #[.bool (rN (mkRat (sg true m.natAbs) n.natAbs)), st (rP (mkRat (sg true m.natAbs) n.natAbs)), st (rD (mkRat (sg true m.natAbs) n.natAbs)), .int .i64 0]) ?_
  refine jz fun X5 hX5 => ?_
  have hB0 := hB0.bel hX5
  have hb := bel_next hb hX5
  clear hX5
  refine osb 31 4 31 w.heap.size 31 hB0 [.bool (rN (mkRat (sg true m.natAbs) n.natAbs)), .string ⟨(rP (mkRat (sg true m.natAbs) n.natAbs)).toArray⟩, .string ⟨(rD (mkRat (sg true m.natAbs) n.natAbs)).toArray⟩, .int .i64 0] info_made5 ?_
  intro w9 hR9 hO9 hB9 hs9
  have hb9 := hB9 _ _ hb (by omega)
  clear hO9 hB9
  go_wp2
  refine post_cell rfl rfl (by rfl) Tryz.underlying31 rfl hR9 info_made5 ⟨by rw [HK.out], hb9⟩

theorem make5_00 (m n : Int) (w : World) (HM : Hid (insB m = true)) (HN : Hid (insB n = true)) (ha : 0 ≤ m) (hb1 : 0 < n) (hlm : (be m.natAbs).length ≤ 8) (hln : (be n.natAbs).length ≤ 8) (HDP : Hid (0 < n.natAbs)) (HK : Hid (mkRat (sg false m.natAbs) n.natAbs = (m : Rat) / (n : Rat))) : Calls Tryz.prog 9 #[.int .i64 m, .int .i64 n] w fun e w' => e = .returned (.agg #[.bool (rN ((m : Rat) / (n : Rat))), .string ⟨(rP ((m : Rat) / (n : Rat))).toArray⟩, .string ⟨(rD ((m : Rat) / (n : Rat))).toArray⟩, .int .i64 0]) ∧ Since w w' := by
  go_enter Tryz.func9, Tryz.ntmps9
  go_upto_region 1 with (fail)
  obtain ⟨W0, hW0, hB0, hb⟩ := start1 w 31 [.bool false, .string ⟨#[]⟩, .string ⟨#[]⟩, .int .i64 0]
  rw [← hW0]
  clear hW0
  refine jp ?_
  refine jm (.int .i64 m) ?_
  refine jc (.bool true) (fun X hX hF => mo (insS m X) (by rw [HM.out])) ?_
  refine jm (.bool true) ?_
  refine jz fun X1 hX1 => ?_
  have hB0 := hB0.bel hX1
  have hb := bel_next hb hX1
  clear hX1
  go_upto_region 2 with (fail)
  refine jp ?_
  refine jm (.int .i64 n) ?_
  refine jc (.bool true) (fun X hX hF => mo (insS n X) (by rw [HN.out])) ?_
  refine jm (.bool true) ?_
  refine jz fun X2 hX2 => ?_
  have hB0 := hB0.bel hX2
  have hb := bel_next hb hX2
  clear hX2
  go_upto_region 3 with (fail)
  refine jp ?_
  refine jm (.bool true) ?_
  refine jm (.bool false) ?_
  refine jm (.bool false) ?_
  refine jm (.bool true) ?_
  refine jm (.bool false) ?_
  refine jm (.bool false) ?_
  refine jz fun X3 hX3 => ?_
  have hB0 := hB0.bel hX3
  have hb := bel_next hb hX3
  clear hX3
  go_upto_region 5 with (fail)
  refine jp ?_
  refine jm (.int .i64 n) ?_
  refine jv (.bool false) (exec_eqi _ _ _ _ (by rfl) .i64 n 0 (by rfl) (by rfl) false (decide_eq_false (by omega))) ?_
  refine jz fun X4 hX4 => ?_
  have hB0 := hB0.bel hX4
  have hb := bel_next hb hX4
  clear hX4
  go_upto_region 7 with (fail)
  refine jq 11 ?_
  refine jm (.int .i64 m) ?_
  refine jv (.bool false) (exec_lss _ _ _ _ (by rfl) .i64 m 0 (by rfl) (by rfl) false (decide_eq_false (by omega))) ?_
  refine jm (.int .i64 n) ?_
  refine jv (.bool false) (exec_lss _ _ _ _ (by rfl) .i64 n 0 (by rfl) (by rfl) false (decide_eq_false (by omega))) ?_
  refine jm (.bool false) ?_
  refine jm (.int .i64 m) ?_
  refine jc (st (be m.natAbs)) (fun X hX hF => natS m X HM.out) ?_
  refine jm (.int .i64 n) ?_
  refine jc (st (be n.natAbs)) (fun X hX hF => natS n X HN.out) ?_
  refine jc (rt (rN (mkRat (sg false m.natAbs) n.natAbs)) (rP (mkRat (sg false m.natAbs) n.natAbs)) (rD (mkRat (sg false m.natAbs) n.natAbs))) (fun X hX hF => lowS false m.natAbs n.natAbs X HDP.out (by first | omega | decide) (by first | omega | decide)) ?_
  refine jn (.agg #[.bool (rN (mkRat (sg false m.natAbs) n.natAbs)), st (rP (mkRat (sg false m.natAbs) n.natAbs)), st (rD (mkRat (sg false m.natAbs) n.natAbs)), .int .i64 0]) ?_
  refine jz fun X5 hX5 => ?_
  have hB0 := hB0.bel hX5
  have hb := bel_next hb hX5
  clear hX5
  refine osb 31 4 31 w.heap.size 31 hB0 [.bool (rN (mkRat (sg false m.natAbs) n.natAbs)), .string ⟨(rP (mkRat (sg false m.natAbs) n.natAbs)).toArray⟩, .string ⟨(rD (mkRat (sg false m.natAbs) n.natAbs)).toArray⟩, .int .i64 0] info_made5 ?_
  intro w9 hR9 hO9 hB9 hs9
  have hb9 := hB9 _ _ hb (by omega)
  clear hO9 hB9
  go_wp2
  refine post_cell rfl rfl (by rfl) Tryz.underlying31 rfl hR9 info_made5 ⟨by rw [HK.out], hb9⟩

theorem mk_quot {m n : Int} (h0 : n ≠ 0) : mkRat (sg (decide (m < 0) != decide (n < 0)) m.natAbs) n.natAbs = (m : Rat) / (n : Rat) := by
  have h1 := div_fr (decide (m < 0)) (decide (n < 0)) m.natAbs (q := n.natAbs) (d := 1) (e := 1) (by omega) (by omega)
  rw [mk_int, mk_int, Nat.mul_one, Nat.one_mul] at h1
  exact h1.symm
theorem makeSR (m n : Int) (w : World) (h : insB m = false ∨ insB n = false) : Calls Tryz.prog 9 #[.int .i64 m, .int .i64 n] w fun e w' => e = .returned (.agg #[.bool false, .string ⟨#[]⟩, .string ⟨#[]⟩, .int .i64 3]) ∧ Since w w' := by
  rcases hm : insB m with _ | _ <;> rcases hn : insB n with _ | _
  · exact make5_r3 m n w hm hn
  · exact make5_r1 m n w hm hn
  · exact make5_r2 m n w hm hn
  · rw [hm, hn] at h
    simp at h
theorem makeSA (m n : Int) (w : World) (hm : insB m = true) (hn : insB n = true) (h0 : n = 0) : Calls Tryz.prog 9 #[.int .i64 m, .int .i64 n] w fun e w' => e = .returned (.agg #[.bool false, .string ⟨#[]⟩, .string ⟨#[]⟩, .int .i64 1]) ∧ Since w w' := make5_a m n w hm hn (by omega)
theorem makeS (m n : Int) (w : World) (hm : insB m = true) (hn : insB n = true) (h0 : n ≠ 0) : Calls Tryz.prog 9 #[.int .i64 m, .int .i64 n] w fun e w' => e = .returned (.agg #[.bool (rN ((m : Rat) / (n : Rat))), .string ⟨(rP ((m : Rat) / (n : Rat))).toArray⟩, .string ⟨(rD ((m : Rat) / (n : Rat))).toArray⟩, .int .i64 0]) ∧ Since w w' := by
  have b1 := insB_t hm
  have b2 := insB_t hn
  have lm : (be m.natAbs).length ≤ 8 := be_len (by omega)
  have ln : (be n.natAbs).length ≤ 8 := be_len (by omega)
  have key := mk_quot (m := m) h0
  by_cases ha : m < 0 <;> by_cases hb : n < 0
  · rw [decide_eq_true ha, decide_eq_true hb] at key
    exact make5_11 m n w hm hn ha hb lm ln (show 0 < n.natAbs by omega) key
  · rw [decide_eq_true ha, decide_eq_false hb] at key
    exact make5_10 m n w hm hn ha (by omega) lm ln (show 0 < n.natAbs by omega) key
  · rw [decide_eq_false ha, decide_eq_true hb] at key
    exact make5_01 m n w hm hn (by omega) hb lm ln (show 0 < n.natAbs by omega) key
  · rw [decide_eq_false ha, decide_eq_false hb] at key
    exact make5_00 m n w hm hn (by omega) (by omega) lm ln (show 0 < n.natAbs by omega) key

theorem int5_1 (n : Int) (w : World) (HN : Hid (insB n = true)) (HQ1 : Hid ((n : Rat) / ((1 : Int) : Rat) = (n : Rat))) : Calls Tryz.prog 19 #[.int .i64 n] w fun e w' => e = .returned (rbv (n : Rat)) ∧ Since w w' := by
  go_enter Tryz.func19, Tryz.ntmps19
  go_upto_region 1 with (fail)
  obtain ⟨W0, hW0, hB0, hb⟩ := start1 w 23 [.bool false, .string ⟨#[]⟩, .string ⟨#[]⟩]
  rw [← hW0]
  clear hW0
  obtain ⟨q1, hq1⟩ : ∃ q1 : Rat, q1 = (n : Rat) / ((1 : Int) : Rat) := ⟨_, rfl⟩
  have HQ := Lib.hid hq1
  clear hq1
  refine jq 2 ?_
  refine jm (.int .i64 n) ?_
  refine jc (.agg #[.bool (rN q1), st (rP q1), st (rD q1), .int .i64 0]) (fun X hX hF => mo (makeS n 1 X HN.out (by decide) (by decide)) (by rw [HQ.out])) ?_
  refine jz fun X1 hX1 => ?_
  have hB0 := hB0.bel hX1
  have hb := bel_next hb hX1
  clear hX1
  go_upto_region 2 with (refine osn 31 3 5 #[.bool (rN q1), .string ⟨(rP q1).toArray⟩, .string ⟨(rD q1).toArray⟩, .int .i64 0] info_made5 ?_)
  obtain ⟨Y1, hY9, hD3, hS9⟩ := start1 X1 31 [.bool (rN q1), .string ⟨(rP q1).toArray⟩, .string ⟨(rD q1).toArray⟩, .int .i64 0]
  rw [← hY9]
  clear hY9
  have hgs3 := hb.size
  have hlt3x0 := hB0.lt
  have hB0 := hB0.bel hS9
  have hb := bel_next hb hS9
  clear hS9
  generalize X1.heap.size = g3 at *
  refine jq 2 ?_
  refine jn (.pointer (some ⟨g3, 0, none⟩)) ?_
  refine jg (rt (rN q1) (rP q1) (rD q1)) (fun X hX hF => exec_inr 23 _ (by rfl) g3 0 [.bool (rN q1), .string ⟨(rP q1).toArray⟩, .string ⟨(rD q1).toArray⟩] (by rfl) Tryz.underlying23 rfl X (hD3.bel hX) (by rfl) info_rat) ?_
  refine jz fun X2 hX2 => ?_
  have hB0 := hB0.bel hX2
  have hD3 := hD3.bel hX2
  have hb := bel_next hb hX2
  clear hX2
  refine osb 23 2 7 w.heap.size 23 hB0 [.bool (rN q1), .string ⟨(rP q1).toArray⟩, .string ⟨(rD q1).toArray⟩] info_rat ?_
  intro w9 hR9 hO9 hB9 hs9
  have hb9 := hB9 _ _ hb (by omega)
  clear hO9 hB9
  go_wp2
  refine post_cell rfl rfl (by rfl) Tryz.underlying23 rfl hR9 info_rat ⟨by rw [HQ.out, HQ1.out], hb9⟩

theorem int5_0 (n : Int) (w : World) (HN : Hid (insB n = false)) : Calls Tryz.prog 19 #[.int .i64 n] w fun e w' => e = .returned (.agg #[.bool false, .string ⟨#[]⟩, .string ⟨#[]⟩]) ∧ Since w w' := by
  go_enter Tryz.func19, Tryz.ntmps19
  go_upto_region 1 with (fail)
  obtain ⟨W0, hW0, hB0, hb⟩ := start1 w 23 [.bool false, .string ⟨#[]⟩, .string ⟨#[]⟩]
  rw [← hW0]
  clear hW0

  refine jq 2 ?_
  refine jm (.int .i64 n) ?_
  refine jc (.agg #[.bool false, .string ⟨#[]⟩, .string ⟨#[]⟩, .int .i64 3]) (fun X hX hF => makeSR n 1 X (.inl HN.out)) ?_
  refine jz fun X1 hX1 => ?_
  have hB0 := hB0.bel hX1
  have hb := bel_next hb hX1
  clear hX1
  go_upto_region 2 with (refine osn 31 3 5 #[.bool false, .string ⟨#[]⟩, .string ⟨#[]⟩, .int .i64 3] info_made5 ?_)
  obtain ⟨Y1, hY9, hD3, hS9⟩ := start1 X1 31 [.bool false, .string ⟨#[]⟩, .string ⟨#[]⟩, .int .i64 3]
  rw [← hY9]
  clear hY9
  have hgs3 := hb.size
  have hlt3x0 := hB0.lt
  have hB0 := hB0.bel hS9
  have hb := bel_next hb hS9
  clear hS9
  generalize X1.heap.size = g3 at *
  refine jq 2 ?_
  refine jn (.pointer (some ⟨g3, 0, none⟩)) ?_
  refine jg (rz) (fun X hX hF => exec_inr 23 _ (by rfl) g3 0 [.bool false, .string ⟨#[]⟩, .string ⟨#[]⟩] (by rfl) Tryz.underlying23 rfl X (hD3.bel hX) (by rfl) info_rat) ?_
  refine jz fun X2 hX2 => ?_
  have hB0 := hB0.bel hX2
  have hD3 := hD3.bel hX2
  have hb := bel_next hb hX2
  clear hX2
  refine osb 23 2 7 w.heap.size 23 hB0 [.bool false, .string ⟨#[]⟩, .string ⟨#[]⟩] info_rat ?_
  intro w9 hR9 hO9 hB9 hs9
  have hb9 := hB9 _ _ hb (by omega)
  clear hO9 hB9
  go_wp2
  refine post_cell rfl rfl (by rfl) Tryz.underlying23 rfl hR9 info_rat ⟨rfl, hb9⟩

theorem intS (n : Int) (w : World) (hn : insB n = true) : Calls Tryz.prog 19 #[.int .i64 n] w fun e w' => e = .returned (rbv (n : Rat)) ∧ Since w w' := int5_1 n w hn (show (n : Rat) / ((1 : Int) : Rat) = (n : Rat) by grind)
theorem neg5_z (n : Bool) (p q : List UInt8) (x : Rat) (HX : Hid (rq n p q = x)) (w : World) (h : tz p q 1000000) (HM : Hid (rN x = false)) (HE : Hid (rP x = [])) (HK : Hid (-x = x)) : Calls Tryz.prog 21 #[.agg #[.bool n, .string ⟨p.toArray⟩, .string ⟨q.toArray⟩]] w fun e w' => e = .returned (rbv (-x)) ∧ Since w w' := by
  go_enter Tryz.func21, Tryz.ntmps21
  go_upto_region 1 with (fail)
  obtain ⟨W0, hW0, hB0, hB1, hb⟩ := start2 w 23 23 [.bool n, .string ⟨p.toArray⟩, .string ⟨q.toArray⟩] [.bool false, .string ⟨#[]⟩, .string ⟨#[]⟩]
  rw [← hW0]
  clear hW0
  refine jq 2 ?_
  refine ja hB0 Tryz.underlying23 (by rfl) info_rat ?_
  refine jc (rt false (rP x) (rD x)) (fun X hX hF => mo (cleanS n p q HX.out X h) (by rw [rbv_n HM.out])) ?_
  refine jz fun X1 hX1 => ?_
  have hB0 := hB0.bel hX1
  have hB1 := hB1.bel hX1
  have hb := bel_next hb hX1
  clear hX1
  go_upto_region 2 with (refine osn 23 3 5 #[.bool false, .string ⟨(rP x).toArray⟩, .string ⟨(rD x).toArray⟩] info_rat ?_)
  obtain ⟨Y1, hY9, hD3, hS9⟩ := start1 X1 23 [.bool false, .string ⟨(rP x).toArray⟩, .string ⟨(rD x).toArray⟩]
  rw [← hY9]
  clear hY9
  have hgs3 := hb.size
  have hlt3x0 := hB0.lt
  have hlt3x1 := hB1.lt
  have hB0 := hB0.bel hS9
  have hB1 := hB1.bel hS9
  have hb := bel_next hb hS9
  clear hS9
  generalize X1.heap.size = g3 at *
  refine jp ?_
  refine jn (.pointer (some ⟨g3, 1, none⟩)) ?_
  refine jf (st (rP x)) hD3 1 load_str ?_
  refine jv (.bool false) (exec_nesB _ _ _ _ (by rfl) (rP x) ([] : List UInt8) (by rfl) (by rfl) false (nes_f HE.out)) ?_
  refine jz fun X2 hX2 => ?_
  have hB0 := hB0.bel hX2
  have hB1 := hB1.bel hX2
  have hD3 := hD3.bel hX2
  have hb := bel_next hb hX2
  clear hX2
  go_upto_region 4 with (fail)
  refine jq 1 ?_
  refine ja hD3 Tryz.underlying23 (by rfl) info_rat ?_
  refine jz fun X3 hX3 => ?_
  have hB0 := hB0.bel hX3
  have hB1 := hB1.bel hX3
  have hD3 := hD3.bel hX3
  have hb := bel_next hb hX3
  clear hX3
  refine osb 23 2 13 (w.heap.size + 1) 23 hB1 [.bool false, .string ⟨(rP x).toArray⟩, .string ⟨(rD x).toArray⟩] info_rat ?_
  intro w9 hR9 hO9 hB9 hs9
  have hb9 := hB9 _ _ hb (by omega)
  clear hO9 hB9
  go_wp2
  refine post_cell rfl rfl (by rfl) Tryz.underlying23 rfl hR9 info_rat ⟨by rw [HK.out, rbv_n HM.out], hb9⟩

theorem neg5_true (n : Bool) (p q : List UInt8) (x : Rat) (HX : Hid (rq n p q = x)) (w : World) (h : tz p q 1000000) (HM : Hid (rN x = true)) (HE : Hid (rP x ≠ [])) (HK : Hid (rN (-x) = false ∧ rP (-x) = rP x ∧ rD (-x) = rD x)) : Calls Tryz.prog 21 #[.agg #[.bool n, .string ⟨p.toArray⟩, .string ⟨q.toArray⟩]] w fun e w' => e = .returned (rbv (-x)) ∧ Since w w' := by
  go_enter Tryz.func21, Tryz.ntmps21
  go_upto_region 1 with (fail)
  obtain ⟨W0, hW0, hB0, hB1, hb⟩ := start2 w 23 23 [.bool n, .string ⟨p.toArray⟩, .string ⟨q.toArray⟩] [.bool false, .string ⟨#[]⟩, .string ⟨#[]⟩]
  rw [← hW0]
  clear hW0
  refine jq 2 ?_
  refine ja hB0 Tryz.underlying23 (by rfl) info_rat ?_
  refine jc (rt true (rP x) (rD x)) (fun X hX hF => mo (cleanS n p q HX.out X h) (by rw [rbv_n HM.out])) ?_
  refine jz fun X1 hX1 => ?_
  have hB0 := hB0.bel hX1
  have hB1 := hB1.bel hX1
  have hb := bel_next hb hX1
  clear hX1
  go_upto_region 2 with (refine osn 23 3 5 #[.bool true, .string ⟨(rP x).toArray⟩, .string ⟨(rD x).toArray⟩] info_rat ?_)
  obtain ⟨Y1, hY9, hD3, hS9⟩ := start1 X1 23 [.bool true, .string ⟨(rP x).toArray⟩, .string ⟨(rD x).toArray⟩]
  rw [← hY9]
  clear hY9
  have hgs3 := hb.size
  have hlt3x0 := hB0.lt
  have hlt3x1 := hB1.lt
  have hB0 := hB0.bel hS9
  have hB1 := hB1.bel hS9
  have hb := bel_next hb hS9
  clear hS9
  generalize X1.heap.size = g3 at *
  refine jp ?_
  refine jn (.pointer (some ⟨g3, 1, none⟩)) ?_
  refine jf (st (rP x)) hD3 1 load_str ?_
  refine jv (.bool true) (exec_nesB _ _ _ _ (by rfl) (rP x) ([] : List UInt8) (by rfl) (by rfl) true (nes_t HE.out)) ?_
  refine jz fun X2 hX2 => ?_
  have hB0 := hB0.bel hX2
  have hB1 := hB1.bel hX2
  have hD3 := hD3.bel hX2
  have hb := bel_next hb hX2
  clear hX2
  go_upto_region 3 with (fail)
  refine jq 4 ?_
  refine jn (.pointer (some ⟨g3, 0, none⟩)) ?_
  refine jf (.bool true) hD3 0 load_bool ?_
  refine jm (.bool false) ?_
  refine jn (.pointer (some ⟨g3, 0, none⟩)) ?_
  refine jz fun X3 hX3 => ?_
  have hB0 := hB0.bel hX3
  have hB1 := hB1.bel hX3
  have hD3 := hD3.bel hX3
  have hb := bel_next hb hX3
  clear hX3
  refine op_store1 rfl g3 0 23 _ hD3 (.bool false) (by simp) (fun X u h1 h2 => exec_stb _ _ (by rfl) _ _ (by rfl) (by rfl) u X h1 h2) ?_
  intro w5 hR5 hO5 hB5
  have hb := hB5 _ _ hb (by omega)
  have hB0 := hO5 _ _ _ (by omega) hB0
  have hB1 := hO5 _ _ _ (by omega) hB1
  have hD3 := hR5
  clear hR5 hO5 hB5
  go_upto_region 4 with (fail)
  refine jq 1 ?_
  refine ja hD3 Tryz.underlying23 (by rfl) info_rat ?_
  refine jz fun X4 hX4 => ?_
  have hB0 := hB0.bel hX4
  have hB1 := hB1.bel hX4
  have hD3 := hD3.bel hX4
  have hb := bel_next hb hX4
  clear hX4
  refine osb 23 2 13 (w.heap.size + 1) 23 hB1 [.bool false, .string ⟨(rP x).toArray⟩, .string ⟨(rD x).toArray⟩] info_rat ?_
  intro w9 hR9 hO9 hB9 hs9
  have hb9 := hB9 _ _ hb (by omega)
  clear hO9 hB9
  go_wp2
  refine post_cell rfl rfl (by rfl) Tryz.underlying23 rfl hR9 info_rat ⟨by rw [rbv_of HK.out], hb9⟩

theorem neg5_false (n : Bool) (p q : List UInt8) (x : Rat) (HX : Hid (rq n p q = x)) (w : World) (h : tz p q 1000000) (HM : Hid (rN x = false)) (HE : Hid (rP x ≠ [])) (HK : Hid (rN (-x) = true ∧ rP (-x) = rP x ∧ rD (-x) = rD x)) : Calls Tryz.prog 21 #[.agg #[.bool n, .string ⟨p.toArray⟩, .string ⟨q.toArray⟩]] w fun e w' => e = .returned (rbv (-x)) ∧ Since w w' := by
  go_enter Tryz.func21, Tryz.ntmps21
  go_upto_region 1 with (fail)
  obtain ⟨W0, hW0, hB0, hB1, hb⟩ := start2 w 23 23 [.bool n, .string ⟨p.toArray⟩, .string ⟨q.toArray⟩] [.bool false, .string ⟨#[]⟩, .string ⟨#[]⟩]
  rw [← hW0]
  clear hW0
  refine jq 2 ?_
  refine ja hB0 Tryz.underlying23 (by rfl) info_rat ?_
  refine jc (rt false (rP x) (rD x)) (fun X hX hF => mo (cleanS n p q HX.out X h) (by rw [rbv_n HM.out])) ?_
  refine jz fun X1 hX1 => ?_
  have hB0 := hB0.bel hX1
  have hB1 := hB1.bel hX1
  have hb := bel_next hb hX1
  clear hX1
  go_upto_region 2 with (refine osn 23 3 5 #[.bool false, .string ⟨(rP x).toArray⟩, .string ⟨(rD x).toArray⟩] info_rat ?_)
  obtain ⟨Y1, hY9, hD3, hS9⟩ := start1 X1 23 [.bool false, .string ⟨(rP x).toArray⟩, .string ⟨(rD x).toArray⟩]
  rw [← hY9]
  clear hY9
  have hgs3 := hb.size
  have hlt3x0 := hB0.lt
  have hlt3x1 := hB1.lt
  have hB0 := hB0.bel hS9
  have hB1 := hB1.bel hS9
  have hb := bel_next hb hS9
  clear hS9
  generalize X1.heap.size = g3 at *
  refine jp ?_
  refine jn (.pointer (some ⟨g3, 1, none⟩)) ?_
  refine jf (st (rP x)) hD3 1 load_str ?_
  refine jv (.bool true) (exec_nesB _ _ _ _ (by rfl) (rP x) ([] : List UInt8) (by rfl) (by rfl) true (nes_t HE.out)) ?_
  refine jz fun X2 hX2 => ?_
  have hB0 := hB0.bel hX2
  have hB1 := hB1.bel hX2
  have hD3 := hD3.bel hX2
  have hb := bel_next hb hX2
  clear hX2
  go_upto_region 3 with (fail)
  refine jq 4 ?_
  refine jn (.pointer (some ⟨g3, 0, none⟩)) ?_
  refine jf (.bool false) hD3 0 load_bool ?_
  refine jm (.bool true) ?_
  refine jn (.pointer (some ⟨g3, 0, none⟩)) ?_
  refine jz fun X3 hX3 => ?_
  have hB0 := hB0.bel hX3
  have hB1 := hB1.bel hX3
  have hD3 := hD3.bel hX3
  have hb := bel_next hb hX3
  clear hX3
  refine op_store1 rfl g3 0 23 _ hD3 (.bool true) (by simp) (fun X u h1 h2 => exec_stb _ _ (by rfl) _ _ (by rfl) (by rfl) u X h1 h2) ?_
  intro w5 hR5 hO5 hB5
  have hb := hB5 _ _ hb (by omega)
  have hB0 := hO5 _ _ _ (by omega) hB0
  have hB1 := hO5 _ _ _ (by omega) hB1
  have hD3 := hR5
  clear hR5 hO5 hB5
  go_upto_region 4 with (fail)
  refine jq 1 ?_
  refine ja hD3 Tryz.underlying23 (by rfl) info_rat ?_
  refine jz fun X4 hX4 => ?_
  have hB0 := hB0.bel hX4
  have hB1 := hB1.bel hX4
  have hD3 := hD3.bel hX4
  have hb := bel_next hb hX4
  clear hX4
  refine osb 23 2 13 (w.heap.size + 1) 23 hB1 [.bool true, .string ⟨(rP x).toArray⟩, .string ⟨(rD x).toArray⟩] info_rat ?_
  intro w9 hR9 hO9 hB9 hs9
  have hb9 := hB9 _ _ hb (by omega)
  clear hO9 hB9
  go_wp2
  refine post_cell rfl rfl (by rfl) Tryz.underlying23 rfl hR9 info_rat ⟨by rw [rbv_of HK.out], hb9⟩

theorem negS (n : Bool) (p q : List UInt8) {x : Rat} (hx : rq n p q = x) (w : World) (h : tz p q 1000000) : Calls Tryz.prog 21 #[.agg #[.bool n, .string ⟨p.toArray⟩, .string ⟨q.toArray⟩]] w fun e w' => e = .returned (rbv (-x)) ∧ Since w w' := by
  by_cases h0 : x = 0
  · exact neg5_z n p q x hx w h (by rw [h0]; rfl) (by rw [h0]; rfl) (show -x = x by rw [h0]; rfl)
  · have he : rP x ≠ [] := fun h9 => h0 ((num_zero x).1 (be_nil.1 h9))
    have hn : x.num ≠ 0 := fun h9 => h0 ((num_zero x).1 (by rw [h9]; rfl))
    have h2 : rP (-x) = rP x := by unfold rP; rw [Rat.neg_num, Int.natAbs_neg]
    have h3 : rD (-x) = rD x := by
      unfold rD
      rw [Rat.neg_num, Rat.neg_den, if_neg hn, if_neg (by omega)]
    rcases hm : rN x with _ | _
    · refine neg5_false n p q x hx w h hm he ⟨?_, h2, h3⟩
      unfold rN at hm ⊢
      rw [Rat.neg_num]
      have := of_decide_eq_false hm
      exact decide_eq_true (by omega)
    · refine neg5_true n p q x hx w h hm he ⟨?_, h2, h3⟩
      unfold rN at hm ⊢
      rw [Rat.neg_num]
      have := of_decide_eq_true hm
      exact decide_eq_false (by omega)

theorem sub5 (n : Bool) (p q : List UInt8) (n' : Bool) (p' q' : List UInt8) (x y : Rat) (HX : Hid (rq n p q = x)) (HY : Hid (rq n' p' q' = y)) (w : World) (h : tz p q 1000000) (h' : tz p' q' 1000000) (sy : szR (-y) 1000000) : Calls Tryz.prog 25 #[.agg #[.bool n, .string ⟨p.toArray⟩, .string ⟨q.toArray⟩], .agg #[.bool n', .string ⟨p'.toArray⟩, .string ⟨q'.toArray⟩]] w fun e w' => e = .returned (rbv (x - y)) ∧ Since w w' := by
  go_enter Tryz.func25, Tryz.ntmps25
  go_upto_region 1 with (fail)
  obtain ⟨W0, hW0, hB0, hB1, hB2, hb⟩ := start3 w 23 23 23 [.bool n, .string ⟨p.toArray⟩, .string ⟨q.toArray⟩] [.bool n', .string ⟨p'.toArray⟩, .string ⟨q'.toArray⟩] [.bool false, .string ⟨#[]⟩, .string ⟨#[]⟩]
  rw [← hW0]
  clear hW0
  refine lx_region_tail [] (by kernel_rfl) (by kernel_rfl) (by kernel_rfl) rfl (lasts_nil) ?_
  simp only [its, List.dropLast, Nat.zero_add, Nat.reduceAdd]
  refine ja hB0 Tryz.underlying23 (by rfl) info_rat ?_
  refine ja hB1 Tryz.underlying23 (by rfl) info_rat ?_
  refine jc (rt (rN (-y)) (rP (-y)) (rD (-y))) (fun X hX hF => negS n' p' q' HY.out X h') ?_
  refine jc (rt (rN (x + (-y))) (rP (x + (-y))) (rD (x + (-y)))) (fun X hX hF => addS n p q (rN (-y)) (rP (-y)) (rD (-y)) HX.out (rq_rb (-y)) X h (tzR sy (by omega))) ?_
  refine jz fun X1 hX1 => ?_
  have hB0 := hB0.bel hX1
  have hB1 := hB1.bel hX1
  have hB2 := hB2.bel hX1
  have hb := bel_next hb hX1
  clear hX1
  refine osb 23 4 8 (w.heap.size + 2) 23 hB2 [.bool (rN (x + (-y))), .string ⟨(rP (x + (-y))).toArray⟩, .string ⟨(rD (x + (-y))).toArray⟩] info_rat ?_
  intro w9 hR9 hO9 hB9 hs9
  have hb9 := hB9 _ _ hb (by omega)
  clear hO9 hB9
  go_wp2
  refine post_cell rfl rfl (by rfl) Tryz.underlying23 rfl hR9 info_rat ⟨by rw [Rat.sub_eq_add_neg], hb9⟩

theorem subV5 (n : Bool) (p q : List UInt8) (n' : Bool) (p' q' : List UInt8) {x : Rat} (hx : rq n p q = x) {y : Rat} (hy : rq n' p' q' = y) (w : World) (h : tz p q 1000000) (h' : tz p' q' 1000000) : Calls Tryz.prog 25 #[.agg #[.bool n, .string ⟨p.toArray⟩, .string ⟨q.toArray⟩], .agg #[.bool n', .string ⟨p'.toArray⟩, .string ⟨q'.toArray⟩]] w fun e w' => e = .returned (rbv (x - y)) ∧ Since w w' := sub5 n p q n' p' q' x y hx hy w h h' (szR_neg (szR_tz hy h'))
theorem mul5_true_true (n : Bool) (p q : List UInt8) (n' : Bool) (p' q' : List UInt8) (x y : Rat) (HX : Hid (rq n p q = x)) (HY : Hid (rq n' p' q' = y)) (w : World) (h : tz p q 1000000) (h' : tz p' q' 1000000) (sx : szR x 1000000) (sy : szR y 1000000) (HM : Hid (rN x = true)) (HN : Hid (rN y = true)) (HK : Hid (mkRat (sg false (x.num.natAbs * y.num.natAbs)) (x.den * y.den) = x * y)) : Calls Tryz.prog 27 #[.agg #[.bool n, .string ⟨p.toArray⟩, .string ⟨q.toArray⟩], .agg #[.bool n', .string ⟨p'.toArray⟩, .string ⟨q'.toArray⟩]] w fun e w' => e = .returned (rbv (x * y)) ∧ Since w w' := by
  have lpq := be_mulL sx.1 sy.1
  have lde := be_mulL sx.2 sy.2
  have l4 := sx.1
  have l5 := sx.2
  have l6 := sy.1
  have l7 := sy.2
  have HDP : Hid (0 < (x.den * y.den)) := Nat.mul_pos (Nat.pos_of_ne_zero x.den_nz) (Nat.pos_of_ne_zero y.den_nz)
  go_enter Tryz.func27, Tryz.ntmps27
  go_upto_region 1 with (fail)
  obtain ⟨W0, hW0, hB0, hB1, hB2, hb⟩ := start3 w 23 23 23 [.bool n, .string ⟨p.toArray⟩, .string ⟨q.toArray⟩] [.bool n', .string ⟨p'.toArray⟩, .string ⟨q'.toArray⟩] [.bool false, .string ⟨#[]⟩, .string ⟨#[]⟩]
  rw [← hW0]
  clear hW0
  refine jq 2 ?_
  refine ja hB0 Tryz.underlying23 (by rfl) info_rat ?_
  refine jc (rt true (rP x) (rD x)) (fun X hX hF => mo (cleanS n p q HX.out X h) (by rw [rbv_n HM.out])) ?_
  refine jz fun X1 hX1 => ?_
  have hB0 := hB0.bel hX1
  have hB1 := hB1.bel hX1
  have hB2 := hB2.bel hX1
  have hb := bel_next hb hX1
  clear hX1
  go_upto_region 2 with (refine osn 23 5 12 #[.bool true, .string ⟨(rP x).toArray⟩, .string ⟨(rD x).toArray⟩] info_rat ?_)
  obtain ⟨Y1, hY9, hD5, hS9⟩ := start1 X1 23 [.bool true, .string ⟨(rP x).toArray⟩, .string ⟨(rD x).toArray⟩]
  rw [← hY9]
  clear hY9
  have hgs5 := hb.size
  have hlt5x0 := hB0.lt
  have hlt5x1 := hB1.lt
  have hlt5x2 := hB2.lt
  have hB0 := hB0.bel hS9
  have hB1 := hB1.bel hS9
  have hB2 := hB2.bel hS9
  have hb := bel_next hb hS9
  clear hS9
  generalize X1.heap.size = g5 at *
  refine jq 2 ?_
  refine ja hB1 Tryz.underlying23 (by rfl) info_rat ?_
  refine jc (rt true (rP y) (rD y)) (fun X hX hF => mo (cleanS n' p' q' HY.out X h') (by rw [rbv_n HN.out])) ?_
  refine jz fun X2 hX2 => ?_
  have hB0 := hB0.bel hX2
  have hB1 := hB1.bel hX2
  have hB2 := hB2.bel hX2
  have hD5 := hD5.bel hX2
  have hb := bel_next hb hX2
  clear hX2
  go_upto_region 3 with (refine osn 23 6 14 #[.bool true, .string ⟨(rP y).toArray⟩, .string ⟨(rD y).toArray⟩] info_rat ?_)
  obtain ⟨Y2, hY9, hD6, hS9⟩ := start1 X2 23 [.bool true, .string ⟨(rP y).toArray⟩, .string ⟨(rD y).toArray⟩]
  rw [← hY9]
  clear hY9
  have hgs6 := hb.size
  have hlt6x0 := hB0.lt
  have hlt6x1 := hB1.lt
  have hlt6x2 := hB2.lt
  have hlt6x3 := hD5.lt
  have hB0 := hB0.bel hS9
  have hB1 := hB1.bel hS9
  have hB2 := hB2.bel hS9
  have hD5 := hD5.bel hS9
  have hb := bel_next hb hS9
  clear hS9
  generalize X2.heap.size = g6 at *
  refine jp ?_
  refine ja hD5 Tryz.underlying23 (by rfl) info_rat ?_
  refine jc (.tuple #[st (be x.num.natAbs), st (be x.den)]) (fun X hX hF => partsN HM.out X) ?_
  refine jm (.tuple #[st (be x.num.natAbs), st (be x.den)]) ?_
  refine jm (st (be x.num.natAbs)) ?_
  refine jm (st (be x.den)) ?_
  refine jm (st (be x.num.natAbs)) ?_
  refine jm (st (be x.den)) ?_
  refine jz fun X3 hX3 => ?_
  have hB0 := hB0.bel hX3
  have hB1 := hB1.bel hX3
  have hB2 := hB2.bel hX3
  have hD5 := hD5.bel hX3
  have hD6 := hD6.bel hX3
  have hb := bel_next hb hX3
  clear hX3
  go_upto_region 4 with (fail)
  refine jp ?_
  refine ja hD6 Tryz.underlying23 (by rfl) info_rat ?_
  refine jc (.tuple #[st (be y.num.natAbs), st (be y.den)]) (fun X hX hF => partsN HN.out X) ?_
  refine jm (.tuple #[st (be y.num.natAbs), st (be y.den)]) ?_
  refine jm (st (be y.num.natAbs)) ?_
  refine jm (st (be y.den)) ?_
  refine jm (st (be y.num.natAbs)) ?_
  refine jm (st (be y.den)) ?_
  refine jz fun X4 hX4 => ?_
  have hB0 := hB0.bel hX4
  have hB1 := hB1.bel hX4
  have hB2 := hB2.bel hX4
  have hD5 := hD5.bel hX4
  have hD6 := hD6.bel hX4
  have hb := bel_next hb hX4
  clear hX4
  go_upto_region 5 with (fail)
  refine lx_region_tail [] (by kernel_rfl) (by kernel_rfl) (by kernel_rfl) rfl (lasts_nil) ?_
  simp only [its, List.dropLast, Nat.zero_add, Nat.reduceAdd]
  refine jn (.pointer (some ⟨g5, 0, none⟩)) ?_
  refine jf (.bool true) hD5 0 load_bool ?_
  refine jn (.pointer (some ⟨g6, 0, none⟩)) ?_
  refine jf (.bool true) hD6 0 load_bool ?_
  refine jm (.bool false) ?_
  refine jm (st (be x.num.natAbs)) ?_
  refine jm (st (be y.num.natAbs)) ?_
  refine jc (st (be (x.num.natAbs * y.num.natAbs))) (fun X hX hF => mo (rmulC (be x.num.natAbs) (be y.num.natAbs) X (by first | omega | decide) (by first | omega | decide)) (by rw [val_be, val_be])) ?_
  refine jm (st (be x.den)) ?_
  refine jm (st (be y.den)) ?_
  refine jc (st (be (x.den * y.den))) (fun X hX hF => mo (rmulC (be x.den) (be y.den) X (by first | omega | decide) (by first | omega | decide)) (by rw [val_be, val_be])) ?_
  refine jc (.agg #[.bool (rN (mkRat (sg false (x.num.natAbs * y.num.natAbs)) (x.den * y.den))), st (rP (mkRat (sg false (x.num.natAbs * y.num.natAbs)) (x.den * y.den))), st (rD (mkRat (sg false (x.num.natAbs * y.num.natAbs)) (x.den * y.den)))]) (fun X hX hF => lowS false (x.num.natAbs * y.num.natAbs) (x.den * y.den) X HDP.out (by first | omega | decide) (by first | omega | decide)) ?_
  refine jz fun X5 hX5 => ?_
  have hB0 := hB0.bel hX5
  have hB1 := hB1.bel hX5
  have hB2 := hB2.bel hX5
  have hD5 := hD5.bel hX5
  have hD6 := hD6.bel hX5
  have hb := bel_next hb hX5
  clear hX5
  refine osb 23 4 36 (w.heap.size + 2) 23 hB2 [.bool (rN (mkRat (sg false (x.num.natAbs * y.num.natAbs)) (x.den * y.den))), .string ⟨(rP (mkRat (sg false (x.num.natAbs * y.num.natAbs)) (x.den * y.den))).toArray⟩, .string ⟨(rD (mkRat (sg false (x.num.natAbs * y.num.natAbs)) (x.den * y.den))).toArray⟩] info_rat ?_
  intro w9 hR9 hO9 hB9 hs9
  have hb9 := hB9 _ _ hb (by omega)
  clear hO9 hB9
  go_wp2
  refine post_cell rfl rfl (by rfl) Tryz.underlying23 rfl hR9 info_rat ⟨by rw [HK.out], hb9⟩

theorem mul5_true_false (n : Bool) (p q : List UInt8) (n' : Bool) (p' q' : List UInt8) (x y : Rat) (HX : Hid (rq n p q = x)) (HY : Hid (rq n' p' q' = y)) (w : World) (h : tz p q 1000000) (h' : tz p' q' 1000000) (sx : szR x 1000000) (sy : szR y 1000000) (HM : Hid (rN x = true)) (HN : Hid (rN y = false)) (HK : Hid (mkRat (sg true (x.num.natAbs * y.num.natAbs)) (x.den * y.den) = x * y)) : Calls Tryz.prog 27 #[.agg #[.bool n, .string ⟨p.toArray⟩, .string ⟨q.toArray⟩], .agg #[.bool n', .string ⟨p'.toArray⟩, .string ⟨q'.toArray⟩]] w fun e w' => e = .returned (rbv (x * y)) ∧ Since w w' := by
  have lpq := be_mulL sx.1 sy.1
  have lde := be_mulL sx.2 sy.2
  have l4 := sx.1
  have l5 := sx.2
  have l6 := sy.1
  have l7 := sy.2
  have HDP : Hid (0 < (x.den * y.den)) := Nat.mul_pos (Nat.pos_of_ne_zero x.den_nz) (Nat.pos_of_ne_zero y.den_nz)
  go_enter Tryz.func27, Tryz.ntmps27
  go_upto_region 1 with (fail)
  obtain ⟨W0, hW0, hB0, hB1, hB2, hb⟩ := start3 w 23 23 23 [.bool n, .string ⟨p.toArray⟩, .string ⟨q.toArray⟩] [.bool n', .string ⟨p'.toArray⟩, .string ⟨q'.toArray⟩] [.bool false, .string ⟨#[]⟩, .string ⟨#[]⟩]
  rw [← hW0]
  clear hW0
  refine jq 2 ?_
  refine ja hB0 Tryz.underlying23 (by rfl) info_rat ?_
  refine jc (rt true (rP x) (rD x)) (fun X hX hF => mo (cleanS n p q HX.out X h) (by rw [rbv_n HM.out])) ?_
  refine jz fun X1 hX1 => ?_
  have hB0 := hB0.bel hX1
  have hB1 := hB1.bel hX1
  have hB2 := hB2.bel hX1
  have hb := bel_next hb hX1
  clear hX1
  go_upto_region 2 with (refine osn 23 5 12 #[.bool true, .string ⟨(rP x).toArray⟩, .string ⟨(rD x).toArray⟩] info_rat ?_)
  obtain ⟨Y1, hY9, hD5, hS9⟩ := start1 X1 23 [.bool true, .string ⟨(rP x).toArray⟩, .string ⟨(rD x).toArray⟩]
  rw [← hY9]
  clear hY9
  have hgs5 := hb.size
  have hlt5x0 := hB0.lt
  have hlt5x1 := hB1.lt
  have hlt5x2 := hB2.lt
  have hB0 := hB0.bel hS9
  have hB1 := hB1.bel hS9
  have hB2 := hB2.bel hS9
  have hb := bel_next hb hS9
  clear hS9
  generalize X1.heap.size = g5 at *
  refine jq 2 ?_
  refine ja hB1 Tryz.underlying23 (by rfl) info_rat ?_
  refine jc (rt false (rP y) (rD y)) (fun X hX hF => mo (cleanS n' p' q' HY.out X h') (by rw [rbv_n HN.out])) ?_
  refine jz fun X2 hX2 => ?_
  have hB0 := hB0.bel hX2
  have hB1 := hB1.bel hX2
  have hB2 := hB2.bel hX2
  have hD5 := hD5.bel hX2
  have hb := bel_next hb hX2
  clear hX2
  go_upto_region 3 with (refine osn 23 6 14 #[.bool false, .string ⟨(rP y).toArray⟩, .string ⟨(rD y).toArray⟩] info_rat ?_)
  obtain ⟨Y2, hY9, hD6, hS9⟩ := start1 X2 23 [.bool false, .string ⟨(rP y).toArray⟩, .string ⟨(rD y).toArray⟩]
  rw [← hY9]
  clear hY9
  have hgs6 := hb.size
  have hlt6x0 := hB0.lt
  have hlt6x1 := hB1.lt
  have hlt6x2 := hB2.lt
  have hlt6x3 := hD5.lt
  have hB0 := hB0.bel hS9
  have hB1 := hB1.bel hS9
  have hB2 := hB2.bel hS9
  have hD5 := hD5.bel hS9
  have hb := bel_next hb hS9
  clear hS9
  generalize X2.heap.size = g6 at *
  refine jp ?_
  refine ja hD5 Tryz.underlying23 (by rfl) info_rat ?_
  refine jc (.tuple #[st (be x.num.natAbs), st (be x.den)]) (fun X hX hF => partsN HM.out X) ?_
  refine jm (.tuple #[st (be x.num.natAbs), st (be x.den)]) ?_
  refine jm (st (be x.num.natAbs)) ?_
  refine jm (st (be x.den)) ?_
  refine jm (st (be x.num.natAbs)) ?_
  refine jm (st (be x.den)) ?_
  refine jz fun X3 hX3 => ?_
  have hB0 := hB0.bel hX3
  have hB1 := hB1.bel hX3
  have hB2 := hB2.bel hX3
  have hD5 := hD5.bel hX3
  have hD6 := hD6.bel hX3
  have hb := bel_next hb hX3
  clear hX3
  go_upto_region 4 with (fail)
  refine jp ?_
  refine ja hD6 Tryz.underlying23 (by rfl) info_rat ?_
  refine jc (.tuple #[st (be y.num.natAbs), st (be y.den)]) (fun X hX hF => partsN HN.out X) ?_
  refine jm (.tuple #[st (be y.num.natAbs), st (be y.den)]) ?_
  refine jm (st (be y.num.natAbs)) ?_
  refine jm (st (be y.den)) ?_
  refine jm (st (be y.num.natAbs)) ?_
  refine jm (st (be y.den)) ?_
  refine jz fun X4 hX4 => ?_
  have hB0 := hB0.bel hX4
  have hB1 := hB1.bel hX4
  have hB2 := hB2.bel hX4
  have hD5 := hD5.bel hX4
  have hD6 := hD6.bel hX4
  have hb := bel_next hb hX4
  clear hX4
  go_upto_region 5 with (fail)
  refine lx_region_tail [] (by kernel_rfl) (by kernel_rfl) (by kernel_rfl) rfl (lasts_nil) ?_
  simp only [its, List.dropLast, Nat.zero_add, Nat.reduceAdd]
  refine jn (.pointer (some ⟨g5, 0, none⟩)) ?_
  refine jf (.bool true) hD5 0 load_bool ?_
  refine jn (.pointer (some ⟨g6, 0, none⟩)) ?_
  refine jf (.bool false) hD6 0 load_bool ?_
  refine jm (.bool true) ?_
  refine jm (st (be x.num.natAbs)) ?_
  refine jm (st (be y.num.natAbs)) ?_
  refine jc (st (be (x.num.natAbs * y.num.natAbs))) (fun X hX hF => mo (rmulC (be x.num.natAbs) (be y.num.natAbs) X (by first | omega | decide) (by first | omega | decide)) (by rw [val_be, val_be])) ?_
  refine jm (st (be x.den)) ?_
  refine jm (st (be y.den)) ?_
  refine jc (st (be (x.den * y.den))) (fun X hX hF => mo (rmulC (be x.den) (be y.den) X (by first | omega | decide) (by first | omega | decide)) (by rw [val_be, val_be])) ?_
  refine jc (.agg #[.bool (rN (mkRat (sg true (x.num.natAbs * y.num.natAbs)) (x.den * y.den))), st (rP (mkRat (sg true (x.num.natAbs * y.num.natAbs)) (x.den * y.den))), st (rD (mkRat (sg true (x.num.natAbs * y.num.natAbs)) (x.den * y.den)))]) (fun X hX hF => lowS true (x.num.natAbs * y.num.natAbs) (x.den * y.den) X HDP.out (by first | omega | decide) (by first | omega | decide)) ?_
  refine jz fun X5 hX5 => ?_
  have hB0 := hB0.bel hX5
  have hB1 := hB1.bel hX5
  have hB2 := hB2.bel hX5
  have hD5 := hD5.bel hX5
  have hD6 := hD6.bel hX5
  have hb := bel_next hb hX5
  clear hX5
  refine osb 23 4 36 (w.heap.size + 2) 23 hB2 [.bool (rN (mkRat (sg true (x.num.natAbs * y.num.natAbs)) (x.den * y.den))), .string ⟨(rP (mkRat (sg true (x.num.natAbs * y.num.natAbs)) (x.den * y.den))).toArray⟩, .string ⟨(rD (mkRat (sg true (x.num.natAbs * y.num.natAbs)) (x.den * y.den))).toArray⟩] info_rat ?_
  intro w9 hR9 hO9 hB9 hs9
  have hb9 := hB9 _ _ hb (by omega)
  clear hO9 hB9
  go_wp2
  refine post_cell rfl rfl (by rfl) Tryz.underlying23 rfl hR9 info_rat ⟨by rw [HK.out], hb9⟩

theorem mul5_false_true (n : Bool) (p q : List UInt8) (n' : Bool) (p' q' : List UInt8) (x y : Rat) (HX : Hid (rq n p q = x)) (HY : Hid (rq n' p' q' = y)) (w : World) (h : tz p q 1000000) (h' : tz p' q' 1000000) (sx : szR x 1000000) (sy : szR y 1000000) (HM : Hid (rN x = false)) (HN : Hid (rN y = true)) (HK : Hid (mkRat (sg true (x.num.natAbs * y.num.natAbs)) (x.den * y.den) = x * y)) : Calls Tryz.prog 27 #[.agg #[.bool n, .string ⟨p.toArray⟩, .string ⟨q.toArray⟩], .agg #[.bool n', .string ⟨p'.toArray⟩, .string ⟨q'.toArray⟩]] w fun e w' => e = .returned (rbv (x * y)) ∧ Since w w' := by
  have lpq := be_mulL sx.1 sy.1
  have lde := be_mulL sx.2 sy.2
  have l4 := sx.1
  have l5 := sx.2
  have l6 := sy.1
  have l7 := sy.2
  have HDP : Hid (0 < (x.den * y.den)) := Nat.mul_pos (Nat.pos_of_ne_zero x.den_nz) (Nat.pos_of_ne_zero y.den_nz)
  go_enter Tryz.func27, Tryz.ntmps27
  go_upto_region 1 with (fail)
  obtain ⟨W0, hW0, hB0, hB1, hB2, hb⟩ := start3 w 23 23 23 [.bool n, .string ⟨p.toArray⟩, .string ⟨q.toArray⟩] [.bool n', .string ⟨p'.toArray⟩, .string ⟨q'.toArray⟩] [.bool false, .string ⟨#[]⟩, .string ⟨#[]⟩]
  rw [← hW0]
  clear hW0
  refine jq 2 ?_
  refine ja hB0 Tryz.underlying23 (by rfl) info_rat ?_
  refine jc (rt false (rP x) (rD x)) (fun X hX hF => mo (cleanS n p q HX.out X h) (by rw [rbv_n HM.out])) ?_
  refine jz fun X1 hX1 => ?_
  have hB0 := hB0.bel hX1
  have hB1 := hB1.bel hX1
  have hB2 := hB2.bel hX1
  have hb := bel_next hb hX1
  clear hX1
  go_upto_region 2 with (refine osn 23 5 12 #[.bool false, .string ⟨(rP x).toArray⟩, .string ⟨(rD x).toArray⟩] info_rat ?_)
  obtain ⟨Y1, hY9, hD5, hS9⟩ := start1 X1 23 [.bool false, .string ⟨(rP x).toArray⟩, .string ⟨(rD x).toArray⟩]
  rw [← hY9]
  clear hY9
  have hgs5 := hb.size
  have hlt5x0 := hB0.lt
  have hlt5x1 := hB1.lt
  have hlt5x2 := hB2.lt
  have hB0 := hB0.bel hS9
  have hB1 := hB1.bel hS9
  have hB2 := hB2.bel hS9
  have hb := bel_next hb hS9
  clear hS9
  generalize X1.heap.size = g5 at *
  refine jq 2 ?_
  refine ja hB1 Tryz.underlying23 (by rfl) info_rat ?_
  refine jc (rt true (rP y) (rD y)) (fun X hX hF => mo (cleanS n' p' q' HY.out X h') (by rw [rbv_n HN.out])) ?_
  refine jz fun X2 hX2 => ?_
  have hB0 := hB0.bel hX2
  have hB1 := hB1.bel hX2
  have hB2 := hB2.bel hX2
  have hD5 := hD5.bel hX2
  have hb := bel_next hb hX2
  clear hX2
  go_upto_region 3 with (refine osn 23 6 14 #[.bool true, .string ⟨(rP y).toArray⟩, .string ⟨(rD y).toArray⟩] info_rat ?_)
  obtain ⟨Y2, hY9, hD6, hS9⟩ := start1 X2 23 [.bool true, .string ⟨(rP y).toArray⟩, .string ⟨(rD y).toArray⟩]
  rw [← hY9]
  clear hY9
  have hgs6 := hb.size
  have hlt6x0 := hB0.lt
  have hlt6x1 := hB1.lt
  have hlt6x2 := hB2.lt
  have hlt6x3 := hD5.lt
  have hB0 := hB0.bel hS9
  have hB1 := hB1.bel hS9
  have hB2 := hB2.bel hS9
  have hD5 := hD5.bel hS9
  have hb := bel_next hb hS9
  clear hS9
  generalize X2.heap.size = g6 at *
  refine jp ?_
  refine ja hD5 Tryz.underlying23 (by rfl) info_rat ?_
  refine jc (.tuple #[st (be x.num.natAbs), st (be x.den)]) (fun X hX hF => partsN HM.out X) ?_
  refine jm (.tuple #[st (be x.num.natAbs), st (be x.den)]) ?_
  refine jm (st (be x.num.natAbs)) ?_
  refine jm (st (be x.den)) ?_
  refine jm (st (be x.num.natAbs)) ?_
  refine jm (st (be x.den)) ?_
  refine jz fun X3 hX3 => ?_
  have hB0 := hB0.bel hX3
  have hB1 := hB1.bel hX3
  have hB2 := hB2.bel hX3
  have hD5 := hD5.bel hX3
  have hD6 := hD6.bel hX3
  have hb := bel_next hb hX3
  clear hX3
  go_upto_region 4 with (fail)
  refine jp ?_
  refine ja hD6 Tryz.underlying23 (by rfl) info_rat ?_
  refine jc (.tuple #[st (be y.num.natAbs), st (be y.den)]) (fun X hX hF => partsN HN.out X) ?_
  refine jm (.tuple #[st (be y.num.natAbs), st (be y.den)]) ?_
  refine jm (st (be y.num.natAbs)) ?_
  refine jm (st (be y.den)) ?_
  refine jm (st (be y.num.natAbs)) ?_
  refine jm (st (be y.den)) ?_
  refine jz fun X4 hX4 => ?_
  have hB0 := hB0.bel hX4
  have hB1 := hB1.bel hX4
  have hB2 := hB2.bel hX4
  have hD5 := hD5.bel hX4
  have hD6 := hD6.bel hX4
  have hb := bel_next hb hX4
  clear hX4
  go_upto_region 5 with (fail)
  refine lx_region_tail [] (by kernel_rfl) (by kernel_rfl) (by kernel_rfl) rfl (lasts_nil) ?_
  simp only [its, List.dropLast, Nat.zero_add, Nat.reduceAdd]
  refine jn (.pointer (some ⟨g5, 0, none⟩)) ?_
  refine jf (.bool false) hD5 0 load_bool ?_
  refine jn (.pointer (some ⟨g6, 0, none⟩)) ?_
  refine jf (.bool true) hD6 0 load_bool ?_
  refine jm (.bool true) ?_
  refine jm (st (be x.num.natAbs)) ?_
  refine jm (st (be y.num.natAbs)) ?_
  refine jc (st (be (x.num.natAbs * y.num.natAbs))) (fun X hX hF => mo (rmulC (be x.num.natAbs) (be y.num.natAbs) X (by first | omega | decide) (by first | omega | decide)) (by rw [val_be, val_be])) ?_
  refine jm (st (be x.den)) ?_
  refine jm (st (be y.den)) ?_
  refine jc (st (be (x.den * y.den))) (fun X hX hF => mo (rmulC (be x.den) (be y.den) X (by first | omega | decide) (by first | omega | decide)) (by rw [val_be, val_be])) ?_
  refine jc (.agg #[.bool (rN (mkRat (sg true (x.num.natAbs * y.num.natAbs)) (x.den * y.den))), st (rP (mkRat (sg true (x.num.natAbs * y.num.natAbs)) (x.den * y.den))), st (rD (mkRat (sg true (x.num.natAbs * y.num.natAbs)) (x.den * y.den)))]) (fun X hX hF => lowS true (x.num.natAbs * y.num.natAbs) (x.den * y.den) X HDP.out (by first | omega | decide) (by first | omega | decide)) ?_
  refine jz fun X5 hX5 => ?_
  have hB0 := hB0.bel hX5
  have hB1 := hB1.bel hX5
  have hB2 := hB2.bel hX5
  have hD5 := hD5.bel hX5
  have hD6 := hD6.bel hX5
  have hb := bel_next hb hX5
  clear hX5
  refine osb 23 4 36 (w.heap.size + 2) 23 hB2 [.bool (rN (mkRat (sg true (x.num.natAbs * y.num.natAbs)) (x.den * y.den))), .string ⟨(rP (mkRat (sg true (x.num.natAbs * y.num.natAbs)) (x.den * y.den))).toArray⟩, .string ⟨(rD (mkRat (sg true (x.num.natAbs * y.num.natAbs)) (x.den * y.den))).toArray⟩] info_rat ?_
  intro w9 hR9 hO9 hB9 hs9
  have hb9 := hB9 _ _ hb (by omega)
  clear hO9 hB9
  go_wp2
  refine post_cell rfl rfl (by rfl) Tryz.underlying23 rfl hR9 info_rat ⟨by rw [HK.out], hb9⟩

theorem mul5_false_false (n : Bool) (p q : List UInt8) (n' : Bool) (p' q' : List UInt8) (x y : Rat) (HX : Hid (rq n p q = x)) (HY : Hid (rq n' p' q' = y)) (w : World) (h : tz p q 1000000) (h' : tz p' q' 1000000) (sx : szR x 1000000) (sy : szR y 1000000) (HM : Hid (rN x = false)) (HN : Hid (rN y = false)) (HK : Hid (mkRat (sg false (x.num.natAbs * y.num.natAbs)) (x.den * y.den) = x * y)) : Calls Tryz.prog 27 #[.agg #[.bool n, .string ⟨p.toArray⟩, .string ⟨q.toArray⟩], .agg #[.bool n', .string ⟨p'.toArray⟩, .string ⟨q'.toArray⟩]] w fun e w' => e = .returned (rbv (x * y)) ∧ Since w w' := by
  have lpq := be_mulL sx.1 sy.1
  have lde := be_mulL sx.2 sy.2
  have l4 := sx.1
  have l5 := sx.2
  have l6 := sy.1
  have l7 := sy.2
  have HDP : Hid (0 < (x.den * y.den)) := Nat.mul_pos (Nat.pos_of_ne_zero x.den_nz) (Nat.pos_of_ne_zero y.den_nz)
  go_enter Tryz.func27, Tryz.ntmps27
  go_upto_region 1 with (fail)
  obtain ⟨W0, hW0, hB0, hB1, hB2, hb⟩ := start3 w 23 23 23 [.bool n, .string ⟨p.toArray⟩, .string ⟨q.toArray⟩] [.bool n', .string ⟨p'.toArray⟩, .string ⟨q'.toArray⟩] [.bool false, .string ⟨#[]⟩, .string ⟨#[]⟩]
  rw [← hW0]
  clear hW0
  refine jq 2 ?_
  refine ja hB0 Tryz.underlying23 (by rfl) info_rat ?_
  refine jc (rt false (rP x) (rD x)) (fun X hX hF => mo (cleanS n p q HX.out X h) (by rw [rbv_n HM.out])) ?_
  refine jz fun X1 hX1 => ?_
  have hB0 := hB0.bel hX1
  have hB1 := hB1.bel hX1
  have hB2 := hB2.bel hX1
  have hb := bel_next hb hX1
  clear hX1
  go_upto_region 2 with (refine osn 23 5 12 #[.bool false, .string ⟨(rP x).toArray⟩, .string ⟨(rD x).toArray⟩] info_rat ?_)
  obtain ⟨Y1, hY9, hD5, hS9⟩ := start1 X1 23 [.bool false, .string ⟨(rP x).toArray⟩, .string ⟨(rD x).toArray⟩]
  rw [← hY9]
  clear hY9
  have hgs5 := hb.size
  have hlt5x0 := hB0.lt
  have hlt5x1 := hB1.lt
  have hlt5x2 := hB2.lt
  have hB0 := hB0.bel hS9
  have hB1 := hB1.bel hS9
  have hB2 := hB2.bel hS9
  have hb := bel_next hb hS9
  clear hS9
  generalize X1.heap.size = g5 at *
  refine jq 2 ?_
  refine ja hB1 Tryz.underlying23 (by rfl) info_rat ?_
  refine jc (rt false (rP y) (rD y)) (fun X hX hF => mo (cleanS n' p' q' HY.out X h') (by rw [rbv_n HN.out])) ?_
  refine jz fun X2 hX2 => ?_
  have hB0 := hB0.bel hX2
  have hB1 := hB1.bel hX2
  have hB2 := hB2.bel hX2
  have hD5 := hD5.bel hX2
  have hb := bel_next hb hX2
  clear hX2
  go_upto_region 3 with (refine osn 23 6 14 #[.bool false, .string ⟨(rP y).toArray⟩, .string ⟨(rD y).toArray⟩] info_rat ?_)
  obtain ⟨Y2, hY9, hD6, hS9⟩ := start1 X2 23 [.bool false, .string ⟨(rP y).toArray⟩, .string ⟨(rD y).toArray⟩]
  rw [← hY9]
  clear hY9
  have hgs6 := hb.size
  have hlt6x0 := hB0.lt
  have hlt6x1 := hB1.lt
  have hlt6x2 := hB2.lt
  have hlt6x3 := hD5.lt
  have hB0 := hB0.bel hS9
  have hB1 := hB1.bel hS9
  have hB2 := hB2.bel hS9
  have hD5 := hD5.bel hS9
  have hb := bel_next hb hS9
  clear hS9
  generalize X2.heap.size = g6 at *
  refine jp ?_
  refine ja hD5 Tryz.underlying23 (by rfl) info_rat ?_
  refine jc (.tuple #[st (be x.num.natAbs), st (be x.den)]) (fun X hX hF => partsN HM.out X) ?_
  refine jm (.tuple #[st (be x.num.natAbs), st (be x.den)]) ?_
  refine jm (st (be x.num.natAbs)) ?_
  refine jm (st (be x.den)) ?_
  refine jm (st (be x.num.natAbs)) ?_
  refine jm (st (be x.den)) ?_
  refine jz fun X3 hX3 => ?_
  have hB0 := hB0.bel hX3
  have hB1 := hB1.bel hX3
  have hB2 := hB2.bel hX3
  have hD5 := hD5.bel hX3
  have hD6 := hD6.bel hX3
  have hb := bel_next hb hX3
  clear hX3
  go_upto_region 4 with (fail)
  refine jp ?_
  refine ja hD6 Tryz.underlying23 (by rfl) info_rat ?_
  refine jc (.tuple #[st (be y.num.natAbs), st (be y.den)]) (fun X hX hF => partsN HN.out X) ?_
  refine jm (.tuple #[st (be y.num.natAbs), st (be y.den)]) ?_
  refine jm (st (be y.num.natAbs)) ?_
  refine jm (st (be y.den)) ?_
  refine jm (st (be y.num.natAbs)) ?_
  refine jm (st (be y.den)) ?_
  refine jz fun X4 hX4 => ?_
  have hB0 := hB0.bel hX4
  have hB1 := hB1.bel hX4
  have hB2 := hB2.bel hX4
  have hD5 := hD5.bel hX4
  have hD6 := hD6.bel hX4
  have hb := bel_next hb hX4
  clear hX4
  go_upto_region 5 with (fail)
  refine lx_region_tail [] (by kernel_rfl) (by kernel_rfl) (by kernel_rfl) rfl (lasts_nil) ?_
  simp only [its, List.dropLast, Nat.zero_add, Nat.reduceAdd]
  refine jn (.pointer (some ⟨g5, 0, none⟩)) ?_
  refine jf (.bool false) hD5 0 load_bool ?_
  refine jn (.pointer (some ⟨g6, 0, none⟩)) ?_
  refine jf (.bool false) hD6 0 load_bool ?_
  refine jm (.bool false) ?_
  refine jm (st (be x.num.natAbs)) ?_
  refine jm (st (be y.num.natAbs)) ?_
  refine jc (st (be (x.num.natAbs * y.num.natAbs))) (fun X hX hF => mo (rmulC (be x.num.natAbs) (be y.num.natAbs) X (by first | omega | decide) (by first | omega | decide)) (by rw [val_be, val_be])) ?_
  refine jm (st (be x.den)) ?_
  refine jm (st (be y.den)) ?_
  refine jc (st (be (x.den * y.den))) (fun X hX hF => mo (rmulC (be x.den) (be y.den) X (by first | omega | decide) (by first | omega | decide)) (by rw [val_be, val_be])) ?_
  refine jc (.agg #[.bool (rN (mkRat (sg false (x.num.natAbs * y.num.natAbs)) (x.den * y.den))), st (rP (mkRat (sg false (x.num.natAbs * y.num.natAbs)) (x.den * y.den))), st (rD (mkRat (sg false (x.num.natAbs * y.num.natAbs)) (x.den * y.den)))]) (fun X hX hF => lowS false (x.num.natAbs * y.num.natAbs) (x.den * y.den) X HDP.out (by first | omega | decide) (by first | omega | decide)) ?_
  refine jz fun X5 hX5 => ?_
  have hB0 := hB0.bel hX5
  have hB1 := hB1.bel hX5
  have hB2 := hB2.bel hX5
  have hD5 := hD5.bel hX5
  have hD6 := hD6.bel hX5
  have hb := bel_next hb hX5
  clear hX5
  refine osb 23 4 36 (w.heap.size + 2) 23 hB2 [.bool (rN (mkRat (sg false (x.num.natAbs * y.num.natAbs)) (x.den * y.den))), .string ⟨(rP (mkRat (sg false (x.num.natAbs * y.num.natAbs)) (x.den * y.den))).toArray⟩, .string ⟨(rD (mkRat (sg false (x.num.natAbs * y.num.natAbs)) (x.den * y.den))).toArray⟩] info_rat ?_
  intro w9 hR9 hO9 hB9 hs9
  have hb9 := hB9 _ _ hb (by omega)
  clear hO9 hB9
  go_wp2
  refine post_cell rfl rfl (by rfl) Tryz.underlying23 rfl hR9 info_rat ⟨by rw [HK.out], hb9⟩

theorem mulS (n : Bool) (p q : List UInt8) (n' : Bool) (p' q' : List UInt8) {x : Rat} (hx : rq n p q = x) {y : Rat} (hy : rq n' p' q' = y) (w : World) (h : tz p q 1000000) (h' : tz p' q' 1000000) : Calls Tryz.prog 27 #[.agg #[.bool n, .string ⟨p.toArray⟩, .string ⟨q.toArray⟩], .agg #[.bool n', .string ⟨p'.toArray⟩, .string ⟨q'.toArray⟩]] w fun e w' => e = .returned (rbv (x * y)) ∧ Since w w' := by
  have sx := szR_tz hx h
  have sy := szR_tz hy h'
  have key := mul_fr (rN x) (rN y) x.num.natAbs y.num.natAbs x.den y.den
  rw [rb_mk, rb_mk] at key
  rcases hm : rN x with _ | _ <;> rcases hn : rN y with _ | _ <;> rw [hm, hn] at key
  · exact mul5_false_false n p q n' p' q' x y hx hy w h h' sx sy hm hn key.symm
  · exact mul5_false_true n p q n' p' q' x y hx hy w h h' sx sy hm hn key.symm
  · exact mul5_true_false n p q n' p' q' x y hx hy w h h' sx sy hm hn key.symm
  · exact mul5_true_true n p q n' p' q' x y hx hy w h h' sx sy hm hn key.symm

theorem div5_1 (n : Bool) (p q : List UInt8) (n' : Bool) (p' q' : List UInt8) (x y : Rat) (HX : Hid (rq n p q = x)) (HY : Hid (rq n' p' q' = y)) (w : World) (h : tz p q 1000000) (h' : tz p' q' 1000000) (HE : Hid (rP y = [])) : Calls Tryz.prog 11 #[.agg #[.bool n, .string ⟨p.toArray⟩, .string ⟨q.toArray⟩], .agg #[.bool n', .string ⟨p'.toArray⟩, .string ⟨q'.toArray⟩]] w fun e w' => e = .returned (.agg #[.bool false, .string ⟨#[]⟩, .string ⟨#[]⟩, .int .i64 1]) ∧ Since w w' := by
  go_enter Tryz.func11, Tryz.ntmps11
  go_upto_region 1 with (fail)
  obtain ⟨W0, hW0, hB0, hB1, hB2, hb⟩ := start3 w 23 23 31 [.bool n, .string ⟨p.toArray⟩, .string ⟨q.toArray⟩] [.bool n', .string ⟨p'.toArray⟩, .string ⟨q'.toArray⟩] [.bool false, .string ⟨#[]⟩, .string ⟨#[]⟩, .int .i64 0]
  rw [← hW0]
  clear hW0
  refine jq 2 ?_
  refine ja hB1 Tryz.underlying23 (by rfl) info_rat ?_
  refine jc (rt (rN y) (rP y) (rD y)) (fun X hX hF => cleanS n' p' q' HY.out X h') ?_
  refine jz fun X1 hX1 => ?_
  have hB0 := hB0.bel hX1
  have hB1 := hB1.bel hX1
  have hB2 := hB2.bel hX1
  have hb := bel_next hb hX1
  clear hX1
  go_upto_region 2 with (refine osn 23 5 7 #[.bool (rN y), .string ⟨(rP y).toArray⟩, .string ⟨(rD y).toArray⟩] info_rat ?_)
  obtain ⟨Y1, hY9, hD5, hS9⟩ := start1 X1 23 [.bool (rN y), .string ⟨(rP y).toArray⟩, .string ⟨(rD y).toArray⟩]
  rw [← hY9]
  clear hY9
  have hgs5 := hb.size
  have hlt5x0 := hB0.lt
  have hlt5x1 := hB1.lt
  have hlt5x2 := hB2.lt
  have hB0 := hB0.bel hS9
  have hB1 := hB1.bel hS9
  have hB2 := hB2.bel hS9
  have hb := bel_next hb hS9
  clear hS9
  generalize X1.heap.size = g5 at *
  refine jp ?_
  refine jn (.pointer (some ⟨g5, 1, none⟩)) ?_
  refine jf (st (rP y)) hD5 1 load_str ?_
  refine jv (.bool true) (exec_eqsB _ _ _ _ (by rfl) (rP y) ([] : List UInt8) (by rfl) (by rfl) true (eqs_t HE.out)) ?_
  refine jz fun X2 hX2 => ?_
  have hB0 := hB0.bel hX2
  have hB1 := hB1.bel hX2
  have hB2 := hB2.bel hX2
  have hD5 := hD5.bel hX2
  have hb := bel_next hb hX2
  clear hX2
  go_upto_region 3 with (fail)
  refine jq 1 ?_
  refine jn (.agg #[.bool false, .string ⟨#[]⟩, .string ⟨#[]⟩, .int .i64 1]) ?_
  refine jz fun X3 hX3 => ?_
  have hB0 := hB0.bel hX3
  have hB1 := hB1.bel hX3
  have hB2 := hB2.bel hX3
  have hD5 := hD5.bel hX3
  have hb := bel_next hb hX3
  clear hX3
  refine osb 31 4 11 (w.heap.size + 2) 31 hB2 [.bool false, .string ⟨#[]⟩, .string ⟨#[]⟩, .int .i64 1] info_made5 ?_
  intro w9 hR9 hO9 hB9 hs9
  have hb9 := hB9 _ _ hb (by omega)
  clear hO9 hB9
  go_wp2
  refine post_cell rfl rfl (by rfl) Tryz.underlying31 rfl hR9 info_made5 ⟨rfl, hb9⟩

theorem div5_0 (n : Bool) (p q : List UInt8) (n' : Bool) (p' q' : List UInt8) (x y : Rat) (HX : Hid (rq n p q = x)) (HY : Hid (rq n' p' q' = y)) (w : World) (h : tz p q 1000000) (h' : tz p' q' 1000000) (HE : Hid (rP y ≠ [])) (HI : Hid (rq (rN y) (rD y) (rP y) = y⁻¹)) (ht : tz (rD y) (rP y) 1000000) : Calls Tryz.prog 11 #[.agg #[.bool n, .string ⟨p.toArray⟩, .string ⟨q.toArray⟩], .agg #[.bool n', .string ⟨p'.toArray⟩, .string ⟨q'.toArray⟩]] w fun e w' => e = .returned (.agg #[.bool (rN (x / y)), .string ⟨(rP (x / y)).toArray⟩, .string ⟨(rD (x / y)).toArray⟩, .int .i64 0]) ∧ Since w w' := by
  go_enter Tryz.func11, Tryz.ntmps11
  go_upto_region 1 with (fail)
  obtain ⟨W0, hW0, hB0, hB1, hB2, hb⟩ := start3 w 23 23 31 [.bool n, .string ⟨p.toArray⟩, .string ⟨q.toArray⟩] [.bool n', .string ⟨p'.toArray⟩, .string ⟨q'.toArray⟩] [.bool false, .string ⟨#[]⟩, .string ⟨#[]⟩, .int .i64 0]
  rw [← hW0]
  clear hW0
  refine jq 2 ?_
  refine ja hB1 Tryz.underlying23 (by rfl) info_rat ?_
  refine jc (rt (rN y) (rP y) (rD y)) (fun X hX hF => cleanS n' p' q' HY.out X h') ?_
  refine jz fun X1 hX1 => ?_
  have hB0 := hB0.bel hX1
  have hB1 := hB1.bel hX1
  have hB2 := hB2.bel hX1
  have hb := bel_next hb hX1
  clear hX1
  go_upto_region 2 with (refine osn 23 5 7 #[.bool (rN y), .string ⟨(rP y).toArray⟩, .string ⟨(rD y).toArray⟩] info_rat ?_)
  obtain ⟨Y1, hY9, hD5, hS9⟩ := start1 X1 23 [.bool (rN y), .string ⟨(rP y).toArray⟩, .string ⟨(rD y).toArray⟩]
  rw [← hY9]
  clear hY9
  have hgs5 := hb.size
  have hlt5x0 := hB0.lt
  have hlt5x1 := hB1.lt
  have hlt5x2 := hB2.lt
  have hB0 := hB0.bel hS9
  have hB1 := hB1.bel hS9
  have hB2 := hB2.bel hS9
  have hb := bel_next hb hS9
  clear hS9
  generalize X1.heap.size = g5 at *
  refine jp ?_
  refine jn (.pointer (some ⟨g5, 1, none⟩)) ?_
  refine jf (st (rP y)) hD5 1 load_str ?_
  refine jv (.bool false) (exec_eqsB _ _ _ _ (by rfl) (rP y) ([] : List UInt8) (by rfl) (by rfl) false (eqs_f HE.out)) ?_
  refine jz fun X2 hX2 => ?_
  have hB0 := hB0.bel hX2
  have hB1 := hB1.bel hX2
  have hB2 := hB2.bel hX2
  have hD5 := hD5.bel hX2
  have hb := bel_next hb hX2
  clear hX2
  go_upto_region 4 with (fail)
  refine jq 10 ?_
  refine ja hB0 Tryz.underlying23 (by rfl) info_rat ?_
  refine jn (.pointer (some ⟨g5, 0, none⟩)) ?_
  refine jf (.bool (rN y)) hD5 0 load_bool ?_
  refine jn (.pointer (some ⟨g5, 2, none⟩)) ?_
  refine jf (st (rD y)) hD5 2 load_str ?_
  refine jn (.pointer (some ⟨g5, 1, none⟩)) ?_
  refine jf (st (rP y)) hD5 1 load_str ?_
  refine jn (rt (rN y) (rD y) (rP y)) ?_
  refine jc (rt (rN (x * y⁻¹)) (rP (x * y⁻¹)) (rD (x * y⁻¹))) (fun X hX hF => mulS n p q (rN y) (rD y) (rP y) HX.out HI.out X h ht) ?_
  refine jn (.agg #[.bool (rN (x * y⁻¹)), st (rP (x * y⁻¹)), st (rD (x * y⁻¹)), .int .i64 0]) ?_
  refine jz fun X3 hX3 => ?_
  have hB0 := hB0.bel hX3
  have hB1 := hB1.bel hX3
  have hB2 := hB2.bel hX3
  have hD5 := hD5.bel hX3
  have hb := bel_next hb hX3
  clear hX3
  refine osb 31 4 21 (w.heap.size + 2) 31 hB2 [.bool (rN (x * y⁻¹)), .string ⟨(rP (x * y⁻¹)).toArray⟩, .string ⟨(rD (x * y⁻¹)).toArray⟩, .int .i64 0] info_made5 ?_
  intro w9 hR9 hO9 hB9 hs9
  have hb9 := hB9 _ _ hb (by omega)
  clear hO9 hB9
  go_wp2
  refine post_cell rfl rfl (by rfl) Tryz.underlying31 rfl hR9 info_made5 ⟨by rw [Rat.div_def], hb9⟩

theorem rq_inv {y : Rat} (h0 : y ≠ 0) : rq (rN y) (rD y) (rP y) = y⁻¹ := by
  have hn : y.num ≠ 0 := fun h9 => h0 ((num_zero y).1 (by rw [h9]; rfl))
  have hp : 0 < y.num.natAbs := by omega
  have hd := Nat.pos_of_ne_zero y.den_nz
  have h1 := inv_fr (rN y) hp hd
  rw [rb_mk] at h1
  rw [h1]
  unfold rq
  have e1 : rD y = be y.den := by unfold rD; rw [if_neg hn]
  have e2 : rP y = be y.num.natAbs := rfl
  have hv : vd (rN y) (rD y) (rP y) = true := by
    unfold vd
    rw [e1, e2, if_neg (by rintro (h9 | h9); exact be_ne hd h9; exact be_ne hp h9), cn_be9, cn_be9, val_be, val_be]
    have := y.reduced
    unfold Nat.Coprime at this
    rw [Nat.gcd_comm, this]
    rfl
  rw [if_pos hv, e1, e2, val_be, val_be]
theorem divS0 (n : Bool) (p q : List UInt8) (n' : Bool) (p' q' : List UInt8) {x : Rat} (hx : rq n p q = x) {y : Rat} (hy : rq n' p' q' = y) (w : World) (h : tz p q 1000000) (h' : tz p' q' 1000000) (h0 : y = 0) : Calls Tryz.prog 11 #[.agg #[.bool n, .string ⟨p.toArray⟩, .string ⟨q.toArray⟩], .agg #[.bool n', .string ⟨p'.toArray⟩, .string ⟨q'.toArray⟩]] w fun e w' => e = .returned (.agg #[.bool false, .string ⟨#[]⟩, .string ⟨#[]⟩, .int .i64 1]) ∧ Since w w' := div5_1 n p q n' p' q' x y hx hy w h h' (by rw [h0]; rfl)
theorem divS (n : Bool) (p q : List UInt8) (n' : Bool) (p' q' : List UInt8) {x : Rat} (hx : rq n p q = x) {y : Rat} (hy : rq n' p' q' = y) (w : World) (h : tz p q 1000000) (h' : tz p' q' 1000000) (h0 : y ≠ 0) : Calls Tryz.prog 11 #[.agg #[.bool n, .string ⟨p.toArray⟩, .string ⟨q.toArray⟩], .agg #[.bool n', .string ⟨p'.toArray⟩, .string ⟨q'.toArray⟩]] w fun e w' => e = .returned (.agg #[.bool (rN (x / y)), .string ⟨(rP (x / y)).toArray⟩, .string ⟨(rD (x / y)).toArray⟩, .int .i64 0]) ∧ Since w w' :=
  have sy := szR_tz hy h'
  div5_0 n p q n' p' q' x y hx hy w h h' (fun h9 => h0 ((num_zero y).1 (be_nil.1 h9))) (rq_inv h0) ⟨sy.rD, sy.rP⟩
theorem cmp5_e (n : Bool) (p q : List UInt8) (n' : Bool) (p' q' : List UInt8) (x y : Rat) (HX : Hid (rq n p q = x)) (HY : Hid (rq n' p' q' = y)) (w : World) (h : tz p q 1000000) (h' : tz p' q' 1000000) (HE : Hid (rP (x - y) = [])) (HC : Hid (cmpR x y = 0)) : Calls Tryz.prog 29 #[.agg #[.bool n, .string ⟨p.toArray⟩, .string ⟨q.toArray⟩], .agg #[.bool n', .string ⟨p'.toArray⟩, .string ⟨q'.toArray⟩]] w fun e w' => e = .returned (.int .i64 (cmpR x y)) ∧ Since w w' := by
  go_enter Tryz.func29, Tryz.ntmps29
  go_upto_region 1 with (fail)
  obtain ⟨W0, hW0, hB0, hB1, hb⟩ := start2 w 23 23 [.bool n, .string ⟨p.toArray⟩, .string ⟨q.toArray⟩] [.bool n', .string ⟨p'.toArray⟩, .string ⟨q'.toArray⟩]
  rw [← hW0]
  clear hW0
  refine jq 3 ?_
  refine ja hB0 Tryz.underlying23 (by rfl) info_rat ?_
  refine ja hB1 Tryz.underlying23 (by rfl) info_rat ?_
  refine jc (rt (rN (x - y)) (rP (x - y)) (rD (x - y))) (fun X hX hF => subV5 n p q n' p' q' HX.out HY.out X h h') ?_
  refine jz fun X1 hX1 => ?_
  have hB0 := hB0.bel hX1
  have hB1 := hB1.bel hX1
  have hb := bel_next hb hX1
  clear hX1
  go_upto_region 2 with (refine osn 23 5 8 #[.bool (rN (x - y)), .string ⟨(rP (x - y)).toArray⟩, .string ⟨(rD (x - y)).toArray⟩] info_rat ?_)
  obtain ⟨Y1, hY9, hD5, hS9⟩ := start1 X1 23 [.bool (rN (x - y)), .string ⟨(rP (x - y)).toArray⟩, .string ⟨(rD (x - y)).toArray⟩]
  rw [← hY9]
  clear hY9
  have hgs5 := hb.size
  have hlt5x0 := hB0.lt
  have hlt5x1 := hB1.lt
  have hB0 := hB0.bel hS9
  have hB1 := hB1.bel hS9
  have hb := bel_next hb hS9
  clear hS9
  generalize X1.heap.size = g5 at *
  refine jp ?_
  refine jn (.pointer (some ⟨g5, 1, none⟩)) ?_
  refine jf (st (rP (x - y))) hD5 1 load_str ?_
  refine jv (.bool true) (exec_eqsB _ _ _ _ (by rfl) (rP (x - y)) ([] : List UInt8) (by rfl) (by rfl) true (eqs_t HE.out)) ?_
  refine jz fun X2 hX2 => ?_
  have hB0 := hB0.bel hX2
  have hB1 := hB1.bel hX2
  have hD5 := hD5.bel hX2
  have hb := bel_next hb hX2
  clear hX2
  go_wp2
  go_ret
  exact ⟨by rw [HC.out]; rfl, hb⟩

theorem cmp5_l (n : Bool) (p q : List UInt8) (n' : Bool) (p' q' : List UInt8) (x y : Rat) (HX : Hid (rq n p q = x)) (HY : Hid (rq n' p' q' = y)) (w : World) (h : tz p q 1000000) (h' : tz p' q' 1000000) (HE : Hid (rP (x - y) ≠ [])) (HM : Hid (rN (x - y) = true)) (HC : Hid (cmpR x y = -1)) : Calls Tryz.prog 29 #[.agg #[.bool n, .string ⟨p.toArray⟩, .string ⟨q.toArray⟩], .agg #[.bool n', .string ⟨p'.toArray⟩, .string ⟨q'.toArray⟩]] w fun e w' => e = .returned (.int .i64 (cmpR x y)) ∧ Since w w' := by
  go_enter Tryz.func29, Tryz.ntmps29
  go_upto_region 1 with (fail)
  obtain ⟨W0, hW0, hB0, hB1, hb⟩ := start2 w 23 23 [.bool n, .string ⟨p.toArray⟩, .string ⟨q.toArray⟩] [.bool n', .string ⟨p'.toArray⟩, .string ⟨q'.toArray⟩]
  rw [← hW0]
  clear hW0
  refine jq 3 ?_
  refine ja hB0 Tryz.underlying23 (by rfl) info_rat ?_
  refine ja hB1 Tryz.underlying23 (by rfl) info_rat ?_
  refine jc (rt true (rP (x - y)) (rD (x - y))) (fun X hX hF => mo (subV5 n p q n' p' q' HX.out HY.out X h h') (by rw [rbv_n HM.out])) ?_
  refine jz fun X1 hX1 => ?_
  have hB0 := hB0.bel hX1
  have hB1 := hB1.bel hX1
  have hb := bel_next hb hX1
  clear hX1
  go_upto_region 2 with (refine osn 23 5 8 #[.bool true, .string ⟨(rP (x - y)).toArray⟩, .string ⟨(rD (x - y)).toArray⟩] info_rat ?_)
  obtain ⟨Y1, hY9, hD5, hS9⟩ := start1 X1 23 [.bool true, .string ⟨(rP (x - y)).toArray⟩, .string ⟨(rD (x - y)).toArray⟩]
  rw [← hY9]
  clear hY9
  have hgs5 := hb.size
  have hlt5x0 := hB0.lt
  have hlt5x1 := hB1.lt
  have hB0 := hB0.bel hS9
  have hB1 := hB1.bel hS9
  have hb := bel_next hb hS9
  clear hS9
  generalize X1.heap.size = g5 at *
  refine jp ?_
  refine jn (.pointer (some ⟨g5, 1, none⟩)) ?_
  refine jf (st (rP (x - y))) hD5 1 load_str ?_
  refine jv (.bool false) (exec_eqsB _ _ _ _ (by rfl) (rP (x - y)) ([] : List UInt8) (by rfl) (by rfl) false (eqs_f HE.out)) ?_
  refine jz fun X2 hX2 => ?_
  have hB0 := hB0.bel hX2
  have hB1 := hB1.bel hX2
  have hD5 := hD5.bel hX2
  have hb := bel_next hb hX2
  clear hX2
  go_upto_region 4 with (fail)
  refine jp ?_
  refine jn (.pointer (some ⟨g5, 0, none⟩)) ?_
  refine jf (.bool true) hD5 0 load_bool ?_
  refine jz fun X3 hX3 => ?_
  have hB0 := hB0.bel hX3
  have hB1 := hB1.bel hX3
  have hD5 := hD5.bel hX3
  have hb := bel_next hb hX3
  clear hX3
  go_wp2
  go_ret
  exact ⟨by rw [HC.out]; rfl, hb⟩

theorem cmp5_g (n : Bool) (p q : List UInt8) (n' : Bool) (p' q' : List UInt8) (x y : Rat) (HX : Hid (rq n p q = x)) (HY : Hid (rq n' p' q' = y)) (w : World) (h : tz p q 1000000) (h' : tz p' q' 1000000) (HE : Hid (rP (x - y) ≠ [])) (HM : Hid (rN (x - y) = false)) (HC : Hid (cmpR x y = 1)) : Calls Tryz.prog 29 #[.agg #[.bool n, .string ⟨p.toArray⟩, .string ⟨q.toArray⟩], .agg #[.bool n', .string ⟨p'.toArray⟩, .string ⟨q'.toArray⟩]] w fun e w' => e = .returned (.int .i64 (cmpR x y)) ∧ Since w w' := by
  go_enter Tryz.func29, Tryz.ntmps29
  go_upto_region 1 with (fail)
  obtain ⟨W0, hW0, hB0, hB1, hb⟩ := start2 w 23 23 [.bool n, .string ⟨p.toArray⟩, .string ⟨q.toArray⟩] [.bool n', .string ⟨p'.toArray⟩, .string ⟨q'.toArray⟩]
  rw [← hW0]
  clear hW0
  refine jq 3 ?_
  refine ja hB0 Tryz.underlying23 (by rfl) info_rat ?_
  refine ja hB1 Tryz.underlying23 (by rfl) info_rat ?_
  refine jc (rt false (rP (x - y)) (rD (x - y))) (fun X hX hF => mo (subV5 n p q n' p' q' HX.out HY.out X h h') (by rw [rbv_n HM.out])) ?_
  refine jz fun X1 hX1 => ?_
  have hB0 := hB0.bel hX1
  have hB1 := hB1.bel hX1
  have hb := bel_next hb hX1
  clear hX1
  go_upto_region 2 with (refine osn 23 5 8 #[.bool false, .string ⟨(rP (x - y)).toArray⟩, .string ⟨(rD (x - y)).toArray⟩] info_rat ?_)
  obtain ⟨Y1, hY9, hD5, hS9⟩ := start1 X1 23 [.bool false, .string ⟨(rP (x - y)).toArray⟩, .string ⟨(rD (x - y)).toArray⟩]
  rw [← hY9]
  clear hY9
  have hgs5 := hb.size
  have hlt5x0 := hB0.lt
  have hlt5x1 := hB1.lt
  have hB0 := hB0.bel hS9
  have hB1 := hB1.bel hS9
  have hb := bel_next hb hS9
  clear hS9
  generalize X1.heap.size = g5 at *
  refine jp ?_
  refine jn (.pointer (some ⟨g5, 1, none⟩)) ?_
  refine jf (st (rP (x - y))) hD5 1 load_str ?_
  refine jv (.bool false) (exec_eqsB _ _ _ _ (by rfl) (rP (x - y)) ([] : List UInt8) (by rfl) (by rfl) false (eqs_f HE.out)) ?_
  refine jz fun X2 hX2 => ?_
  have hB0 := hB0.bel hX2
  have hB1 := hB1.bel hX2
  have hD5 := hD5.bel hX2
  have hb := bel_next hb hX2
  clear hX2
  go_upto_region 4 with (fail)
  refine jp ?_
  refine jn (.pointer (some ⟨g5, 0, none⟩)) ?_
  refine jf (.bool false) hD5 0 load_bool ?_
  refine jz fun X3 hX3 => ?_
  have hB0 := hB0.bel hX3
  have hB1 := hB1.bel hX3
  have hD5 := hD5.bel hX3
  have hb := bel_next hb hX3
  clear hX3
  go_wp2
  go_ret
  exact ⟨by rw [HC.out]; rfl, hb⟩

theorem num_neg5 {x : Rat} : x.num < 0 ↔ x < 0 := by
  rw [Rat.lt_iff]
  show _ ↔ x.num * ((1 : Nat) : Int) < 0 * (x.den : Int)
  omega
theorem cmpS (n : Bool) (p q : List UInt8) (n' : Bool) (p' q' : List UInt8) {x : Rat} (hx : rq n p q = x) {y : Rat} (hy : rq n' p' q' = y) (w : World) (h : tz p q 1000000) (h' : tz p' q' 1000000) : Calls Tryz.prog 29 #[.agg #[.bool n, .string ⟨p.toArray⟩, .string ⟨q.toArray⟩], .agg #[.bool n', .string ⟨p'.toArray⟩, .string ⟨q'.toArray⟩]] w fun e w' => e = .returned (.int .i64 (cmpR x y)) ∧ Since w w' := by
  have hne : x ≠ y → rP (x - y) ≠ [] := fun h0 h9 => h0 (sub_zero_iff.1 ((num_zero _).1 (be_nil.1 h9)))
  rcases rtri x y with h1 | h1 | h1
  · exact cmp5_l n p q n' p' q' x y hx hy w h h' (hne (by grind)) (decide_eq_true (num_neg5.2 (sub_neg.2 h1))) (cmpR_lt.2 h1)
  · exact cmp5_e n p q n' p' q' x y hx hy w h h' (by rw [sub_zero_iff.2 h1]; rfl) (cmpR_eq.2 h1)
  · exact cmp5_g n p q n' p' q' x y hx hy w h h' (hne (by grind)) (decide_eq_false (fun h9 => by have := num_neg5.1 h9; have := sub_neg.1 this; grind)) (cmpR_gt.2 h1)

theorem minS1 (n : Bool) (p q : List UInt8) (n' : Bool) (p' q' : List UInt8) (x y : Rat) (HX : Hid (rq n p q = x)) (HY : Hid (rq n' p' q' = y)) (w : World) (h : tz p q 1000000) (h' : tz p' q' 1000000) (hc : cmpR x y ≤ 0) : Calls Tryz.prog 31 #[.agg #[.bool n, .string ⟨p.toArray⟩, .string ⟨q.toArray⟩], .agg #[.bool n', .string ⟨p'.toArray⟩, .string ⟨q'.toArray⟩]] w fun e w' => e = .returned (rbv (minR x y)) ∧ Since w w' := by
  have HM : Hid (minR x y = x) := by unfold minR; exact if_pos hc
  go_enter Tryz.func31, Tryz.ntmps31
  go_upto_region 1 with (fail)
  obtain ⟨W0, hW0, hB0, hB1, hB2, hb⟩ := start3 w 23 23 23 [.bool n, .string ⟨p.toArray⟩, .string ⟨q.toArray⟩] [.bool n', .string ⟨p'.toArray⟩, .string ⟨q'.toArray⟩] [.bool false, .string ⟨#[]⟩, .string ⟨#[]⟩]
  rw [← hW0]
  clear hW0
  refine jp ?_
  refine ja hB0 Tryz.underlying23 (by rfl) info_rat ?_
  refine ja hB1 Tryz.underlying23 (by rfl) info_rat ?_
  refine jc (.int .i64 (cmpR x y)) (fun X hX hF => cmpS n p q n' p' q' HX.out HY.out X h h') ?_
  refine jv (.bool true) (exec_leq _ _ _ _ (by rfl) .i64 (cmpR x y) 0 (by rfl) (by rfl) true (decide_eq_true (by omega))) ?_
  refine jz fun X1 hX1 => ?_
  have hB0 := hB0.bel hX1
  have hB1 := hB1.bel hX1
  have hB2 := hB2.bel hX1
  have hb := bel_next hb hX1
  clear hX1
  go_upto_region 2 with (fail)
  refine jq 2 ?_
  refine ja hB0 Tryz.underlying23 (by rfl) info_rat ?_
  refine jc (rt (rN x) (rP x) (rD x)) (fun X hX hF => cleanS n p q HX.out X h) ?_
  refine jz fun X2 hX2 => ?_
  have hB0 := hB0.bel hX2
  have hB1 := hB1.bel hX2
  have hB2 := hB2.bel hX2
  have hb := bel_next hb hX2
  clear hX2
  refine osb 23 4 10 (w.heap.size + 2) 23 hB2 [.bool (rN x), .string ⟨(rP x).toArray⟩, .string ⟨(rD x).toArray⟩] info_rat ?_
  intro w9 hR9 hO9 hB9 hs9
  have hb9 := hB9 _ _ hb (by omega)
  clear hO9 hB9
  go_wp2
  refine post_cell rfl rfl (by rfl) Tryz.underlying23 rfl hR9 info_rat ⟨by rw [HM.out], hb9⟩

theorem minS0 (n : Bool) (p q : List UInt8) (n' : Bool) (p' q' : List UInt8) (x y : Rat) (HX : Hid (rq n p q = x)) (HY : Hid (rq n' p' q' = y)) (w : World) (h : tz p q 1000000) (h' : tz p' q' 1000000) (hc : ¬ cmpR x y ≤ 0) : Calls Tryz.prog 31 #[.agg #[.bool n, .string ⟨p.toArray⟩, .string ⟨q.toArray⟩], .agg #[.bool n', .string ⟨p'.toArray⟩, .string ⟨q'.toArray⟩]] w fun e w' => e = .returned (rbv (minR x y)) ∧ Since w w' := by
  have HM : Hid (minR x y = y) := by unfold minR; exact if_neg hc
  go_enter Tryz.func31, Tryz.ntmps31
  go_upto_region 1 with (fail)
  obtain ⟨W0, hW0, hB0, hB1, hB2, hb⟩ := start3 w 23 23 23 [.bool n, .string ⟨p.toArray⟩, .string ⟨q.toArray⟩] [.bool n', .string ⟨p'.toArray⟩, .string ⟨q'.toArray⟩] [.bool false, .string ⟨#[]⟩, .string ⟨#[]⟩]
  rw [← hW0]
  clear hW0
  refine jp ?_
  refine ja hB0 Tryz.underlying23 (by rfl) info_rat ?_
  refine ja hB1 Tryz.underlying23 (by rfl) info_rat ?_
  refine jc (.int .i64 (cmpR x y)) (fun X hX hF => cmpS n p q n' p' q' HX.out HY.out X h h') ?_
  refine jv (.bool false) (exec_leq _ _ _ _ (by rfl) .i64 (cmpR x y) 0 (by rfl) (by rfl) false (decide_eq_false (by omega))) ?_
  refine jz fun X1 hX1 => ?_
  have hB0 := hB0.bel hX1
  have hB1 := hB1.bel hX1
  have hB2 := hB2.bel hX1
  have hb := bel_next hb hX1
  clear hX1
  go_upto_region 3 with (fail)
  refine jq 2 ?_
  refine ja hB1 Tryz.underlying23 (by rfl) info_rat ?_
  refine jc (rt (rN y) (rP y) (rD y)) (fun X hX hF => cleanS n' p' q' HY.out X h') ?_
  refine jz fun X2 hX2 => ?_
  have hB0 := hB0.bel hX2
  have hB1 := hB1.bel hX2
  have hB2 := hB2.bel hX2
  have hb := bel_next hb hX2
  clear hX2
  refine osb 23 4 12 (w.heap.size + 2) 23 hB2 [.bool (rN y), .string ⟨(rP y).toArray⟩, .string ⟨(rD y).toArray⟩] info_rat ?_
  intro w9 hR9 hO9 hB9 hs9
  have hb9 := hB9 _ _ hb (by omega)
  clear hO9 hB9
  go_wp2
  refine post_cell rfl rfl (by rfl) Tryz.underlying23 rfl hR9 info_rat ⟨by rw [HM.out], hb9⟩

theorem minS (n : Bool) (p q : List UInt8) (n' : Bool) (p' q' : List UInt8) {x : Rat} (hx : rq n p q = x) {y : Rat} (hy : rq n' p' q' = y) (w : World) (h : tz p q 1000000) (h' : tz p' q' 1000000) : Calls Tryz.prog 31 #[.agg #[.bool n, .string ⟨p.toArray⟩, .string ⟨q.toArray⟩], .agg #[.bool n', .string ⟨p'.toArray⟩, .string ⟨q'.toArray⟩]] w fun e w' => e = .returned (rbv (minR x y)) ∧ Since w w' := by
  by_cases hc : cmpR x y ≤ 0
  · exact minS1 n p q n' p' q' x y hx hy w h h' hc
  · exact minS0 n p q n' p' q' x y hx hy w h h' hc

theorem maxS1 (n : Bool) (p q : List UInt8) (n' : Bool) (p' q' : List UInt8) (x y : Rat) (HX : Hid (rq n p q = x)) (HY : Hid (rq n' p' q' = y)) (w : World) (h : tz p q 1000000) (h' : tz p' q' 1000000) (hc : 0 ≤ cmpR x y) : Calls Tryz.prog 33 #[.agg #[.bool n, .string ⟨p.toArray⟩, .string ⟨q.toArray⟩], .agg #[.bool n', .string ⟨p'.toArray⟩, .string ⟨q'.toArray⟩]] w fun e w' => e = .returned (rbv (maxR x y)) ∧ Since w w' := by
  have HM : Hid (maxR x y = x) := by unfold maxR; exact if_pos hc
  go_enter Tryz.func33, Tryz.ntmps33
  go_upto_region 1 with (fail)
  obtain ⟨W0, hW0, hB0, hB1, hB2, hb⟩ := start3 w 23 23 23 [.bool n, .string ⟨p.toArray⟩, .string ⟨q.toArray⟩] [.bool n', .string ⟨p'.toArray⟩, .string ⟨q'.toArray⟩] [.bool false, .string ⟨#[]⟩, .string ⟨#[]⟩]
  rw [← hW0]
  clear hW0
  refine jp ?_
  refine ja hB0 Tryz.underlying23 (by rfl) info_rat ?_
  refine ja hB1 Tryz.underlying23 (by rfl) info_rat ?_
  refine jc (.int .i64 (cmpR x y)) (fun X hX hF => cmpS n p q n' p' q' HX.out HY.out X h h') ?_
  refine jv (.bool true) (exec_geq _ _ _ _ (by rfl) .i64 (cmpR x y) 0 (by rfl) (by rfl) true (decide_eq_true (by omega))) ?_
  refine jz fun X1 hX1 => ?_
  have hB0 := hB0.bel hX1
  have hB1 := hB1.bel hX1
  have hB2 := hB2.bel hX1
  have hb := bel_next hb hX1
  clear hX1
  go_upto_region 2 with (fail)
  refine jq 2 ?_
  refine ja hB0 Tryz.underlying23 (by rfl) info_rat ?_
  refine jc (rt (rN x) (rP x) (rD x)) (fun X hX hF => cleanS n p q HX.out X h) ?_
  refine jz fun X2 hX2 => ?_
  have hB0 := hB0.bel hX2
  have hB1 := hB1.bel hX2
  have hB2 := hB2.bel hX2
  have hb := bel_next hb hX2
  clear hX2
  refine osb 23 4 10 (w.heap.size + 2) 23 hB2 [.bool (rN x), .string ⟨(rP x).toArray⟩, .string ⟨(rD x).toArray⟩] info_rat ?_
  intro w9 hR9 hO9 hB9 hs9
  have hb9 := hB9 _ _ hb (by omega)
  clear hO9 hB9
  go_wp2
  refine post_cell rfl rfl (by rfl) Tryz.underlying23 rfl hR9 info_rat ⟨by rw [HM.out], hb9⟩

theorem maxS0 (n : Bool) (p q : List UInt8) (n' : Bool) (p' q' : List UInt8) (x y : Rat) (HX : Hid (rq n p q = x)) (HY : Hid (rq n' p' q' = y)) (w : World) (h : tz p q 1000000) (h' : tz p' q' 1000000) (hc : ¬ 0 ≤ cmpR x y) : Calls Tryz.prog 33 #[.agg #[.bool n, .string ⟨p.toArray⟩, .string ⟨q.toArray⟩], .agg #[.bool n', .string ⟨p'.toArray⟩, .string ⟨q'.toArray⟩]] w fun e w' => e = .returned (rbv (maxR x y)) ∧ Since w w' := by
  have HM : Hid (maxR x y = y) := by unfold maxR; exact if_neg hc
  go_enter Tryz.func33, Tryz.ntmps33
  go_upto_region 1 with (fail)
  obtain ⟨W0, hW0, hB0, hB1, hB2, hb⟩ := start3 w 23 23 23 [.bool n, .string ⟨p.toArray⟩, .string ⟨q.toArray⟩] [.bool n', .string ⟨p'.toArray⟩, .string ⟨q'.toArray⟩] [.bool false, .string ⟨#[]⟩, .string ⟨#[]⟩]
  rw [← hW0]
  clear hW0
  refine jp ?_
  refine ja hB0 Tryz.underlying23 (by rfl) info_rat ?_
  refine ja hB1 Tryz.underlying23 (by rfl) info_rat ?_
  refine jc (.int .i64 (cmpR x y)) (fun X hX hF => cmpS n p q n' p' q' HX.out HY.out X h h') ?_
  refine jv (.bool false) (exec_geq _ _ _ _ (by rfl) .i64 (cmpR x y) 0 (by rfl) (by rfl) false (decide_eq_false (by omega))) ?_
  refine jz fun X1 hX1 => ?_
  have hB0 := hB0.bel hX1
  have hB1 := hB1.bel hX1
  have hB2 := hB2.bel hX1
  have hb := bel_next hb hX1
  clear hX1
  go_upto_region 3 with (fail)
  refine jq 2 ?_
  refine ja hB1 Tryz.underlying23 (by rfl) info_rat ?_
  refine jc (rt (rN y) (rP y) (rD y)) (fun X hX hF => cleanS n' p' q' HY.out X h') ?_
  refine jz fun X2 hX2 => ?_
  have hB0 := hB0.bel hX2
  have hB1 := hB1.bel hX2
  have hB2 := hB2.bel hX2
  have hb := bel_next hb hX2
  clear hX2
  refine osb 23 4 12 (w.heap.size + 2) 23 hB2 [.bool (rN y), .string ⟨(rP y).toArray⟩, .string ⟨(rD y).toArray⟩] info_rat ?_
  intro w9 hR9 hO9 hB9 hs9
  have hb9 := hB9 _ _ hb (by omega)
  clear hO9 hB9
  go_wp2
  refine post_cell rfl rfl (by rfl) Tryz.underlying23 rfl hR9 info_rat ⟨by rw [HM.out], hb9⟩

theorem maxS (n : Bool) (p q : List UInt8) (n' : Bool) (p' q' : List UInt8) {x : Rat} (hx : rq n p q = x) {y : Rat} (hy : rq n' p' q' = y) (w : World) (h : tz p q 1000000) (h' : tz p' q' 1000000) : Calls Tryz.prog 33 #[.agg #[.bool n, .string ⟨p.toArray⟩, .string ⟨q.toArray⟩], .agg #[.bool n', .string ⟨p'.toArray⟩, .string ⟨q'.toArray⟩]] w fun e w' => e = .returned (rbv (maxR x y)) ∧ Since w w' := by
  by_cases hc : 0 ≤ cmpR x y
  · exact maxS1 n p q n' p' q' x y hx hy w h h' hc
  · exact maxS0 n p q n' p' q' x y hx hy w h h' hc

theorem flo5_p_big (n : Bool) (p q : List UInt8) (x : Rat) (HX : Hid (rq n p q = x)) (w : World) (h : tz p q 1000000) (sx : szR x 1000000) (HM : Hid (rN x = false)) (hV2 : 999999999999999 < (x.num.natAbs / x.den)) (HF : Hid (floN x = 0 ∧ floE x = 3)) : Calls Tryz.prog 13 #[.agg #[.bool n, .string ⟨p.toArray⟩, .string ⟨q.toArray⟩]] w fun e w' => e = .returned (.agg #[.int .i64 (floN x), .int .i64 (floE x)]) ∧ Since w w' := by
  have lP := sx.1
  have lD := sx.2
  have lQ := be_leL (Nat.div_le_self x.num.natAbs x.den) lP
  have l9 : (be 999999999999999).length ≤ 8 := be_len (by decide)
  have HDP : Hid (0 < x.den) := Nat.pos_of_ne_zero x.den_nz
  go_enter Tryz.func13, Tryz.ntmps13
  go_upto_region 1 with (fail)
  obtain ⟨W0, hW0, hB0, hB1, hb⟩ := start2 w 23 38 [.bool n, .string ⟨p.toArray⟩, .string ⟨q.toArray⟩] [.int .i64 0, .int .i64 0]
  rw [← hW0]
  clear hW0
  refine jq 2 ?_
  refine ja hB0 Tryz.underlying23 (by rfl) info_rat ?_
  refine jc (rt false (rP x) (rD x)) (fun X hX hF => mo (cleanS n p q HX.out X h) (by rw [rbv_n HM.out])) ?_
  refine jz fun X1 hX1 => ?_
  have hB0 := hB0.bel hX1
  have hB1 := hB1.bel hX1
  have hb := bel_next hb hX1
  clear hX1
  go_upto_region 2 with (refine osn 23 3 10 #[.bool false, .string ⟨(rP x).toArray⟩, .string ⟨(rD x).toArray⟩] info_rat ?_)
  obtain ⟨Y1, hY9, hD3, hS9⟩ := start1 X1 23 [.bool false, .string ⟨(rP x).toArray⟩, .string ⟨(rD x).toArray⟩]
  rw [← hY9]
  clear hY9
  have hgs3 := hb.size
  have hlt3x0 := hB0.lt
  have hlt3x1 := hB1.lt
  have hB0 := hB0.bel hS9
  have hB1 := hB1.bel hS9
  have hb := bel_next hb hS9
  clear hS9
  generalize X1.heap.size = g3 at *
  refine jp ?_
  refine ja hD3 Tryz.underlying23 (by rfl) info_rat ?_
  refine jc (.tuple #[st (be x.num.natAbs), st (be x.den)]) (fun X hX hF => partsN HM.out X) ?_
  refine jm (.tuple #[st (be x.num.natAbs), st (be x.den)]) ?_
  refine jm (st (be x.num.natAbs)) ?_
  refine jm (st (be x.den)) ?_
  refine jm (st (be x.num.natAbs)) ?_
  refine jm (st (be x.den)) ?_
  refine jz fun X2 hX2 => ?_
  have hB0 := hB0.bel hX2
  have hB1 := hB1.bel hX2
  have hD3 := hD3.bel hX2
  have hb := bel_next hb hX2
  clear hX2
  go_upto_region 3 with (fail)
  refine jq 3 ?_
  refine jm (st (be x.num.natAbs)) ?_
  refine jm (st (be x.den)) ?_
  refine jc (.agg #[st (be (x.num.natAbs / x.den)), st (be (x.num.natAbs % x.den)), .int .i64 0]) (fun X hX hF => mo (rdivC (be x.num.natAbs) (be x.den) X (by omega) (by omega) (by rw [val_be]; exact HDP.out)) (by simp only [val_be])) ?_
  refine jz fun X3 hX3 => ?_
  have hB0 := hB0.bel hX3
  have hB1 := hB1.bel hX3
  have hD3 := hD3.bel hX3
  have hb := bel_next hb hX3
  clear hX3
  go_upto_region 4 with (refine osn 98 6 18 #[.string ⟨(be (x.num.natAbs / x.den)).toArray⟩, .string ⟨(be (x.num.natAbs % x.den)).toArray⟩, .int .i64 0] info_div4 ?_)
  obtain ⟨Y3, hY9, hD6, hS9⟩ := start1 X3 98 [.string ⟨(be (x.num.natAbs / x.den)).toArray⟩, .string ⟨(be (x.num.natAbs % x.den)).toArray⟩, .int .i64 0]
  rw [← hY9]
  clear hY9
  have hgs6 := hb.size
  have hlt6x0 := hB0.lt
  have hlt6x1 := hB1.lt
  have hlt6x2 := hD3.lt
  have hB0 := hB0.bel hS9
  have hB1 := hB1.bel hS9
  have hD3 := hD3.bel hS9
  have hb := bel_next hb hS9
  clear hS9
  generalize X3.heap.size = g6 at *
  refine jp ?_
  refine jn (.pointer (some ⟨g6, 0, none⟩)) ?_
  refine jf (st (be (x.num.natAbs / x.den))) hD6 0 load_str ?_
  refine jm (st (be (x.num.natAbs / x.den))) ?_
  refine jz fun X4 hX4 => ?_
  have hB0 := hB0.bel hX4
  have hB1 := hB1.bel hX4
  have hD3 := hD3.bel hX4
  have hD6 := hD6.bel hX4
  have hb := bel_next hb hX4
  clear hX4
  go_upto_region 5 with (fail)
  refine jp ?_
  refine jn (.pointer (some ⟨g3, 0, none⟩)) ?_
  refine jf (.bool false) hD3 0 load_bool ?_
  refine jm (.bool false) ?_
  refine js ?_
  refine js ?_
  refine js ?_
  refine jm (.bool false) ?_
  refine jz fun X5 hX5 => ?_
  have hB0 := hB0.bel hX5
  have hB1 := hB1.bel hX5
  have hD3 := hD3.bel hX5
  have hD6 := hD6.bel hX5
  have hb := bel_next hb hX5
  clear hX5
  go_upto_region 7 with (fail)
  refine jp ?_
  refine jm (st (be (x.num.natAbs / x.den))) ?_
  refine jc (st (be 999999999999999)) (fun X hX hF => natS 999999999999999 X (by decide)) ?_
  refine jc (.int .i64 (cmpI (((x.num.natAbs / x.den) : Nat) : Int) (((999999999999999 : Nat)) : Int))) (fun X hX hF => mo (rcmpC (be (x.num.natAbs / x.den)) (be 999999999999999) X (by omega) (by omega)) (by rw [val_be, val_be])) ?_
  refine jv (.bool true) (exec_gtr _ _ _ _ (by rfl) .i64 (cmpI (((x.num.natAbs / x.den) : Nat) : Int) (((999999999999999 : Nat)) : Int)) 0 (by rfl) (by rfl) true (decide_eq_true (by unfold cmpI; rw [if_neg (by omega)]; split <;> omega))) ?_
  refine jz fun X6 hX6 => ?_
  have hB0 := hB0.bel hX6
  have hB1 := hB1.bel hX6
  have hD3 := hD3.bel hX6
  have hD6 := hD6.bel hX6
  have hb := bel_next hb hX6
  clear hX6
  go_upto_region 8 with (fail)
  refine jq 1 ?_
  refine jn (.agg #[.int .i64 0, .int .i64 3]) ?_
  refine jz fun X7 hX7 => ?_
  have hB0 := hB0.bel hX7
  have hB1 := hB1.bel hX7
  have hD3 := hD3.bel hX7
  have hD6 := hD6.bel hX7
  have hb := bel_next hb hX7
  clear hX7
  refine osb 38 2 34 (w.heap.size + 1) 38 hB1 [.int .i64 0, .int .i64 3] info_cnt5 ?_
  intro w9 hR9 hO9 hB9 hs9
  have hb9 := hB9 _ _ hb (by omega)
  clear hO9 hB9
  go_wp2
  refine post_cell rfl rfl (by rfl) Tryz.underlying38 rfl hR9 info_cnt5 ⟨by rw [HF.out.1, HF.out.2], hb9⟩

theorem flo5_p_ok (n : Bool) (p q : List UInt8) (x : Rat) (HX : Hid (rq n p q = x)) (w : World) (h : tz p q 1000000) (sx : szR x 1000000) (HM : Hid (rN x = false)) (hV2 : (x.num.natAbs / x.den) ≤ 999999999999999) (HV9 : Hid ((x.num.natAbs / x.den) < 9223372036854775808)) (HF : Hid (floN x = (((x.num.natAbs / x.den) : Nat) : Int) ∧ floE x = 0)) : Calls Tryz.prog 13 #[.agg #[.bool n, .string ⟨p.toArray⟩, .string ⟨q.toArray⟩]] w fun e w' => e = .returned (.agg #[.int .i64 (floN x), .int .i64 (floE x)]) ∧ Since w w' := by
  have lP := sx.1
  have lD := sx.2
  have lQ := be_leL (Nat.div_le_self x.num.natAbs x.den) lP
  have l9 : (be 999999999999999).length ≤ 8 := be_len (by decide)
  have HDP : Hid (0 < x.den) := Nat.pos_of_ne_zero x.den_nz
  go_enter Tryz.func13, Tryz.ntmps13
  go_upto_region 1 with (fail)
  obtain ⟨W0, hW0, hB0, hB1, hb⟩ := start2 w 23 38 [.bool n, .string ⟨p.toArray⟩, .string ⟨q.toArray⟩] [.int .i64 0, .int .i64 0]
  rw [← hW0]
  clear hW0
  refine jq 2 ?_
  refine ja hB0 Tryz.underlying23 (by rfl) info_rat ?_
  refine jc (rt false (rP x) (rD x)) (fun X hX hF => mo (cleanS n p q HX.out X h) (by rw [rbv_n HM.out])) ?_
  refine jz fun X1 hX1 => ?_
  have hB0 := hB0.bel hX1
  have hB1 := hB1.bel hX1
  have hb := bel_next hb hX1
  clear hX1
  go_upto_region 2 with (refine osn 23 3 10 #[.bool false, .string ⟨(rP x).toArray⟩, .string ⟨(rD x).toArray⟩] info_rat ?_)
  obtain ⟨Y1, hY9, hD3, hS9⟩ := start1 X1 23 [.bool false, .string ⟨(rP x).toArray⟩, .string ⟨(rD x).toArray⟩]
  rw [← hY9]
  clear hY9
  have hgs3 := hb.size
  have hlt3x0 := hB0.lt
  have hlt3x1 := hB1.lt
  have hB0 := hB0.bel hS9
  have hB1 := hB1.bel hS9
  have hb := bel_next hb hS9
  clear hS9
  generalize X1.heap.size = g3 at *
  refine jp ?_
  refine ja hD3 Tryz.underlying23 (by rfl) info_rat ?_
  refine jc (.tuple #[st (be x.num.natAbs), st (be x.den)]) (fun X hX hF => partsN HM.out X) ?_
  refine jm (.tuple #[st (be x.num.natAbs), st (be x.den)]) ?_
  refine jm (st (be x.num.natAbs)) ?_
  refine jm (st (be x.den)) ?_
  refine jm (st (be x.num.natAbs)) ?_
  refine jm (st (be x.den)) ?_
  refine jz fun X2 hX2 => ?_
  have hB0 := hB0.bel hX2
  have hB1 := hB1.bel hX2
  have hD3 := hD3.bel hX2
  have hb := bel_next hb hX2
  clear hX2
  go_upto_region 3 with (fail)
  refine jq 3 ?_
  refine jm (st (be x.num.natAbs)) ?_
  refine jm (st (be x.den)) ?_
  refine jc (.agg #[st (be (x.num.natAbs / x.den)), st (be (x.num.natAbs % x.den)), .int .i64 0]) (fun X hX hF => mo (rdivC (be x.num.natAbs) (be x.den) X (by omega) (by omega) (by rw [val_be]; exact HDP.out)) (by simp only [val_be])) ?_
  refine jz fun X3 hX3 => ?_
  have hB0 := hB0.bel hX3
  have hB1 := hB1.bel hX3
  have hD3 := hD3.bel hX3
  have hb := bel_next hb hX3
  clear hX3
  go_upto_region 4 with (refine osn 98 6 18 #[.string ⟨(be (x.num.natAbs / x.den)).toArray⟩, .string ⟨(be (x.num.natAbs % x.den)).toArray⟩, .int .i64 0] info_div4 ?_)
  obtain ⟨Y3, hY9, hD6, hS9⟩ := start1 X3 98 [.string ⟨(be (x.num.natAbs / x.den)).toArray⟩, .string ⟨(be (x.num.natAbs % x.den)).toArray⟩, .int .i64 0]
  rw [← hY9]
  clear hY9
  have hgs6 := hb.size
  have hlt6x0 := hB0.lt
  have hlt6x1 := hB1.lt
  have hlt6x2 := hD3.lt
  have hB0 := hB0.bel hS9
  have hB1 := hB1.bel hS9
  have hD3 := hD3.bel hS9
  have hb := bel_next hb hS9
  clear hS9
  generalize X3.heap.size = g6 at *
  refine jp ?_
  refine jn (.pointer (some ⟨g6, 0, none⟩)) ?_
  refine jf (st (be (x.num.natAbs / x.den))) hD6 0 load_str ?_
  refine jm (st (be (x.num.natAbs / x.den))) ?_
  refine jz fun X4 hX4 => ?_
  have hB0 := hB0.bel hX4
  have hB1 := hB1.bel hX4
  have hD3 := hD3.bel hX4
  have hD6 := hD6.bel hX4
  have hb := bel_next hb hX4
  clear hX4
  go_upto_region 5 with (fail)
  refine jp ?_
  refine jn (.pointer (some ⟨g3, 0, none⟩)) ?_
  refine jf (.bool false) hD3 0 load_bool ?_
  refine jm (.bool false) ?_
  refine js ?_
  refine js ?_
  refine js ?_
  refine jm (.bool false) ?_
  refine jz fun X5 hX5 => ?_
  have hB0 := hB0.bel hX5
  have hB1 := hB1.bel hX5
  have hD3 := hD3.bel hX5
  have hD6 := hD6.bel hX5
  have hb := bel_next hb hX5
  clear hX5
  go_upto_region 7 with (fail)
  refine jp ?_
  refine jm (st (be (x.num.natAbs / x.den))) ?_
  refine jc (st (be 999999999999999)) (fun X hX hF => natS 999999999999999 X (by decide)) ?_
  refine jc (.int .i64 (cmpI (((x.num.natAbs / x.den) : Nat) : Int) (((999999999999999 : Nat)) : Int))) (fun X hX hF => mo (rcmpC (be (x.num.natAbs / x.den)) (be 999999999999999) X (by omega) (by omega)) (by rw [val_be, val_be])) ?_
  refine jv (.bool false) (exec_gtr _ _ _ _ (by rfl) .i64 (cmpI (((x.num.natAbs / x.den) : Nat) : Int) (((999999999999999 : Nat)) : Int)) 0 (by rfl) (by rfl) false (decide_eq_false (by unfold cmpI; split; omega; split <;> omega))) ?_
  refine jz fun X6 hX6 => ?_
  have hB0 := hB0.bel hX6
  have hB1 := hB1.bel hX6
  have hD3 := hD3.bel hX6
  have hD6 := hD6.bel hX6
  have hb := bel_next hb hX6
  clear hX6
  go_upto_region 9 with (fail)
  refine jp ?_
  refine jm (st (be (x.num.natAbs / x.den))) ?_
  refine jc (.agg #[.int .i64 (((x.num.natAbs / x.den) : Nat) : Int), .int .i64 0]) (fun X hX hF => mo (rvalueC (be (x.num.natAbs / x.den)) X (by omega) (by rw [val_be]; exact HV9.out)) (by simp only [val_be])) ?_
  refine jm (.int .i64 (((x.num.natAbs / x.den) : Nat) : Int)) ?_
  refine jm (.int .i64 (((x.num.natAbs / x.den) : Nat) : Int)) ?_
  refine jz fun X7 hX7 => ?_
  have hB0 := hB0.bel hX7
  have hB1 := hB1.bel hX7
  have hD3 := hD3.bel hX7
  have hD6 := hD6.bel hX7
  have hb := bel_next hb hX7
  clear hX7
  go_upto_region 10 with (fail)
  refine jp ?_
  refine jn (.pointer (some ⟨g3, 0, none⟩)) ?_
  refine jf (.bool false) hD3 0 load_bool ?_
  refine jz fun X8 hX8 => ?_
  have hB0 := hB0.bel hX8
  have hB1 := hB1.bel hX8
  have hD3 := hD3.bel hX8
  have hD6 := hD6.bel hX8
  have hb := bel_next hb hX8
  clear hX8
  go_upto_region 12 with (fail)
  refine jq 2 ?_
  refine jm (.int .i64 (((x.num.natAbs / x.den) : Nat) : Int)) ?_
  refine jn (.agg #[.int .i64 ((((x.num.natAbs / x.den) : Nat) : Int)), .int .i64 0]) ?_
  refine jz fun X9 hX9 => ?_
  have hB0 := hB0.bel hX9
  have hB1 := hB1.bel hX9
  have hD3 := hD3.bel hX9
  have hD6 := hD6.bel hX9
  have hb := bel_next hb hX9
  clear hX9
  refine osb 38 2 43 (w.heap.size + 1) 38 hB1 [.int .i64 ((((x.num.natAbs / x.den) : Nat) : Int)), .int .i64 0] info_cnt5 ?_
  intro w9 hR9 hO9 hB9 hs9
  have hb9 := hB9 _ _ hb (by omega)
  clear hO9 hB9
  go_wp2
  refine post_cell rfl rfl (by rfl) Tryz.underlying38 rfl hR9 info_cnt5 ⟨by rw [HF.out.1, HF.out.2], hb9⟩

theorem flo5_z_big (n : Bool) (p q : List UInt8) (x : Rat) (HX : Hid (rq n p q = x)) (w : World) (h : tz p q 1000000) (sx : szR x 1000000) (HM : Hid (rN x = true)) (HR : Hid (be (x.num.natAbs % x.den) = [])) (hV2 : 999999999999999 < (x.num.natAbs / x.den)) (HF : Hid (floN x = 0 ∧ floE x = 3)) : Calls Tryz.prog 13 #[.agg #[.bool n, .string ⟨p.toArray⟩, .string ⟨q.toArray⟩]] w fun e w' => e = .returned (.agg #[.int .i64 (floN x), .int .i64 (floE x)]) ∧ Since w w' := by
  have lP := sx.1
  have lD := sx.2
  have lQ := be_leL (Nat.div_le_self x.num.natAbs x.den) lP
  have l9 : (be 999999999999999).length ≤ 8 := be_len (by decide)
  have HDP : Hid (0 < x.den) := Nat.pos_of_ne_zero x.den_nz
  go_enter Tryz.func13, Tryz.ntmps13
  go_upto_region 1 with (fail)
  obtain ⟨W0, hW0, hB0, hB1, hb⟩ := start2 w 23 38 [.bool n, .string ⟨p.toArray⟩, .string ⟨q.toArray⟩] [.int .i64 0, .int .i64 0]
  rw [← hW0]
  clear hW0
  refine jq 2 ?_
  refine ja hB0 Tryz.underlying23 (by rfl) info_rat ?_
  refine jc (rt true (rP x) (rD x)) (fun X hX hF => mo (cleanS n p q HX.out X h) (by rw [rbv_n HM.out])) ?_
  refine jz fun X1 hX1 => ?_
  have hB0 := hB0.bel hX1
  have hB1 := hB1.bel hX1
  have hb := bel_next hb hX1
  clear hX1
  go_upto_region 2 with (refine osn 23 3 10 #[.bool true, .string ⟨(rP x).toArray⟩, .string ⟨(rD x).toArray⟩] info_rat ?_)
  obtain ⟨Y1, hY9, hD3, hS9⟩ := start1 X1 23 [.bool true, .string ⟨(rP x).toArray⟩, .string ⟨(rD x).toArray⟩]
  rw [← hY9]
  clear hY9
  have hgs3 := hb.size
  have hlt3x0 := hB0.lt
  have hlt3x1 := hB1.lt
  have hB0 := hB0.bel hS9
  have hB1 := hB1.bel hS9
  have hb := bel_next hb hS9
  clear hS9
  generalize X1.heap.size = g3 at *
  refine jp ?_
  refine ja hD3 Tryz.underlying23 (by rfl) info_rat ?_
  refine jc (.tuple #[st (be x.num.natAbs), st (be x.den)]) (fun X hX hF => partsN HM.out X) ?_
  refine jm (.tuple #[st (be x.num.natAbs), st (be x.den)]) ?_
  refine jm (st (be x.num.natAbs)) ?_
  refine jm (st (be x.den)) ?_
  refine jm (st (be x.num.natAbs)) ?_
  refine jm (st (be x.den)) ?_
  refine jz fun X2 hX2 => ?_
  have hB0 := hB0.bel hX2
  have hB1 := hB1.bel hX2
  have hD3 := hD3.bel hX2
  have hb := bel_next hb hX2
  clear hX2
  go_upto_region 3 with (fail)
  refine jq 3 ?_
  refine jm (st (be x.num.natAbs)) ?_
  refine jm (st (be x.den)) ?_
  refine jc (.agg #[st (be (x.num.natAbs / x.den)), st (be (x.num.natAbs % x.den)), .int .i64 0]) (fun X hX hF => mo (rdivC (be x.num.natAbs) (be x.den) X (by omega) (by omega) (by rw [val_be]; exact HDP.out)) (by simp only [val_be])) ?_
  refine jz fun X3 hX3 => ?_
  have hB0 := hB0.bel hX3
  have hB1 := hB1.bel hX3
  have hD3 := hD3.bel hX3
  have hb := bel_next hb hX3
  clear hX3
  go_upto_region 4 with (refine osn 98 6 18 #[.string ⟨(be (x.num.natAbs / x.den)).toArray⟩, .string ⟨(be (x.num.natAbs % x.den)).toArray⟩, .int .i64 0] info_div4 ?_)
  obtain ⟨Y3, hY9, hD6, hS9⟩ := start1 X3 98 [.string ⟨(be (x.num.natAbs / x.den)).toArray⟩, .string ⟨(be (x.num.natAbs % x.den)).toArray⟩, .int .i64 0]
  rw [← hY9]
  clear hY9
  have hgs6 := hb.size
  have hlt6x0 := hB0.lt
  have hlt6x1 := hB1.lt
  have hlt6x2 := hD3.lt
  have hB0 := hB0.bel hS9
  have hB1 := hB1.bel hS9
  have hD3 := hD3.bel hS9
  have hb := bel_next hb hS9
  clear hS9
  generalize X3.heap.size = g6 at *
  refine jp ?_
  refine jn (.pointer (some ⟨g6, 0, none⟩)) ?_
  refine jf (st (be (x.num.natAbs / x.den))) hD6 0 load_str ?_
  refine jm (st (be (x.num.natAbs / x.den))) ?_
  refine jz fun X4 hX4 => ?_
  have hB0 := hB0.bel hX4
  have hB1 := hB1.bel hX4
  have hD3 := hD3.bel hX4
  have hD6 := hD6.bel hX4
  have hb := bel_next hb hX4
  clear hX4
  go_upto_region 5 with (fail)
  refine jp ?_
  refine jn (.pointer (some ⟨g3, 0, none⟩)) ?_
  refine jf (.bool true) hD3 0 load_bool ?_
  refine jm (.bool true) ?_
  refine jn (.pointer (some ⟨g6, 1, none⟩)) ?_
  refine jf (st (be (x.num.natAbs % x.den))) hD6 1 load_str ?_
  refine jv (.bool false) (exec_nesB _ _ _ _ (by rfl) (be (x.num.natAbs % x.den)) ([] : List UInt8) (by rfl) (by rfl) false (nes_f HR.out)) ?_
  refine jm (.bool false) ?_
  refine jz fun X5 hX5 => ?_
  have hB0 := hB0.bel hX5
  have hB1 := hB1.bel hX5
  have hD3 := hD3.bel hX5
  have hD6 := hD6.bel hX5
  have hb := bel_next hb hX5
  clear hX5
  go_upto_region 7 with (fail)
  refine jp ?_
  refine jm (st (be (x.num.natAbs / x.den))) ?_
  refine jc (st (be 999999999999999)) (fun X hX hF => natS 999999999999999 X (by decide)) ?_
  refine jc (.int .i64 (cmpI (((x.num.natAbs / x.den) : Nat) : Int) (((999999999999999 : Nat)) : Int))) (fun X hX hF => mo (rcmpC (be (x.num.natAbs / x.den)) (be 999999999999999) X (by omega) (by omega)) (by rw [val_be, val_be])) ?_
  refine jv (.bool true) (exec_gtr _ _ _ _ (by rfl) .i64 (cmpI (((x.num.natAbs / x.den) : Nat) : Int) (((999999999999999 : Nat)) : Int)) 0 (by rfl) (by rfl) true (decide_eq_true (by unfold cmpI; rw [if_neg (by omega)]; split <;> omega))) ?_
  refine jz fun X6 hX6 => ?_
  have hB0 := hB0.bel hX6
  have hB1 := hB1.bel hX6
  have hD3 := hD3.bel hX6
  have hD6 := hD6.bel hX6
  have hb := bel_next hb hX6
  clear hX6
  go_upto_region 8 with (fail)
  refine jq 1 ?_
  refine jn (.agg #[.int .i64 0, .int .i64 3]) ?_
  refine jz fun X7 hX7 => ?_
  have hB0 := hB0.bel hX7
  have hB1 := hB1.bel hX7
  have hD3 := hD3.bel hX7
  have hD6 := hD6.bel hX7
  have hb := bel_next hb hX7
  clear hX7
  refine osb 38 2 34 (w.heap.size + 1) 38 hB1 [.int .i64 0, .int .i64 3] info_cnt5 ?_
  intro w9 hR9 hO9 hB9 hs9
  have hb9 := hB9 _ _ hb (by omega)
  clear hO9 hB9
  go_wp2
  refine post_cell rfl rfl (by rfl) Tryz.underlying38 rfl hR9 info_cnt5 ⟨by rw [HF.out.1, HF.out.2], hb9⟩

theorem flo5_z_ok (n : Bool) (p q : List UInt8) (x : Rat) (HX : Hid (rq n p q = x)) (w : World) (h : tz p q 1000000) (sx : szR x 1000000) (HM : Hid (rN x = true)) (HR : Hid (be (x.num.natAbs % x.den) = [])) (hV2 : (x.num.natAbs / x.den) ≤ 999999999999999) (HV9 : Hid ((x.num.natAbs / x.den) < 9223372036854775808)) (HF : Hid (floN x = -(((x.num.natAbs / x.den) : Nat) : Int) ∧ floE x = 0)) : Calls Tryz.prog 13 #[.agg #[.bool n, .string ⟨p.toArray⟩, .string ⟨q.toArray⟩]] w fun e w' => e = .returned (.agg #[.int .i64 (floN x), .int .i64 (floE x)]) ∧ Since w w' := by
  have lP := sx.1
  have lD := sx.2
  have lQ := be_leL (Nat.div_le_self x.num.natAbs x.den) lP
  have l9 : (be 999999999999999).length ≤ 8 := be_len (by decide)
  have HDP : Hid (0 < x.den) := Nat.pos_of_ne_zero x.den_nz
  go_enter Tryz.func13, Tryz.ntmps13
  go_upto_region 1 with (fail)
  obtain ⟨W0, hW0, hB0, hB1, hb⟩ := start2 w 23 38 [.bool n, .string ⟨p.toArray⟩, .string ⟨q.toArray⟩] [.int .i64 0, .int .i64 0]
  rw [← hW0]
  clear hW0
  refine jq 2 ?_
  refine ja hB0 Tryz.underlying23 (by rfl) info_rat ?_
  refine jc (rt true (rP x) (rD x)) (fun X hX hF => mo (cleanS n p q HX.out X h) (by rw [rbv_n HM.out])) ?_
  refine jz fun X1 hX1 => ?_
  have hB0 := hB0.bel hX1
  have hB1 := hB1.bel hX1
  have hb := bel_next hb hX1
  clear hX1
  go_upto_region 2 with (refine osn 23 3 10 #[.bool true, .string ⟨(rP x).toArray⟩, .string ⟨(rD x).toArray⟩] info_rat ?_)
  obtain ⟨Y1, hY9, hD3, hS9⟩ := start1 X1 23 [.bool true, .string ⟨(rP x).toArray⟩, .string ⟨(rD x).toArray⟩]
  rw [← hY9]
  clear hY9
  have hgs3 := hb.size
  have hlt3x0 := hB0.lt
  have hlt3x1 := hB1.lt
  have hB0 := hB0.bel hS9
  have hB1 := hB1.bel hS9
  have hb := bel_next hb hS9
  clear hS9
  generalize X1.heap.size = g3 at *
  refine jp ?_
  refine ja hD3 Tryz.underlying23 (by rfl) info_rat ?_
  refine jc (.tuple #[st (be x.num.natAbs), st (be x.den)]) (fun X hX hF => partsN HM.out X) ?_
  refine jm (.tuple #[st (be x.num.natAbs), st (be x.den)]) ?_
  refine jm (st (be x.num.natAbs)) ?_
  refine jm (st (be x.den)) ?_
  refine jm (st (be x.num.natAbs)) ?_
  refine jm (st (be x.den)) ?_
  refine jz fun X2 hX2 => ?_
  have hB0 := hB0.bel hX2
  have hB1 := hB1.bel hX2
  have hD3 := hD3.bel hX2
  have hb := bel_next hb hX2
  clear hX2
  go_upto_region 3 with (fail)
  refine jq 3 ?_
  refine jm (st (be x.num.natAbs)) ?_
  refine jm (st (be x.den)) ?_
  refine jc (.agg #[st (be (x.num.natAbs / x.den)), st (be (x.num.natAbs % x.den)), .int .i64 0]) (fun X hX hF => mo (rdivC (be x.num.natAbs) (be x.den) X (by omega) (by omega) (by rw [val_be]; exact HDP.out)) (by simp only [val_be])) ?_
  refine jz fun X3 hX3 => ?_
  have hB0 := hB0.bel hX3
  have hB1 := hB1.bel hX3
  have hD3 := hD3.bel hX3
  have hb := bel_next hb hX3
  clear hX3
  go_upto_region 4 with (refine osn 98 6 18 #[.string ⟨(be (x.num.natAbs / x.den)).toArray⟩, .string ⟨(be (x.num.natAbs % x.den)).toArray⟩, .int .i64 0] info_div4 ?_)
  obtain ⟨Y3, hY9, hD6, hS9⟩ := start1 X3 98 [.string ⟨(be (x.num.natAbs / x.den)).toArray⟩, .string ⟨(be (x.num.natAbs % x.den)).toArray⟩, .int .i64 0]
  rw [← hY9]
  clear hY9
  have hgs6 := hb.size
  have hlt6x0 := hB0.lt
  have hlt6x1 := hB1.lt
  have hlt6x2 := hD3.lt
  have hB0 := hB0.bel hS9
  have hB1 := hB1.bel hS9
  have hD3 := hD3.bel hS9
  have hb := bel_next hb hS9
  clear hS9
  generalize X3.heap.size = g6 at *
  refine jp ?_
  refine jn (.pointer (some ⟨g6, 0, none⟩)) ?_
  refine jf (st (be (x.num.natAbs / x.den))) hD6 0 load_str ?_
  refine jm (st (be (x.num.natAbs / x.den))) ?_
  refine jz fun X4 hX4 => ?_
  have hB0 := hB0.bel hX4
  have hB1 := hB1.bel hX4
  have hD3 := hD3.bel hX4
  have hD6 := hD6.bel hX4
  have hb := bel_next hb hX4
  clear hX4
  go_upto_region 5 with (fail)
  refine jp ?_
  refine jn (.pointer (some ⟨g3, 0, none⟩)) ?_
  refine jf (.bool true) hD3 0 load_bool ?_
  refine jm (.bool true) ?_
  refine jn (.pointer (some ⟨g6, 1, none⟩)) ?_
  refine jf (st (be (x.num.natAbs % x.den))) hD6 1 load_str ?_
  refine jv (.bool false) (exec_nesB _ _ _ _ (by rfl) (be (x.num.natAbs % x.den)) ([] : List UInt8) (by rfl) (by rfl) false (nes_f HR.out)) ?_
  refine jm (.bool false) ?_
  refine jz fun X5 hX5 => ?_
  have hB0 := hB0.bel hX5
  have hB1 := hB1.bel hX5
  have hD3 := hD3.bel hX5
  have hD6 := hD6.bel hX5
  have hb := bel_next hb hX5
  clear hX5
  go_upto_region 7 with (fail)
  refine jp ?_
  refine jm (st (be (x.num.natAbs / x.den))) ?_
  refine jc (st (be 999999999999999)) (fun X hX hF => natS 999999999999999 X (by decide)) ?_
  refine jc (.int .i64 (cmpI (((x.num.natAbs / x.den) : Nat) : Int) (((999999999999999 : Nat)) : Int))) (fun X hX hF => mo (rcmpC (be (x.num.natAbs / x.den)) (be 999999999999999) X (by omega) (by omega)) (by rw [val_be, val_be])) ?_
  refine jv (.bool false) (exec_gtr _ _ _ _ (by rfl) .i64 (cmpI (((x.num.natAbs / x.den) : Nat) : Int) (((999999999999999 : Nat)) : Int)) 0 (by rfl) (by rfl) false (decide_eq_false (by unfold cmpI; split; omega; split <;> omega))) ?_
  refine jz fun X6 hX6 => ?_
  have hB0 := hB0.bel hX6
  have hB1 := hB1.bel hX6
  have hD3 := hD3.bel hX6
  have hD6 := hD6.bel hX6
  have hb := bel_next hb hX6
  clear hX6
  go_upto_region 9 with (fail)
  refine jp ?_
  refine jm (st (be (x.num.natAbs / x.den))) ?_
  refine jc (.agg #[.int .i64 (((x.num.natAbs / x.den) : Nat) : Int), .int .i64 0]) (fun X hX hF => mo (rvalueC (be (x.num.natAbs / x.den)) X (by omega) (by rw [val_be]; exact HV9.out)) (by simp only [val_be])) ?_
  refine jm (.int .i64 (((x.num.natAbs / x.den) : Nat) : Int)) ?_
  refine jm (.int .i64 (((x.num.natAbs / x.den) : Nat) : Int)) ?_
  refine jz fun X7 hX7 => ?_
  have hB0 := hB0.bel hX7
  have hB1 := hB1.bel hX7
  have hD3 := hD3.bel hX7
  have hD6 := hD6.bel hX7
  have hb := bel_next hb hX7
  clear hX7
  go_upto_region 10 with (fail)
  refine jp ?_
  refine jn (.pointer (some ⟨g3, 0, none⟩)) ?_
  refine jf (.bool true) hD3 0 load_bool ?_
  refine jz fun X8 hX8 => ?_
  have hB0 := hB0.bel hX8
  have hB1 := hB1.bel hX8
  have hD3 := hD3.bel hX8
  have hD6 := hD6.bel hX8
  have hb := bel_next hb hX8
  clear hX8
  go_upto_region 11 with (fail)
  refine jp ?_
  refine jm (.int .i64 (((x.num.natAbs / x.den) : Nat) : Int)) ?_
  refine jv (.int .i64 (-(((x.num.natAbs / x.den) : Nat) : Int))) (exec_neg _ _ (by rfl) (((x.num.natAbs / x.den) : Nat) : Int) (-(((x.num.natAbs / x.den) : Nat) : Int)) (by rfl) rfl (neg_bd hV2).1 (neg_bd hV2).2) ?_
  refine jm (.int .i64 (-(((x.num.natAbs / x.den) : Nat) : Int))) ?_
  refine jz fun X9 hX9 => ?_
  have hB0 := hB0.bel hX9
  have hB1 := hB1.bel hX9
  have hD3 := hD3.bel hX9
  have hD6 := hD6.bel hX9
  have hb := bel_next hb hX9
  clear hX9
  go_upto_region 12 with (fail)
  refine jq 2 ?_
  refine jm (.int .i64 (-(((x.num.natAbs / x.den) : Nat) : Int))) ?_
  refine jn (.agg #[.int .i64 (-(((x.num.natAbs / x.den) : Nat) : Int)), .int .i64 0]) ?_
  refine jz fun X10 hX10 => ?_
  have hB0 := hB0.bel hX10
  have hB1 := hB1.bel hX10
  have hD3 := hD3.bel hX10
  have hD6 := hD6.bel hX10
  have hb := bel_next hb hX10
  clear hX10
  refine osb 38 2 43 (w.heap.size + 1) 38 hB1 [.int .i64 (-(((x.num.natAbs / x.den) : Nat) : Int)), .int .i64 0] info_cnt5 ?_
  intro w9 hR9 hO9 hB9 hs9
  have hb9 := hB9 _ _ hb (by omega)
  clear hO9 hB9
  go_wp2
  refine post_cell rfl rfl (by rfl) Tryz.underlying38 rfl hR9 info_cnt5 ⟨by rw [HF.out.1, HF.out.2], hb9⟩

theorem flo5_r_big (n : Bool) (p q : List UInt8) (x : Rat) (HX : Hid (rq n p q = x)) (w : World) (h : tz p q 1000000) (sx : szR x 1000000) (HM : Hid (rN x = true)) (HR : Hid (be (x.num.natAbs % x.den) ≠ [])) (hV2 : 999999999999999 < ((x.num.natAbs / x.den) + 1)) (HF : Hid (floN x = 0 ∧ floE x = 3)) : Calls Tryz.prog 13 #[.agg #[.bool n, .string ⟨p.toArray⟩, .string ⟨q.toArray⟩]] w fun e w' => e = .returned (.agg #[.int .i64 (floN x), .int .i64 (floE x)]) ∧ Since w w' := by
  have lP := sx.1
  have lD := sx.2
  have lQ := be_leL (Nat.div_le_self x.num.natAbs x.den) lP
  have l9 : (be 999999999999999).length ≤ 8 := be_len (by decide)
  have lQ1 := be_addL lQ (be_litL (k := 1) (n := 1) (by decide))
  have HDP : Hid (0 < x.den) := Nat.pos_of_ne_zero x.den_nz
  go_enter Tryz.func13, Tryz.ntmps13
  go_upto_region 1 with (fail)
  obtain ⟨W0, hW0, hB0, hB1, hb⟩ := start2 w 23 38 [.bool n, .string ⟨p.toArray⟩, .string ⟨q.toArray⟩] [.int .i64 0, .int .i64 0]
  rw [← hW0]
  clear hW0
  refine jq 2 ?_
  refine ja hB0 Tryz.underlying23 (by rfl) info_rat ?_
  refine jc (rt true (rP x) (rD x)) (fun X hX hF => mo (cleanS n p q HX.out X h) (by rw [rbv_n HM.out])) ?_
  refine jz fun X1 hX1 => ?_
  have hB0 := hB0.bel hX1
  have hB1 := hB1.bel hX1
  have hb := bel_next hb hX1
  clear hX1
  go_upto_region 2 with (refine osn 23 3 10 #[.bool true, .string ⟨(rP x).toArray⟩, .string ⟨(rD x).toArray⟩] info_rat ?_)
  obtain ⟨Y1, hY9, hD3, hS9⟩ := start1 X1 23 [.bool true, .string ⟨(rP x).toArray⟩, .string ⟨(rD x).toArray⟩]
  rw [← hY9]
  clear hY9
  have hgs3 := hb.size
  have hlt3x0 := hB0.lt
  have hlt3x1 := hB1.lt
  have hB0 := hB0.bel hS9
  have hB1 := hB1.bel hS9
  have hb := bel_next hb hS9
  clear hS9
  generalize X1.heap.size = g3 at *
  refine jp ?_
  refine ja hD3 Tryz.underlying23 (by rfl) info_rat ?_
  refine jc (.tuple #[st (be x.num.natAbs), st (be x.den)]) (fun X hX hF => partsN HM.out X) ?_
  refine jm (.tuple #[st (be x.num.natAbs), st (be x.den)]) ?_
  refine jm (st (be x.num.natAbs)) ?_
  refine jm (st (be x.den)) ?_
  refine jm (st (be x.num.natAbs)) ?_
  refine jm (st (be x.den)) ?_
  refine jz fun X2 hX2 => ?_
  have hB0 := hB0.bel hX2
  have hB1 := hB1.bel hX2
  have hD3 := hD3.bel hX2
  have hb := bel_next hb hX2
  clear hX2
  go_upto_region 3 with (fail)
  refine jq 3 ?_
  refine jm (st (be x.num.natAbs)) ?_
  refine jm (st (be x.den)) ?_
  refine jc (.agg #[st (be (x.num.natAbs / x.den)), st (be (x.num.natAbs % x.den)), .int .i64 0]) (fun X hX hF => mo (rdivC (be x.num.natAbs) (be x.den) X (by omega) (by omega) (by rw [val_be]; exact HDP.out)) (by simp only [val_be])) ?_
  refine jz fun X3 hX3 => ?_
  have hB0 := hB0.bel hX3
  have hB1 := hB1.bel hX3
  have hD3 := hD3.bel hX3
  have hb := bel_next hb hX3
  clear hX3
  go_upto_region 4 with (refine osn 98 6 18 #[.string ⟨(be (x.num.natAbs / x.den)).toArray⟩, .string ⟨(be (x.num.natAbs % x.den)).toArray⟩, .int .i64 0] info_div4 ?_)
  obtain ⟨Y3, hY9, hD6, hS9⟩ := start1 X3 98 [.string ⟨(be (x.num.natAbs / x.den)).toArray⟩, .string ⟨(be (x.num.natAbs % x.den)).toArray⟩, .int .i64 0]
  rw [← hY9]
  clear hY9
  have hgs6 := hb.size
  have hlt6x0 := hB0.lt
  have hlt6x1 := hB1.lt
  have hlt6x2 := hD3.lt
  have hB0 := hB0.bel hS9
  have hB1 := hB1.bel hS9
  have hD3 := hD3.bel hS9
  have hb := bel_next hb hS9
  clear hS9
  generalize X3.heap.size = g6 at *
  refine jp ?_
  refine jn (.pointer (some ⟨g6, 0, none⟩)) ?_
  refine jf (st (be (x.num.natAbs / x.den))) hD6 0 load_str ?_
  refine jm (st (be (x.num.natAbs / x.den))) ?_
  refine jz fun X4 hX4 => ?_
  have hB0 := hB0.bel hX4
  have hB1 := hB1.bel hX4
  have hD3 := hD3.bel hX4
  have hD6 := hD6.bel hX4
  have hb := bel_next hb hX4
  clear hX4
  go_upto_region 5 with (fail)
  refine jp ?_
  refine jn (.pointer (some ⟨g3, 0, none⟩)) ?_
  refine jf (.bool true) hD3 0 load_bool ?_
  refine jm (.bool true) ?_
  refine jn (.pointer (some ⟨g6, 1, none⟩)) ?_
  refine jf (st (be (x.num.natAbs % x.den))) hD6 1 load_str ?_
  refine jv (.bool true) (exec_nesB _ _ _ _ (by rfl) (be (x.num.natAbs % x.den)) ([] : List UInt8) (by rfl) (by rfl) true (nes_t HR.out)) ?_
  refine jm (.bool true) ?_
  refine jz fun X5 hX5 => ?_
  have hB0 := hB0.bel hX5
  have hB1 := hB1.bel hX5
  have hD3 := hD3.bel hX5
  have hD6 := hD6.bel hX5
  have hb := bel_next hb hX5
  clear hX5
  go_upto_region 6 with (fail)
  refine jp ?_
  refine jm (st (be (x.num.natAbs / x.den))) ?_
  refine jc (st (be ((x.num.natAbs / x.den) + 1))) (fun X hX hF => mo (raddC (be (x.num.natAbs / x.den)) [1] X (by omega) (by decide)) (by rw [val_be, show val [1] = 1 from rfl])) ?_
  refine jm (st (be ((x.num.natAbs / x.den) + 1))) ?_
  refine jz fun X6 hX6 => ?_
  have hB0 := hB0.bel hX6
  have hB1 := hB1.bel hX6
  have hD3 := hD3.bel hX6
  have hD6 := hD6.bel hX6
  have hb := bel_next hb hX6
  clear hX6
  go_upto_region 7 with (fail)
  refine jp ?_
  refine jm (st (be ((x.num.natAbs / x.den) + 1))) ?_
  refine jc (st (be 999999999999999)) (fun X hX hF => natS 999999999999999 X (by decide)) ?_
  refine jc (.int .i64 (cmpI ((((x.num.natAbs / x.den) + 1) : Nat) : Int) (((999999999999999 : Nat)) : Int))) (fun X hX hF => mo (rcmpC (be ((x.num.natAbs / x.den) + 1)) (be 999999999999999) X (by omega) (by omega)) (by rw [val_be, val_be])) ?_
  refine jv (.bool true) (exec_gtr _ _ _ _ (by rfl) .i64 (cmpI ((((x.num.natAbs / x.den) + 1) : Nat) : Int) (((999999999999999 : Nat)) : Int)) 0 (by rfl) (by rfl) true (decide_eq_true (by unfold cmpI; rw [if_neg (by omega)]; split <;> omega))) ?_
  refine jz fun X7 hX7 => ?_
  have hB0 := hB0.bel hX7
  have hB1 := hB1.bel hX7
  have hD3 := hD3.bel hX7
  have hD6 := hD6.bel hX7
  have hb := bel_next hb hX7
  clear hX7
  go_upto_region 8 with (fail)
  refine jq 1 ?_
  refine jn (.agg #[.int .i64 0, .int .i64 3]) ?_
  refine jz fun X8 hX8 => ?_
  have hB0 := hB0.bel hX8
  have hB1 := hB1.bel hX8
  have hD3 := hD3.bel hX8
  have hD6 := hD6.bel hX8
  have hb := bel_next hb hX8
  clear hX8
  refine osb 38 2 34 (w.heap.size + 1) 38 hB1 [.int .i64 0, .int .i64 3] info_cnt5 ?_
  intro w9 hR9 hO9 hB9 hs9
  have hb9 := hB9 _ _ hb (by omega)
  clear hO9 hB9
  go_wp2
  refine post_cell rfl rfl (by rfl) Tryz.underlying38 rfl hR9 info_cnt5 ⟨by rw [HF.out.1, HF.out.2], hb9⟩

theorem flo5_r_ok (n : Bool) (p q : List UInt8) (x : Rat) (HX : Hid (rq n p q = x)) (w : World) (h : tz p q 1000000) (sx : szR x 1000000) (HM : Hid (rN x = true)) (HR : Hid (be (x.num.natAbs % x.den) ≠ [])) (hV2 : ((x.num.natAbs / x.den) + 1) ≤ 999999999999999) (HV9 : Hid (((x.num.natAbs / x.den) + 1) < 9223372036854775808)) (HF : Hid (floN x = -((((x.num.natAbs / x.den) + 1) : Nat) : Int) ∧ floE x = 0)) : Calls Tryz.prog 13 #[.agg #[.bool n, .string ⟨p.toArray⟩, .string ⟨q.toArray⟩]] w fun e w' => e = .returned (.agg #[.int .i64 (floN x), .int .i64 (floE x)]) ∧ Since w w' := by
  have lP := sx.1
  have lD := sx.2
  have lQ := be_leL (Nat.div_le_self x.num.natAbs x.den) lP
  have l9 : (be 999999999999999).length ≤ 8 := be_len (by decide)
  have lQ1 := be_addL lQ (be_litL (k := 1) (n := 1) (by decide))
  have HDP : Hid (0 < x.den) := Nat.pos_of_ne_zero x.den_nz
  go_enter Tryz.func13, Tryz.ntmps13
  go_upto_region 1 with (fail)
  obtain ⟨W0, hW0, hB0, hB1, hb⟩ := start2 w 23 38 [.bool n, .string ⟨p.toArray⟩, .string ⟨q.toArray⟩] [.int .i64 0, .int .i64 0]
  rw [← hW0]
  clear hW0
  refine jq 2 ?_
  refine ja hB0 Tryz.underlying23 (by rfl) info_rat ?_
  refine jc (rt true (rP x) (rD x)) (fun X hX hF => mo (cleanS n p q HX.out X h) (by rw [rbv_n HM.out])) ?_
  refine jz fun X1 hX1 => ?_
  have hB0 := hB0.bel hX1
  have hB1 := hB1.bel hX1
  have hb := bel_next hb hX1
  clear hX1
  go_upto_region 2 with (refine osn 23 3 10 #[.bool true, .string ⟨(rP x).toArray⟩, .string ⟨(rD x).toArray⟩] info_rat ?_)
  obtain ⟨Y1, hY9, hD3, hS9⟩ := start1 X1 23 [.bool true, .string ⟨(rP x).toArray⟩, .string ⟨(rD x).toArray⟩]
  rw [← hY9]
  clear hY9
  have hgs3 := hb.size
  have hlt3x0 := hB0.lt
  have hlt3x1 := hB1.lt
  have hB0 := hB0.bel hS9
  have hB1 := hB1.bel hS9
  have hb := bel_next hb hS9
  clear hS9
  generalize X1.heap.size = g3 at *
  refine jp ?_
  refine ja hD3 Tryz.underlying23 (by rfl) info_rat ?_
  refine jc (.tuple #[st (be x.num.natAbs), st (be x.den)]) (fun X hX hF => partsN HM.out X) ?_
  refine jm (.tuple #[st (be x.num.natAbs), st (be x.den)]) ?_
  refine jm (st (be x.num.natAbs)) ?_
  refine jm (st (be x.den)) ?_
  refine jm (st (be x.num.natAbs)) ?_
  refine jm (st (be x.den)) ?_
  refine jz fun X2 hX2 => ?_
  have hB0 := hB0.bel hX2
  have hB1 := hB1.bel hX2
  have hD3 := hD3.bel hX2
  have hb := bel_next hb hX2
  clear hX2
  go_upto_region 3 with (fail)
  refine jq 3 ?_
  refine jm (st (be x.num.natAbs)) ?_
  refine jm (st (be x.den)) ?_
  refine jc (.agg #[st (be (x.num.natAbs / x.den)), st (be (x.num.natAbs % x.den)), .int .i64 0]) (fun X hX hF => mo (rdivC (be x.num.natAbs) (be x.den) X (by omega) (by omega) (by rw [val_be]; exact HDP.out)) (by simp only [val_be])) ?_
  refine jz fun X3 hX3 => ?_
  have hB0 := hB0.bel hX3
  have hB1 := hB1.bel hX3
  have hD3 := hD3.bel hX3
  have hb := bel_next hb hX3
  clear hX3
  go_upto_region 4 with (refine osn 98 6 18 #[.string ⟨(be (x.num.natAbs / x.den)).toArray⟩, .string ⟨(be (x.num.natAbs % x.den)).toArray⟩, .int .i64 0] info_div4 ?_)
  obtain ⟨Y3, hY9, hD6, hS9⟩ := start1 X3 98 [.string ⟨(be (x.num.natAbs / x.den)).toArray⟩, .string ⟨(be (x.num.natAbs % x.den)).toArray⟩, .int .i64 0]
  rw [← hY9]
  clear hY9
  have hgs6 := hb.size
  have hlt6x0 := hB0.lt
  have hlt6x1 := hB1.lt
  have hlt6x2 := hD3.lt
  have hB0 := hB0.bel hS9
  have hB1 := hB1.bel hS9
  have hD3 := hD3.bel hS9
  have hb := bel_next hb hS9
  clear hS9
  generalize X3.heap.size = g6 at *
  refine jp ?_
  refine jn (.pointer (some ⟨g6, 0, none⟩)) ?_
  refine jf (st (be (x.num.natAbs / x.den))) hD6 0 load_str ?_
  refine jm (st (be (x.num.natAbs / x.den))) ?_
  refine jz fun X4 hX4 => ?_
  have hB0 := hB0.bel hX4
  have hB1 := hB1.bel hX4
  have hD3 := hD3.bel hX4
  have hD6 := hD6.bel hX4
  have hb := bel_next hb hX4
  clear hX4
  go_upto_region 5 with (fail)
  refine jp ?_
  refine jn (.pointer (some ⟨g3, 0, none⟩)) ?_
  refine jf (.bool true) hD3 0 load_bool ?_
  refine jm (.bool true) ?_
  refine jn (.pointer (some ⟨g6, 1, none⟩)) ?_
  refine jf (st (be (x.num.natAbs % x.den))) hD6 1 load_str ?_
  refine jv (.bool true) (exec_nesB _ _ _ _ (by rfl) (be (x.num.natAbs % x.den)) ([] : List UInt8) (by rfl) (by rfl) true (nes_t HR.out)) ?_
  refine jm (.bool true) ?_
  refine jz fun X5 hX5 => ?_
  have hB0 := hB0.bel hX5
  have hB1 := hB1.bel hX5
  have hD3 := hD3.bel hX5
  have hD6 := hD6.bel hX5
  have hb := bel_next hb hX5
  clear hX5
  go_upto_region 6 with (fail)
  refine jp ?_
  refine jm (st (be (x.num.natAbs / x.den))) ?_
  refine jc (st (be ((x.num.natAbs / x.den) + 1))) (fun X hX hF => mo (raddC (be (x.num.natAbs / x.den)) [1] X (by omega) (by decide)) (by rw [val_be, show val [1] = 1 from rfl])) ?_
  refine jm (st (be ((x.num.natAbs / x.den) + 1))) ?_
  refine jz fun X6 hX6 => ?_
  have hB0 := hB0.bel hX6
  have hB1 := hB1.bel hX6
  have hD3 := hD3.bel hX6
  have hD6 := hD6.bel hX6
  have hb := bel_next hb hX6
  clear hX6
  go_upto_region 7 with (fail)
  refine jp ?_
  refine jm (st (be ((x.num.natAbs / x.den) + 1))) ?_
  refine jc (st (be 999999999999999)) (fun X hX hF => natS 999999999999999 X (by decide)) ?_
  refine jc (.int .i64 (cmpI ((((x.num.natAbs / x.den) + 1) : Nat) : Int) (((999999999999999 : Nat)) : Int))) (fun X hX hF => mo (rcmpC (be ((x.num.natAbs / x.den) + 1)) (be 999999999999999) X (by omega) (by omega)) (by rw [val_be, val_be])) ?_
  refine jv (.bool false) (exec_gtr _ _ _ _ (by rfl) .i64 (cmpI ((((x.num.natAbs / x.den) + 1) : Nat) : Int) (((999999999999999 : Nat)) : Int)) 0 (by rfl) (by rfl) false (decide_eq_false (by unfold cmpI; split; omega; split <;> omega))) ?_
  refine jz fun X7 hX7 => ?_
  have hB0 := hB0.bel hX7
  have hB1 := hB1.bel hX7
  have hD3 := hD3.bel hX7
  have hD6 := hD6.bel hX7
  have hb := bel_next hb hX7
  clear hX7
  go_upto_region 9 with (fail)
  refine jp ?_
  refine jm (st (be ((x.num.natAbs / x.den) + 1))) ?_
  refine jc (.agg #[.int .i64 ((((x.num.natAbs / x.den) + 1) : Nat) : Int), .int .i64 0]) (fun X hX hF => mo (rvalueC (be ((x.num.natAbs / x.den) + 1)) X (by omega) (by rw [val_be]; exact HV9.out)) (by simp only [val_be])) ?_
  refine jm (.int .i64 ((((x.num.natAbs / x.den) + 1) : Nat) : Int)) ?_
  refine jm (.int .i64 ((((x.num.natAbs / x.den) + 1) : Nat) : Int)) ?_
  refine jz fun X8 hX8 => ?_
  have hB0 := hB0.bel hX8
  have hB1 := hB1.bel hX8
  have hD3 := hD3.bel hX8
  have hD6 := hD6.bel hX8
  have hb := bel_next hb hX8
  clear hX8
  go_upto_region 10 with (fail)
  refine jp ?_
  refine jn (.pointer (some ⟨g3, 0, none⟩)) ?_
  refine jf (.bool true) hD3 0 load_bool ?_
  refine jz fun X9 hX9 => ?_
  have hB0 := hB0.bel hX9
  have hB1 := hB1.bel hX9
  have hD3 := hD3.bel hX9
  have hD6 := hD6.bel hX9
  have hb := bel_next hb hX9
  clear hX9
  go_upto_region 11 with (fail)
  refine jp ?_
  refine jm (.int .i64 ((((x.num.natAbs / x.den) + 1) : Nat) : Int)) ?_
  refine jv (.int .i64 (-((((x.num.natAbs / x.den) + 1) : Nat) : Int))) (exec_neg _ _ (by rfl) ((((x.num.natAbs / x.den) + 1) : Nat) : Int) (-((((x.num.natAbs / x.den) + 1) : Nat) : Int)) (by rfl) rfl (neg_bd hV2).1 (neg_bd hV2).2) ?_
  refine jm (.int .i64 (-((((x.num.natAbs / x.den) + 1) : Nat) : Int))) ?_
  refine jz fun X10 hX10 => ?_
  have hB0 := hB0.bel hX10
  have hB1 := hB1.bel hX10
  have hD3 := hD3.bel hX10
  have hD6 := hD6.bel hX10
  have hb := bel_next hb hX10
  clear hX10
  go_upto_region 12 with (fail)
  refine jq 2 ?_
  refine jm (.int .i64 (-((((x.num.natAbs / x.den) + 1) : Nat) : Int))) ?_
  refine jn (.agg #[.int .i64 (-((((x.num.natAbs / x.den) + 1) : Nat) : Int)), .int .i64 0]) ?_
  refine jz fun X11 hX11 => ?_
  have hB0 := hB0.bel hX11
  have hB1 := hB1.bel hX11
  have hD3 := hD3.bel hX11
  have hD6 := hD6.bel hX11
  have hb := bel_next hb hX11
  clear hX11
  refine osb 38 2 43 (w.heap.size + 1) 38 hB1 [.int .i64 (-((((x.num.natAbs / x.den) + 1) : Nat) : Int)), .int .i64 0] info_cnt5 ?_
  intro w9 hR9 hO9 hB9 hs9
  have hb9 := hB9 _ _ hb (by omega)
  clear hO9 hB9
  go_wp2
  refine post_cell rfl rfl (by rfl) Tryz.underlying38 rfl hR9 info_cnt5 ⟨by rw [HF.out.1, HF.out.2], hb9⟩

theorem floS (n : Bool) (p q : List UInt8) {x : Rat} (hx : rq n p q = x) (w : World) (h : tz p q 1000000) : Calls Tryz.prog 13 #[.agg #[.bool n, .string ⟨p.toArray⟩, .string ⟨q.toArray⟩]] w fun e w' => e = .returned (.agg #[.int .i64 (floN x), .int .i64 (floE x)]) ∧ Since w w' := by
  have sx := szR_tz hx h
  have hf := flr_eq x
  have habs : (flr x).natAbs = flq (rN x) x.num.natAbs x.den := by rw [hf, sg_abs]
  have ok : ∀ v : Int, flq (rN x) x.num.natAbs x.den ≤ 999999999999999 → flr x = v → floN x = v ∧ floE x = 0 := fun v h1 h2 => by
    unfold floN floE
    rw [habs, if_pos h1, if_pos h1]
    exact ⟨h2, rfl⟩
  have bad : 999999999999999 < flq (rN x) x.num.natAbs x.den → floN x = 0 ∧ floE x = 3 := fun h1 => by
    unfold floN floE
    rw [habs, if_neg (by omega), if_neg (by omega)]
    exact ⟨rfl, rfl⟩
  rcases hn : rN x with _ | _
  · have hq0 : flq (rN x) x.num.natAbs x.den = x.num.natAbs / x.den := by unfold flq; rw [hn]; exact if_neg (by simp)
    rw [hq0] at ok bad hf
    rcases Nat.lt_or_ge 999999999999999 (x.num.natAbs / x.den) with h1 | h1
    · exact flo5_p_big n p q x hx w h sx hn h1 (bad h1)
    · exact flo5_p_ok n p q x hx w h sx hn h1 (show _ < _ by omega) (ok _ h1 (by rw [hf, hn]; rfl))
  · by_cases hr : x.num.natAbs % x.den = 0
    · have hq0 : flq (rN x) x.num.natAbs x.den = x.num.natAbs / x.den := by unfold flq; exact if_neg (by simp [hr])
      rw [hq0] at ok bad hf
      rcases Nat.lt_or_ge 999999999999999 (x.num.natAbs / x.den) with h1 | h1
      · exact flo5_z_big n p q x hx w h sx hn (be_nil.2 hr) h1 (bad h1)
      · exact flo5_z_ok n p q x hx w h sx hn (be_nil.2 hr) h1 (show _ < _ by omega) (ok _ h1 (by rw [hf, hn]; rfl))
    · have hq0 : flq (rN x) x.num.natAbs x.den = x.num.natAbs / x.den + 1 := by unfold flq; exact if_pos ⟨hn, hr⟩
      rw [hq0] at ok bad hf
      rcases Nat.lt_or_ge 999999999999999 (x.num.natAbs / x.den + 1) with h1 | h1
      · exact flo5_r_big n p q x hx w h sx hn (be_ne (Nat.pos_of_ne_zero hr)) h1 (bad h1)
      · exact flo5_r_ok n p q x hx w h sx hn (be_ne (Nat.pos_of_ne_zero hr)) h1 (show _ < _ by omega) (ok _ h1 (by rw [hf, hn]; rfl))

theorem cei5 (n : Bool) (p q : List UInt8) (x : Rat) (HX : Hid (rq n p q = x)) (w : World) (h : tz p q 1000000) (sx : szR (-x) 1000000) : Calls Tryz.prog 15 #[.agg #[.bool n, .string ⟨p.toArray⟩, .string ⟨q.toArray⟩]] w fun e w' => e = .returned (.agg #[.int .i64 (-floN (-x)), .int .i64 (floE (-x))]) ∧ Since w w' := by
  go_enter Tryz.func15, Tryz.ntmps15
  go_upto_region 1 with (fail)
  obtain ⟨W0, hW0, hB0, hB1, hb⟩ := start2 w 23 38 [.bool n, .string ⟨p.toArray⟩, .string ⟨q.toArray⟩] [.int .i64 0, .int .i64 0]
  rw [← hW0]
  clear hW0
  refine jq 3 ?_
  refine ja hB0 Tryz.underlying23 (by rfl) info_rat ?_
  refine jc (rt (rN (-x)) (rP (-x)) (rD (-x))) (fun X hX hF => negS n p q HX.out X h) ?_
  refine jc (.agg #[.int .i64 (floN (-x)), .int .i64 (floE (-x))]) (fun X hX hF => floS (rN (-x)) (rP (-x)) (rD (-x)) (rq_rb (-x)) X (tzR sx (by omega))) ?_
  refine jz fun X1 hX1 => ?_
  have hB0 := hB0.bel hX1
  have hB1 := hB1.bel hX1
  have hb := bel_next hb hX1
  clear hX1
  go_upto_region 2 with (refine osn 38 3 6 #[.int .i64 (floN (-x)), .int .i64 (floE (-x))] info_cnt5 ?_)
  obtain ⟨Y1, hY9, hD3, hS9⟩ := start1 X1 38 [.int .i64 (floN (-x)), .int .i64 (floE (-x))]
  rw [← hY9]
  clear hY9
  have hgs3 := hb.size
  have hlt3x0 := hB0.lt
  have hlt3x1 := hB1.lt
  have hB0 := hB0.bel hS9
  have hB1 := hB1.bel hS9
  have hb := bel_next hb hS9
  clear hS9
  generalize X1.heap.size = g3 at *
  refine jq 6 ?_
  refine jn (.pointer (some ⟨g3, 0, none⟩)) ?_
  refine jf (.int .i64 (floN (-x))) hD3 0 load_int ?_
  refine jv (.int .i64 (-floN (-x))) (exec_neg _ _ (by rfl) (floN (-x)) (-floN (-x)) (by rfl) rfl (floN_bd (-x)).1 (floN_bd (-x)).2) ?_
  refine jn (.pointer (some ⟨g3, 1, none⟩)) ?_
  refine jf (.int .i64 (floE (-x))) hD3 1 load_err ?_
  refine jn (.agg #[.int .i64 (-floN (-x)), .int .i64 (floE (-x))]) ?_
  refine jz fun X2 hX2 => ?_
  have hB0 := hB0.bel hX2
  have hB1 := hB1.bel hX2
  have hD3 := hD3.bel hX2
  have hb := bel_next hb hX2
  clear hX2
  refine osb 38 2 12 (w.heap.size + 1) 38 hB1 [.int .i64 (-floN (-x)), .int .i64 (floE (-x))] info_cnt5 ?_
  intro w9 hR9 hO9 hB9 hs9
  have hb9 := hB9 _ _ hb (by omega)
  clear hO9 hB9
  go_wp2
  refine post_cell rfl rfl (by rfl) Tryz.underlying38 rfl hR9 info_cnt5 ⟨rfl, hb9⟩

theorem ceiS (n : Bool) (p q : List UInt8) {x : Rat} (hx : rq n p q = x) (w : World) (h : tz p q 1000000) : Calls Tryz.prog 15 #[.agg #[.bool n, .string ⟨p.toArray⟩, .string ⟨q.toArray⟩]] w fun e w' => e = .returned (.agg #[.int .i64 (-floN (-x)), .int .i64 (floE (-x))]) ∧ Since w w' := cei5 n p q x hx w h (szR_neg (szR_tz hx h))
end Go.Proofs.YtchhlgcakjjncaaGreatDoor
