/-
  law 05: RatsAreAsSpecified.
-/
import Derived.Test.YtchhlgcakjjncaaGreatDoorS05
import Derived.Test.YtchhlgcakjjncaaGreatDoorR5b
set_option linter.unusedSimpArgs false
set_option linter.unusedVariables false
set_option maxRecDepth 100000
set_option maxHeartbeats 1600000
namespace Go.Proofs.YtchhlgcakjjncaaGreatDoor
open Go.RowKit

/-- What Make, Int and Div hand back, for all arguments. -/
def mkA (m k : Int) : Rat := if insB m = true ∧ insB k = true then (m : Rat) / (k : Rat) else 0
def mkE (m k : Int) : Int := if insB m = true ∧ insB k = true then (if k = 0 then 1 else 0) else 3
def inA (m : Int) : Rat := if insB m = true then (m : Rat) else 0
def dvE2 (y : Rat) : Int := if y = 0 then 1 else 0
theorem exec_neb {f : Operand → Value} {o : Oper} (x y : Operand) (ho : o.op = .binOp .neq 4 x y 4) (b : Bool) (hx : f x = .bool b) (hy : f y = .bool b) (X : World) : (execOp f o).run Tryz.prog X = .ok (.value (.bool false)) X := by
  unfold execOp
  simp only [ho, hx, hy]
  cases b <;> go_simp
theorem rbv_z : rbv 0 = .agg #[.bool false, .string ⟨#[]⟩, .string ⟨#[]⟩] := rfl
theorem makeU (m k : Int) (w : World) : Calls Tryz.prog 8 #[.int .i64 m, .int .i64 k] w fun e w' => e = .returned (.tuple #[rbv (mkA m k), .int .i64 (mkE m k)]) ∧ Since w w' := by
  rcases hm : insB m with _ | _
  · have h1 : mkA m k = 0 ∧ mkE m k = 3 := by unfold mkA mkE; rw [hm]; simp
    rw [h1.1, h1.2]
    exact makeR1 m k w hm
  · rcases hk : insB k with _ | _
    · have h1 : mkA m k = 0 ∧ mkE m k = 3 := by unfold mkA mkE; rw [hm, hk]; simp
      rw [h1.1, h1.2]
      exact makeR2 m k w hm hk
    · by_cases h0 : k = 0
      · have h1 : mkA m k = 0 ∧ mkE m k = 1 := by
          unfold mkA mkE
          rw [if_pos ⟨hm, hk⟩, if_pos ⟨hm, hk⟩, if_pos h0, h0]
          exact ⟨by rw [show ((0 : Int) : Rat) = 0 from rfl, Rat.div_def, Rat.inv_zero, Rat.mul_zero], rfl⟩
        rw [h1.1, h1.2]
        exact makeA m k w hm hk h0
      · have h1 : mkA m k = (m : Rat) / (k : Rat) ∧ mkE m k = 0 := by
          unfold mkA mkE
          rw [if_pos ⟨hm, hk⟩, if_pos ⟨hm, hk⟩, if_neg h0]
          exact ⟨rfl, rfl⟩
        rw [h1.1, h1.2]
        exact makeC m k w hm hk h0
theorem makeUS (m k : Int) (w : World) : Calls Tryz.prog 9 #[.int .i64 m, .int .i64 k] w fun e w' => e = .returned (.agg #[.bool (rN (mkA m k)), .string ⟨(rP (mkA m k)).toArray⟩, .string ⟨(rD (mkA m k)).toArray⟩, .int .i64 (mkE m k)]) ∧ Since w w' := by
  rcases hm : insB m with _ | _
  · have h1 : mkA m k = 0 ∧ mkE m k = 3 := by unfold mkA mkE; rw [hm]; simp
    rw [h1.1, h1.2]
    exact makeSR m k w (.inl hm)
  · rcases hk : insB k with _ | _
    · have h1 : mkA m k = 0 ∧ mkE m k = 3 := by unfold mkA mkE; rw [hm, hk]; simp
      rw [h1.1, h1.2]
      exact makeSR m k w (.inr hk)
    · by_cases h0 : k = 0
      · have h1 : mkA m k = 0 ∧ mkE m k = 1 := by
          unfold mkA mkE
          rw [if_pos ⟨hm, hk⟩, if_pos ⟨hm, hk⟩, if_pos h0, h0]
          exact ⟨by rw [show ((0 : Int) : Rat) = 0 from rfl, Rat.div_def, Rat.inv_zero, Rat.mul_zero], rfl⟩
        rw [h1.1, h1.2]
        exact makeSA m k w hm hk h0
      · have h1 : mkA m k = (m : Rat) / (k : Rat) ∧ mkE m k = 0 := by
          unfold mkA mkE
          rw [if_pos ⟨hm, hk⟩, if_pos ⟨hm, hk⟩, if_neg h0]
          exact ⟨rfl, rfl⟩
        rw [h1.1, h1.2]
        exact makeS m k w hm hk h0
theorem intU (m : Int) (w : World) : Calls Tryz.prog 18 #[.int .i64 m] w fun e w' => e = .returned (rbv (inA m)) ∧ Since w w' := by
  unfold inA
  rcases hm : insB m with _ | _
  · rw [if_neg (by simp)]
    exact rintX m w hm
  · rw [if_pos rfl]
    exact rintQ m w hm
theorem intUS (m : Int) (w : World) : Calls Tryz.prog 19 #[.int .i64 m] w fun e w' => e = .returned (rbv (inA m)) ∧ Since w w' := by
  unfold inA
  rcases hm : insB m with _ | _
  · rw [if_neg (by simp)]
    exact int5_0 m w hm
  · rw [if_pos rfl]
    exact intS m w hm
theorem divU (n : Bool) (p q : List UInt8) (n' : Bool) (p' q' : List UInt8) {x : Rat} (hx : rq n p q = x) {y : Rat} (hy : rq n' p' q' = y) (w : World) (h : tz p q 1000000) (h' : tz p' q' 1000000) : Calls Tryz.prog 10 #[.agg #[.bool n, .string ⟨p.toArray⟩, .string ⟨q.toArray⟩], .agg #[.bool n', .string ⟨p'.toArray⟩, .string ⟨q'.toArray⟩]] w fun e w' => e = .returned (.tuple #[rbv (x / y), .int .i64 (dvE2 y)]) ∧ Since w w' := by
  unfold dvE2
  by_cases h0 : y = 0
  · rw [if_pos h0, show x / y = 0 by rw [h0, Rat.div_def, Rat.inv_zero, Rat.mul_zero]]
    exact divG0 n p q n' p' q' hx hy w h h' h0
  · rw [if_neg h0]
    exact divG n p q n' p' q' hx hy w h h' h0
theorem divUS (n : Bool) (p q : List UInt8) (n' : Bool) (p' q' : List UInt8) {x : Rat} (hx : rq n p q = x) {y : Rat} (hy : rq n' p' q' = y) (w : World) (h : tz p q 1000000) (h' : tz p' q' 1000000) : Calls Tryz.prog 11 #[.agg #[.bool n, .string ⟨p.toArray⟩, .string ⟨q.toArray⟩], .agg #[.bool n', .string ⟨p'.toArray⟩, .string ⟨q'.toArray⟩]] w fun e w' => e = .returned (.agg #[.bool (rN (x / y)), .string ⟨(rP (x / y)).toArray⟩, .string ⟨(rD (x / y)).toArray⟩, .int .i64 (dvE2 y)]) ∧ Since w w' := by
  unfold dvE2
  by_cases h0 : y = 0
  · rw [if_pos h0, show x / y = 0 by rw [h0, Rat.div_def, Rat.inv_zero, Rat.mul_zero]]
    exact divS0 n p q n' p' q' hx hy w h h' h0
  · rw [if_neg h0]
    exact divS n p q n' p' q' hx hy w h h' h0
theorem spec0 (n : Bool) (p q : List UInt8) (n' : Bool) (p' q' : List UInt8) (m k : Int) (w : World) (t1 : ¬ tz p q 30) : Calls Tryz.prog 3 #[.agg #[.bool n, .string ⟨p.toArray⟩, .string ⟨q.toArray⟩], .agg #[.bool n', .string ⟨p'.toArray⟩, .string ⟨q'.toArray⟩], .agg #[.int .i64 m, .int .i64 k]] w fun e w' => e = .returned (.bool true) ∧ Since w w' := by
  go_enter Tryz.func3, Tryz.ntmps3
  go_upto_region 1 with (fail)
  obtain ⟨W0, hW0, hB0, hB1, hB2, hb⟩ := start3 w 23 23 24 [.bool n, .string ⟨p.toArray⟩, .string ⟨q.toArray⟩] [.bool n', .string ⟨p'.toArray⟩, .string ⟨q'.toArray⟩] [.int .i64 m, .int .i64 k]
  rw [← hW0]
  clear hW0
  refine jp ?_
  refine ja hB0 Tryz.underlying23 (by rfl) info_rat ?_
  refine jc (.bool false) (fun X hX hF => mo (fewQ n p q 30 X) (by rw [few_f t1])) ?_
  refine jm (.bool true) ?_
  refine jm (.bool true) ?_
  refine js ?_
  refine js ?_
  refine js ?_
  refine jm (.bool true) ?_
  refine jz fun X1 hX1 => ?_
  have hB0 := hB0.bel hX1
  have hB1 := hB1.bel hX1
  have hB2 := hB2.bel hX1
  have hb := bel_next hb hX1
  clear hX1
  go_upto_region 2 with (fail)
  refine jp ?_
  refine jc (.bool true) (fun X hX hF => sanityC X) ?_
  refine jm (.bool true) ?_
  refine jz fun X2 hX2 => ?_
  have hB0 := hB0.bel hX2
  have hB1 := hB1.bel hX2
  have hB2 := hB2.bel hX2
  have hb := bel_next hb hX2
  clear hX2
  go_wp2
  go_ret
  exact ⟨rfl, hb⟩

theorem spec1 (n : Bool) (p q : List UInt8) (n' : Bool) (p' q' : List UInt8) (m k : Int) (w : World) (t1 : tz p q 30) (t2 : ¬ tz p' q' 30) : Calls Tryz.prog 3 #[.agg #[.bool n, .string ⟨p.toArray⟩, .string ⟨q.toArray⟩], .agg #[.bool n', .string ⟨p'.toArray⟩, .string ⟨q'.toArray⟩], .agg #[.int .i64 m, .int .i64 k]] w fun e w' => e = .returned (.bool true) ∧ Since w w' := by
  go_enter Tryz.func3, Tryz.ntmps3
  go_upto_region 1 with (fail)
  obtain ⟨W0, hW0, hB0, hB1, hB2, hb⟩ := start3 w 23 23 24 [.bool n, .string ⟨p.toArray⟩, .string ⟨q.toArray⟩] [.bool n', .string ⟨p'.toArray⟩, .string ⟨q'.toArray⟩] [.int .i64 m, .int .i64 k]
  rw [← hW0]
  clear hW0
  refine jp ?_
  refine ja hB0 Tryz.underlying23 (by rfl) info_rat ?_
  refine jc (.bool true) (fun X hX hF => mo (fewQ n p q 30 X) (by rw [few_t t1])) ?_
  refine jm (.bool false) ?_
  refine jm (.bool false) ?_
  refine ja hB1 Tryz.underlying23 (by rfl) info_rat ?_
  refine jc (.bool false) (fun X hX hF => mo (fewQ n' p' q' 30 X) (by rw [few_f t2])) ?_
  refine jm (.bool true) ?_
  refine jm (.bool true) ?_
  refine jz fun X1 hX1 => ?_
  have hB0 := hB0.bel hX1
  have hB1 := hB1.bel hX1
  have hB2 := hB2.bel hX1
  have hb := bel_next hb hX1
  clear hX1
  go_upto_region 2 with (fail)
  refine jp ?_
  refine jc (.bool true) (fun X hX hF => sanityC X) ?_
  refine jm (.bool true) ?_
  refine jz fun X2 hX2 => ?_
  have hB0 := hB0.bel hX2
  have hB1 := hB1.bel hX2
  have hB2 := hB2.bel hX2
  have hb := bel_next hb hX2
  clear hX2
  go_wp2
  go_ret
  exact ⟨rfl, hb⟩

theorem info_i2 : (Tryz.prog.info? 24).map (·.size) = some 2 := by kernel_rfl
theorem specM (n : Bool) (p q : List UInt8) (n' : Bool) (p' q' : List UInt8) (m k : Int) (w : World) (t1 : tz p q 30) (t2 : tz p' q' 30) (x y : Rat) (HX : Hid (rq n p q = x)) (HY : Hid (rq n' p' q' = y)) : Calls Tryz.prog 3 #[.agg #[.bool n, .string ⟨p.toArray⟩, .string ⟨q.toArray⟩], .agg #[.bool n', .string ⟨p'.toArray⟩, .string ⟨q'.toArray⟩], .agg #[.int .i64 m, .int .i64 k]] w fun e w' => e = .returned (.bool true) ∧ Since w w' := by
  go_enter Tryz.func3, Tryz.ntmps3
  go_upto_region 1 with (fail)
  obtain ⟨W0, hW0, hB0, hB1, hB2, hb⟩ := start3 w 23 23 24 [.bool n, .string ⟨p.toArray⟩, .string ⟨q.toArray⟩] [.bool n', .string ⟨p'.toArray⟩, .string ⟨q'.toArray⟩] [.int .i64 m, .int .i64 k]
  rw [← hW0]
  clear hW0
  refine jp ?_
  refine ja hB0 Tryz.underlying23 (by rfl) info_rat ?_
  refine jc (.bool true) (fun X hX hF => mo (fewQ n p q 30 X) (by rw [few_t t1])) ?_
  refine jm (.bool false) ?_
  refine jm (.bool false) ?_
  refine ja hB1 Tryz.underlying23 (by rfl) info_rat ?_
  refine jc (.bool true) (fun X hX hF => mo (fewQ n' p' q' 30 X) (by rw [few_t t2])) ?_
  refine jm (.bool false) ?_
  refine jm (.bool false) ?_
  refine jz fun X1 hX1 => ?_
  have hB0 := hB0.bel hX1
  have hB1 := hB1.bel hX1
  have hB2 := hB2.bel hX1
  have hb := bel_next hb hX1
  clear hX1
  go_upto_region 3 with (fail)
  refine jq 8 ?_
  refine jn (.pointer (some ⟨(w.heap.size + 2), 0, none⟩)) ?_
  refine jf (.int .i64 m) hB2 0 load_int ?_
  refine jn (.pointer (some ⟨(w.heap.size + 2), 1, none⟩)) ?_
  refine jf (.int .i64 k) hB2 1 load_int ?_
  refine jc (.tuple #[rt (rN (mkA m k)) (rP (mkA m k)) (rD (mkA m k)), .int .i64 (mkE m k)]) (fun X hX hF => makeU m k X) ?_
  refine jm (.tuple #[rt (rN (mkA m k)) (rP (mkA m k)) (rD (mkA m k)), .int .i64 (mkE m k)]) ?_
  refine jm (rt (rN (mkA m k)) (rP (mkA m k)) (rD (mkA m k))) ?_
  refine jm (.int .i64 (mkE m k)) ?_
  refine jz fun X2 hX2 => ?_
  have hB0 := hB0.bel hX2
  have hB1 := hB1.bel hX2
  have hB2 := hB2.bel hX2
  have hb := bel_next hb hX2
  clear hX2
  go_upto_region 4 with (refine osn 23 7 34 #[.bool (rN (mkA m k)), .string ⟨(rP (mkA m k)).toArray⟩, .string ⟨(rD (mkA m k)).toArray⟩] info_rat ?_)
  obtain ⟨Y2, hY9, hD7, hS9⟩ := start1 X2 23 [.bool (rN (mkA m k)), .string ⟨(rP (mkA m k)).toArray⟩, .string ⟨(rD (mkA m k)).toArray⟩]
  rw [← hY9]
  clear hY9
  have hgs7 := hb.size
  have hlt7x0 := hB0.lt
  have hlt7x1 := hB1.lt
  have hlt7x2 := hB2.lt
  have hB0 := hB0.bel hS9
  have hB1 := hB1.bel hS9
  have hB2 := hB2.bel hS9
  have hb := bel_next hb hS9
  clear hS9
  generalize X2.heap.size = g7 at *
  refine jq 5 ?_
  refine jn (.pointer (some ⟨(w.heap.size + 2), 0, none⟩)) ?_
  refine jf (.int .i64 m) hB2 0 load_int ?_
  refine jn (.pointer (some ⟨(w.heap.size + 2), 1, none⟩)) ?_
  refine jf (.int .i64 k) hB2 1 load_int ?_
  refine jc (.agg #[.bool (rN (mkA m k)), st (rP (mkA m k)), st (rD (mkA m k)), .int .i64 (mkE m k)]) (fun X hX hF => makeUS m k X) ?_
  refine jz fun X3 hX3 => ?_
  have hB0 := hB0.bel hX3
  have hB1 := hB1.bel hX3
  have hB2 := hB2.bel hX3
  have hD7 := hD7.bel hX3
  have hb := bel_next hb hX3
  clear hX3
  go_upto_region 5 with (refine osn 31 9 40 #[.bool (rN (mkA m k)), .string ⟨(rP (mkA m k)).toArray⟩, .string ⟨(rD (mkA m k)).toArray⟩, .int .i64 (mkE m k)] info_made5 ?_)
  obtain ⟨Y3, hY9, hD9, hS9⟩ := start1 X3 31 [.bool (rN (mkA m k)), .string ⟨(rP (mkA m k)).toArray⟩, .string ⟨(rD (mkA m k)).toArray⟩, .int .i64 (mkE m k)]
  rw [← hY9]
  clear hY9
  have hgs9 := hb.size
  have hlt9x0 := hB0.lt
  have hlt9x1 := hB1.lt
  have hlt9x2 := hB2.lt
  have hlt9x3 := hD7.lt
  have hB0 := hB0.bel hS9
  have hB1 := hB1.bel hS9
  have hB2 := hB2.bel hS9
  have hD7 := hD7.bel hS9
  have hb := bel_next hb hS9
  clear hS9
  generalize X3.heap.size = g9 at *
  refine jq 6 ?_
  refine ja hB0 Tryz.underlying23 (by rfl) info_rat ?_
  refine ja hB1 Tryz.underlying23 (by rfl) info_rat ?_
  refine jc (.tuple #[rt (rN (x / y)) (rP (x / y)) (rD (x / y)), .int .i64 (dvE2 y)]) (fun X hX hF => divU n p q n' p' q' HX.out HY.out X (t1.mono (by omega)) (t2.mono (by omega))) ?_
  refine jm (.tuple #[rt (rN (x / y)) (rP (x / y)) (rD (x / y)), .int .i64 (dvE2 y)]) ?_
  refine jm (rt (rN (x / y)) (rP (x / y)) (rD (x / y))) ?_
  refine jm (.int .i64 (dvE2 y)) ?_
  refine jz fun X4 hX4 => ?_
  have hB0 := hB0.bel hX4
  have hB1 := hB1.bel hX4
  have hB2 := hB2.bel hX4
  have hD7 := hD7.bel hX4
  have hD9 := hD9.bel hX4
  have hb := bel_next hb hX4
  clear hX4
  go_upto_region 6 with (refine osn 23 10 45 #[.bool (rN (x / y)), .string ⟨(rP (x / y)).toArray⟩, .string ⟨(rD (x / y)).toArray⟩] info_rat ?_)
  obtain ⟨Y4, hY9, hD10, hS9⟩ := start1 X4 23 [.bool (rN (x / y)), .string ⟨(rP (x / y)).toArray⟩, .string ⟨(rD (x / y)).toArray⟩]
  rw [← hY9]
  clear hY9
  have hgs10 := hb.size
  have hlt10x0 := hB0.lt
  have hlt10x1 := hB1.lt
  have hlt10x2 := hB2.lt
  have hlt10x3 := hD7.lt
  have hlt10x4 := hD9.lt
  have hB0 := hB0.bel hS9
  have hB1 := hB1.bel hS9
  have hB2 := hB2.bel hS9
  have hD7 := hD7.bel hS9
  have hD9 := hD9.bel hS9
  have hb := bel_next hb hS9
  clear hS9
  generalize X4.heap.size = g10 at *
  refine jq 3 ?_
  refine ja hB0 Tryz.underlying23 (by rfl) info_rat ?_
  refine ja hB1 Tryz.underlying23 (by rfl) info_rat ?_
  refine jc (.agg #[.bool (rN (x / y)), st (rP (x / y)), st (rD (x / y)), .int .i64 (dvE2 y)]) (fun X hX hF => divUS n p q n' p' q' HX.out HY.out X (t1.mono (by omega)) (t2.mono (by omega))) ?_
  refine jz fun X5 hX5 => ?_
  have hB0 := hB0.bel hX5
  have hB1 := hB1.bel hX5
  have hB2 := hB2.bel hX5
  have hD7 := hD7.bel hX5
  have hD9 := hD9.bel hX5
  have hD10 := hD10.bel hX5
  have hb := bel_next hb hX5
  clear hX5
  go_upto_region 7 with (refine osn 31 12 49 #[.bool (rN (x / y)), .string ⟨(rP (x / y)).toArray⟩, .string ⟨(rD (x / y)).toArray⟩, .int .i64 (dvE2 y)] info_made5 ?_)
  obtain ⟨Y5, hY9, hD12, hS9⟩ := start1 X5 31 [.bool (rN (x / y)), .string ⟨(rP (x / y)).toArray⟩, .string ⟨(rD (x / y)).toArray⟩, .int .i64 (dvE2 y)]
  rw [← hY9]
  clear hY9
  have hgs12 := hb.size
  have hlt12x0 := hB0.lt
  have hlt12x1 := hB1.lt
  have hlt12x2 := hB2.lt
  have hlt12x3 := hD7.lt
  have hlt12x4 := hD9.lt
  have hlt12x5 := hD10.lt
  have hB0 := hB0.bel hS9
  have hB1 := hB1.bel hS9
  have hB2 := hB2.bel hS9
  have hD7 := hD7.bel hS9
  have hD9 := hD9.bel hS9
  have hD10 := hD10.bel hS9
  have hb := bel_next hb hS9
  clear hS9
  generalize X5.heap.size = g12 at *
  refine jp ?_
  refine ja hB0 Tryz.underlying23 (by rfl) info_rat ?_
  refine jc (.tuple #[.int .i64 (floN x), .int .i64 (floE x)]) (fun X hX hF => floG n p q HX.out X (t1.mono (by omega))) ?_
  refine jm (.tuple #[.int .i64 (floN x), .int .i64 (floE x)]) ?_
  refine jm (.int .i64 (floN x)) ?_
  refine jm (.int .i64 (floE x)) ?_
  refine jm (.int .i64 (floN x)) ?_
  refine jm (.int .i64 (floE x)) ?_
  refine jz fun X6 hX6 => ?_
  have hB0 := hB0.bel hX6
  have hB1 := hB1.bel hX6
  have hB2 := hB2.bel hX6
  have hD7 := hD7.bel hX6
  have hD9 := hD9.bel hX6
  have hD10 := hD10.bel hX6
  have hD12 := hD12.bel hX6
  have hb := bel_next hb hX6
  clear hX6
  go_upto_region 8 with (fail)
  refine jq 2 ?_
  refine ja hB0 Tryz.underlying23 (by rfl) info_rat ?_
  refine jc (.agg #[.int .i64 (floN x), .int .i64 (floE x)]) (fun X hX hF => floS n p q HX.out X (t1.mono (by omega))) ?_
  refine jz fun X7 hX7 => ?_
  have hB0 := hB0.bel hX7
  have hB1 := hB1.bel hX7
  have hB2 := hB2.bel hX7
  have hD7 := hD7.bel hX7
  have hD9 := hD9.bel hX7
  have hD10 := hD10.bel hX7
  have hD12 := hD12.bel hX7
  have hb := bel_next hb hX7
  clear hX7
  go_upto_region 9 with (refine osn 38 15 56 #[.int .i64 (floN x), .int .i64 (floE x)] info_cnt5 ?_)
  obtain ⟨Y7, hY9, hD15, hS9⟩ := start1 X7 38 [.int .i64 (floN x), .int .i64 (floE x)]
  rw [← hY9]
  clear hY9
  have hgs15 := hb.size
  have hlt15x0 := hB0.lt
  have hlt15x1 := hB1.lt
  have hlt15x2 := hB2.lt
  have hlt15x3 := hD7.lt
  have hlt15x4 := hD9.lt
  have hlt15x5 := hD10.lt
  have hlt15x6 := hD12.lt
  have hB0 := hB0.bel hS9
  have hB1 := hB1.bel hS9
  have hB2 := hB2.bel hS9
  have hD7 := hD7.bel hS9
  have hD9 := hD9.bel hS9
  have hD10 := hD10.bel hS9
  have hD12 := hD12.bel hS9
  have hb := bel_next hb hS9
  clear hS9
  generalize X7.heap.size = g15 at *
  refine jp ?_
  refine ja hB0 Tryz.underlying23 (by rfl) info_rat ?_
  refine jc (.tuple #[.int .i64 (-floN (-x)), .int .i64 (floE (-x))]) (fun X hX hF => ceiG n p q HX.out X (t1.mono (by omega))) ?_
  refine jm (.tuple #[.int .i64 (-floN (-x)), .int .i64 (floE (-x))]) ?_
  refine jm (.int .i64 (-floN (-x))) ?_
  refine jm (.int .i64 (floE (-x))) ?_
  refine jm (.int .i64 (-floN (-x))) ?_
  refine jm (.int .i64 (floE (-x))) ?_
  refine jz fun X8 hX8 => ?_
  have hB0 := hB0.bel hX8
  have hB1 := hB1.bel hX8
  have hB2 := hB2.bel hX8
  have hD7 := hD7.bel hX8
  have hD9 := hD9.bel hX8
  have hD10 := hD10.bel hX8
  have hD12 := hD12.bel hX8
  have hD15 := hD15.bel hX8
  have hb := bel_next hb hX8
  clear hX8
  go_upto_region 10 with (fail)
  refine jq 2 ?_
  refine ja hB0 Tryz.underlying23 (by rfl) info_rat ?_
  refine jc (.agg #[.int .i64 (-floN (-x)), .int .i64 (floE (-x))]) (fun X hX hF => ceiS n p q HX.out X (t1.mono (by omega))) ?_
  refine jz fun X9 hX9 => ?_
  have hB0 := hB0.bel hX9
  have hB1 := hB1.bel hX9
  have hB2 := hB2.bel hX9
  have hD7 := hD7.bel hX9
  have hD9 := hD9.bel hX9
  have hD10 := hD10.bel hX9
  have hD12 := hD12.bel hX9
  have hD15 := hD15.bel hX9
  have hb := bel_next hb hX9
  clear hX9
  go_upto_region 11 with (refine osn 38 18 63 #[.int .i64 (-floN (-x)), .int .i64 (floE (-x))] info_cnt5 ?_)
  obtain ⟨Y9, hY9, hD18, hS9⟩ := start1 X9 38 [.int .i64 (-floN (-x)), .int .i64 (floE (-x))]
  rw [← hY9]
  clear hY9
  have hgs18 := hb.size
  have hlt18x0 := hB0.lt
  have hlt18x1 := hB1.lt
  have hlt18x2 := hB2.lt
  have hlt18x3 := hD7.lt
  have hlt18x4 := hD9.lt
  have hlt18x5 := hD10.lt
  have hlt18x6 := hD12.lt
  have hlt18x7 := hD15.lt
  have hB0 := hB0.bel hS9
  have hB1 := hB1.bel hS9
  have hB2 := hB2.bel hS9
  have hD7 := hD7.bel hS9
  have hD9 := hD9.bel hS9
  have hD10 := hD10.bel hS9
  have hD12 := hD12.bel hS9
  have hD15 := hD15.bel hS9
  have hb := bel_next hb hS9
  clear hS9
  generalize X9.heap.size = g18 at *
  refine jp ?_
  refine ja hD7 Tryz.underlying23 (by rfl) info_rat ?_
  refine jn (.pointer (some ⟨g9, 0, none⟩)) ?_
  refine jg (rt (rN (mkA m k)) (rP (mkA m k)) (rD (mkA m k))) (fun X hX hF => exec_inr 23 _ (by rfl) g9 0 [.bool (rN (mkA m k)), .string ⟨(rP (mkA m k)).toArray⟩, .string ⟨(rD (mkA m k)).toArray⟩] (by rfl) Tryz.underlying23 rfl X (hD9.bel hX) (by rfl) info_rat) ?_
  refine jv (.bool false) (exec_ner _ _ (by rfl) (rN (mkA m k)) (rP (mkA m k)) (rD (mkA m k)) (rN (mkA m k)) (rP (mkA m k)) (rD (mkA m k)) (by rfl) (by rfl) false (rb_eqt rfl)) ?_
  refine jm (.bool false) ?_
  refine jm (.int .i64 (mkE m k)) ?_
  refine jn (.pointer (some ⟨g9, 3, none⟩)) ?_
  refine jf (.int .i64 (mkE m k)) hD9 3 load_err ?_
  refine jv (.bool false) (exec_nei _ _ _ _ (by rfl) .i64 (mkE m k) (mkE m k) (by rfl) (by rfl) false (by rw [decide_eq_true (by omega)]; rfl)) ?_
  refine jm (.bool false) ?_
  refine jm (.bool false) ?_
  refine ja hD10 Tryz.underlying23 (by rfl) info_rat ?_
  refine jn (.pointer (some ⟨g12, 0, none⟩)) ?_
  refine jg (rt (rN (x / y)) (rP (x / y)) (rD (x / y))) (fun X hX hF => exec_inr 23 _ (by rfl) g12 0 [.bool (rN (x / y)), .string ⟨(rP (x / y)).toArray⟩, .string ⟨(rD (x / y)).toArray⟩] (by rfl) Tryz.underlying23 rfl X (hD12.bel hX) (by rfl) info_rat) ?_
  refine jv (.bool false) (exec_ner _ _ (by rfl) (rN (x / y)) (rP (x / y)) (rD (x / y)) (rN (x / y)) (rP (x / y)) (rD (x / y)) (by rfl) (by rfl) false (rb_eqt rfl)) ?_
  refine jm (.bool false) ?_
  refine jm (.bool false) ?_
  refine jm (.int .i64 (dvE2 y)) ?_
  refine jn (.pointer (some ⟨g12, 3, none⟩)) ?_
  refine jf (.int .i64 (dvE2 y)) hD12 3 load_err ?_
  refine jv (.bool false) (exec_nei _ _ _ _ (by rfl) .i64 (dvE2 y) (dvE2 y) (by rfl) (by rfl) false (by rw [decide_eq_true (by omega)]; rfl)) ?_
  refine jm (.bool false) ?_
  refine jm (.bool false) ?_
  refine jm (.int .i64 (floN x)) ?_
  refine jn (.pointer (some ⟨g15, 0, none⟩)) ?_
  refine jf (.int .i64 (floN x)) hD15 0 load_int ?_
  refine jv (.bool false) (exec_nei _ _ _ _ (by rfl) .i64 (floN x) (floN x) (by rfl) (by rfl) false (by rw [decide_eq_true (by omega)]; rfl)) ?_
  refine jm (.bool false) ?_
  refine jm (.bool false) ?_
  refine jm (.int .i64 (floE x)) ?_
  refine jn (.pointer (some ⟨g15, 1, none⟩)) ?_
  refine jf (.int .i64 (floE x)) hD15 1 load_err ?_
  refine jv (.bool false) (exec_nei _ _ _ _ (by rfl) .i64 (floE x) (floE x) (by rfl) (by rfl) false (by rw [decide_eq_true (by omega)]; rfl)) ?_
  refine jm (.bool false) ?_
  refine jm (.bool false) ?_
  refine jm (.int .i64 (-floN (-x))) ?_
  refine jn (.pointer (some ⟨g18, 0, none⟩)) ?_
  refine jf (.int .i64 (-floN (-x))) hD18 0 load_int ?_
  refine jv (.bool false) (exec_nei _ _ _ _ (by rfl) .i64 (-floN (-x)) (-floN (-x)) (by rfl) (by rfl) false (by rw [decide_eq_true (by omega)]; rfl)) ?_
  refine jm (.bool false) ?_
  refine jm (.bool false) ?_
  refine jm (.int .i64 (floE (-x))) ?_
  refine jn (.pointer (some ⟨g18, 1, none⟩)) ?_
  refine jf (.int .i64 (floE (-x))) hD18 1 load_err ?_
  refine jv (.bool false) (exec_nei _ _ _ _ (by rfl) .i64 (floE (-x)) (floE (-x)) (by rfl) (by rfl) false (by rw [decide_eq_true (by omega)]; rfl)) ?_
  refine jm (.bool false) ?_
  refine jz fun X10 hX10 => ?_
  have hB0 := hB0.bel hX10
  have hB1 := hB1.bel hX10
  have hB2 := hB2.bel hX10
  have hD7 := hD7.bel hX10
  have hD9 := hD9.bel hX10
  have hD10 := hD10.bel hX10
  have hD12 := hD12.bel hX10
  have hD15 := hD15.bel hX10
  have hD18 := hD18.bel hX10
  have hb := bel_next hb hX10
  clear hX10
  go_upto_region 13 with (fail)
  refine jd ?_
  refine ja hB0 Tryz.underlying23 (by rfl) info_rat ?_
  refine jc (.bool (vd n p q)) (fun X hX hF => rvalidQ n p q X (tz_b t1).1 (tz_b t1).2) ?_
  refine ja hB0 Tryz.underlying23 (by rfl) info_rat ?_
  refine jc (.bool (vd n p q)) (fun X hX hF => rvQ5 n p q X (tz_b t1).1 (tz_b t1).2) ?_
  refine jv (.bool false) (exec_neb _ _ (by rfl) (vd n p q) (by rfl) (by rfl)) ?_
  refine jm (.bool false) ?_
  refine jn (.pointer (some ⟨(w.heap.size + 2), 0, none⟩)) ?_
  refine jf (.int .i64 m) hB2 0 load_int ?_
  refine jc (rt (rN (inA m)) (rP (inA m)) (rD (inA m))) (fun X hX hF => intU m X) ?_
  refine jn (.pointer (some ⟨(w.heap.size + 2), 0, none⟩)) ?_
  refine jf (.int .i64 m) hB2 0 load_int ?_
  refine jc (rt (rN (inA m)) (rP (inA m)) (rD (inA m))) (fun X hX hF => intUS m X) ?_
  refine jv (.bool false) (exec_ner _ _ (by rfl) (rN (inA m)) (rP (inA m)) (rD (inA m)) (rN (inA m)) (rP (inA m)) (rD (inA m)) (by rfl) (by rfl) false (rb_eqt rfl)) ?_
  refine jm (.bool false) ?_
  refine jm (.bool false) ?_
  refine ja hB0 Tryz.underlying23 (by rfl) info_rat ?_
  refine jc (rt (rN (-x)) (rP (-x)) (rD (-x))) (fun X hX hF => negG n p q HX.out X (t1.mono (by omega))) ?_
  refine ja hB0 Tryz.underlying23 (by rfl) info_rat ?_
  refine jc (rt (rN (-x)) (rP (-x)) (rD (-x))) (fun X hX hF => negS n p q HX.out X (t1.mono (by omega))) ?_
  refine jv (.bool false) (exec_ner _ _ (by rfl) (rN (-x)) (rP (-x)) (rD (-x)) (rN (-x)) (rP (-x)) (rD (-x)) (by rfl) (by rfl) false (rb_eqt rfl)) ?_
  refine jm (.bool false) ?_
  refine jm (.bool false) ?_
  refine ja hB0 Tryz.underlying23 (by rfl) info_rat ?_
  refine ja hB1 Tryz.underlying23 (by rfl) info_rat ?_
  refine jc (rt (rN (x + y)) (rP (x + y)) (rD (x + y))) (fun X hX hF => addG n p q n' p' q' HX.out HY.out X (t1.mono (by omega)) (t2.mono (by omega))) ?_
  refine ja hB0 Tryz.underlying23 (by rfl) info_rat ?_
  refine ja hB1 Tryz.underlying23 (by rfl) info_rat ?_
  refine jc (rt (rN (x + y)) (rP (x + y)) (rD (x + y))) (fun X hX hF => addS n p q n' p' q' HX.out HY.out X (t1.mono (by omega)) (t2.mono (by omega))) ?_
  refine jv (.bool false) (exec_ner _ _ (by rfl) (rN (x + y)) (rP (x + y)) (rD (x + y)) (rN (x + y)) (rP (x + y)) (rD (x + y)) (by rfl) (by rfl) false (rb_eqt rfl)) ?_
  refine jm (.bool false) ?_
  refine jm (.bool false) ?_
  refine ja hB0 Tryz.underlying23 (by rfl) info_rat ?_
  refine ja hB1 Tryz.underlying23 (by rfl) info_rat ?_
  refine jc (rt (rN (x - y)) (rP (x - y)) (rD (x - y))) (fun X hX hF => subG n p q n' p' q' HX.out HY.out X (t1.mono (by omega)) (t2.mono (by omega))) ?_
  refine ja hB0 Tryz.underlying23 (by rfl) info_rat ?_
  refine ja hB1 Tryz.underlying23 (by rfl) info_rat ?_
  refine jc (rt (rN (x - y)) (rP (x - y)) (rD (x - y))) (fun X hX hF => subV5 n p q n' p' q' HX.out HY.out X (t1.mono (by omega)) (t2.mono (by omega))) ?_
  refine jv (.bool false) (exec_ner _ _ (by rfl) (rN (x - y)) (rP (x - y)) (rD (x - y)) (rN (x - y)) (rP (x - y)) (rD (x - y)) (by rfl) (by rfl) false (rb_eqt rfl)) ?_
  refine jm (.bool false) ?_
  refine jm (.bool false) ?_
  refine ja hB0 Tryz.underlying23 (by rfl) info_rat ?_
  refine ja hB1 Tryz.underlying23 (by rfl) info_rat ?_
  refine jc (rt (rN (x * y)) (rP (x * y)) (rD (x * y))) (fun X hX hF => mulG n p q n' p' q' HX.out HY.out X (t1.mono (by omega)) (t2.mono (by omega))) ?_
  refine ja hB0 Tryz.underlying23 (by rfl) info_rat ?_
  refine ja hB1 Tryz.underlying23 (by rfl) info_rat ?_
  refine jc (rt (rN (x * y)) (rP (x * y)) (rD (x * y))) (fun X hX hF => mulS n p q n' p' q' HX.out HY.out X (t1.mono (by omega)) (t2.mono (by omega))) ?_
  refine jv (.bool false) (exec_ner _ _ (by rfl) (rN (x * y)) (rP (x * y)) (rD (x * y)) (rN (x * y)) (rP (x * y)) (rD (x * y)) (by rfl) (by rfl) false (rb_eqt rfl)) ?_
  refine jm (.bool false) ?_
  refine jz fun X11 hX11 => ?_
  have hB0 := hB0.bel hX11
  have hB1 := hB1.bel hX11
  have hB2 := hB2.bel hX11
  have hD7 := hD7.bel hX11
  have hD9 := hD9.bel hX11
  have hD10 := hD10.bel hX11
  have hD12 := hD12.bel hX11
  have hD15 := hD15.bel hX11
  have hD18 := hD18.bel hX11
  have hb := bel_next hb hX11
  clear hX11
  go_upto_region 15 with (fail)
  refine jd ?_
  refine jc (.bool true) (fun X hX hF => sanityC X) ?_
  refine jm (.bool true) ?_
  refine ja hB0 Tryz.underlying23 (by rfl) info_rat ?_
  refine ja hB1 Tryz.underlying23 (by rfl) info_rat ?_
  refine jc (.int .i64 (cmpR x y)) (fun X hX hF => rcmpG n p q n' p' q' HX.out HY.out X (t1.mono (by omega)) (t2.mono (by omega))) ?_
  refine ja hB0 Tryz.underlying23 (by rfl) info_rat ?_
  refine ja hB1 Tryz.underlying23 (by rfl) info_rat ?_
  refine jc (.int .i64 (cmpR x y)) (fun X hX hF => cmpS n p q n' p' q' HX.out HY.out X (t1.mono (by omega)) (t2.mono (by omega))) ?_
  refine jv (.bool true) (exec_eqi _ _ _ _ (by rfl) .i64 (cmpR x y) (cmpR x y) (by rfl) (by rfl) true (decide_eq_true (by omega))) ?_
  refine jm (.bool true) ?_
  refine jm (.bool true) ?_
  refine ja hB0 Tryz.underlying23 (by rfl) info_rat ?_
  refine ja hB1 Tryz.underlying23 (by rfl) info_rat ?_
  refine jc (rt (rN (minR x y)) (rP (minR x y)) (rD (minR x y))) (fun X hX hF => minG n p q n' p' q' HX.out HY.out X (t1.mono (by omega)) (t2.mono (by omega))) ?_
  refine ja hB0 Tryz.underlying23 (by rfl) info_rat ?_
  refine ja hB1 Tryz.underlying23 (by rfl) info_rat ?_
  refine jc (rt (rN (minR x y)) (rP (minR x y)) (rD (minR x y))) (fun X hX hF => minS n p q n' p' q' HX.out HY.out X (t1.mono (by omega)) (t2.mono (by omega))) ?_
  refine jv (.bool true) (exec_eqr _ _ (by rfl) (rN (minR x y)) (rP (minR x y)) (rD (minR x y)) (rN (minR x y)) (rP (minR x y)) (rD (minR x y)) (by rfl) (by rfl) true (rb_eqt rfl)) ?_
  refine jm (.bool true) ?_
  refine jm (.bool true) ?_
  refine ja hB0 Tryz.underlying23 (by rfl) info_rat ?_
  refine ja hB1 Tryz.underlying23 (by rfl) info_rat ?_
  refine jc (rt (rN (maxR x y)) (rP (maxR x y)) (rD (maxR x y))) (fun X hX hF => maxG n p q n' p' q' HX.out HY.out X (t1.mono (by omega)) (t2.mono (by omega))) ?_
  refine ja hB0 Tryz.underlying23 (by rfl) info_rat ?_
  refine ja hB1 Tryz.underlying23 (by rfl) info_rat ?_
  refine jc (rt (rN (maxR x y)) (rP (maxR x y)) (rD (maxR x y))) (fun X hX hF => maxS n p q n' p' q' HX.out HY.out X (t1.mono (by omega)) (t2.mono (by omega))) ?_
  refine jv (.bool true) (exec_eqr _ _ (by rfl) (rN (maxR x y)) (rP (maxR x y)) (rD (maxR x y)) (rN (maxR x y)) (rP (maxR x y)) (rD (maxR x y)) (by rfl) (by rfl) true (rb_eqt rfl)) ?_
  refine jm (.bool true) ?_
  refine jm (.bool true) ?_
  refine jz fun X12 hX12 => ?_
  have hB0 := hB0.bel hX12
  have hB1 := hB1.bel hX12
  have hB2 := hB2.bel hX12
  have hD7 := hD7.bel hX12
  have hD9 := hD9.bel hX12
  have hD10 := hD10.bel hX12
  have hD12 := hD12.bel hX12
  have hD15 := hD15.bel hX12
  have hD18 := hD18.bel hX12
  have hb := bel_next hb hX12
  clear hX12
  go_wp2
  go_ret
  exact ⟨rfl, hb⟩

theorem specW (n : Bool) (p q : List UInt8) (n' : Bool) (p' q' : List UInt8) (m k : Int) (w : World) : Calls Tryz.prog 3 #[.agg #[.bool n, .string ⟨p.toArray⟩, .string ⟨q.toArray⟩], .agg #[.bool n', .string ⟨p'.toArray⟩, .string ⟨q'.toArray⟩], .agg #[.int .i64 m, .int .i64 k]] w fun e w' => e = .returned (.bool true) ∧ Since w w' := by
  by_cases t1 : tz p q 30
  · by_cases t2 : tz p' q' 30
    · exact specM n p q n' p' q' m k w t1 t2 _ _ rfl rfl
    · exact spec1 n p q n' p' q' m k w t1 t2
  · exact spec0 n p q n' p' q' m k w t1

end Go.Proofs.YtchhlgcakjjncaaGreatDoor
