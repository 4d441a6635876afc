/-
  law 05: RatsAreAField.
-/
import Derived.Test.YtchhlgcakjjncaaDoorS05
set_option linter.unusedSimpArgs false
set_option linter.unusedVariables false
set_option maxRecDepth 100000
set_option maxHeartbeats 1600000
namespace Go.Proofs.YtchhlgcakjjncaaDoor
open Go.RowKit

theorem few_t {p q : List UInt8} {m : Nat} (h : tz p q m) : few p q m = true := by unfold few; rw [decide_eq_true h.1, decide_eq_true h.2]; rfl
theorem few_f {p q : List UInt8} {m : Nat} (h : ¬ tz p q m) : few p q m = false := by
  unfold few
  by_cases h1 : p.length ≤ m
  · rw [decide_eq_false (fun h2 => h ⟨h1, h2⟩), Bool.and_false]
  · rw [decide_eq_false h1, Bool.false_and]
theorem field0 (n : Bool) (p q : List UInt8) (n' : Bool) (p' q' : List UInt8) (n'' : Bool) (p'' q'' : List UInt8) (w : World) (t1 : ¬ tz p q 25) : Calls Tryd.prog 4 #[.agg #[.bool n, .string ⟨p.toArray⟩, .string ⟨q.toArray⟩], .agg #[.bool n', .string ⟨p'.toArray⟩, .string ⟨q'.toArray⟩], .agg #[.bool n'', .string ⟨p''.toArray⟩, .string ⟨q''.toArray⟩]] w fun e w' => e = .returned (.bool true) ∧ Since w w' := by
  go_enter Tryd.func4, Tryd.ntmps4
  go_upto_region 1 with (fail)
  obtain ⟨W0, hW0, hB0, hB1, hB2, hb⟩ := start3 w 26 26 26 [.bool n, .string ⟨p.toArray⟩, .string ⟨q.toArray⟩] [.bool n', .string ⟨p'.toArray⟩, .string ⟨q'.toArray⟩] [.bool n'', .string ⟨p''.toArray⟩, .string ⟨q''.toArray⟩]
  rw [← hW0]
  clear hW0
  refine lx_plain [] (lasts_nil) ?_
  simp only [iX, Nat.reduceAdd]
  refine ja hB0 Tryd.underlying26 (by rfl) info_rat ?_
  refine jc (.bool false) (fun X hX hF => (fewQ n p q 25 X).mono fun e X' ⟨h1, h2⟩ => ⟨by rw [h1, few_f t1], h2⟩) ?_
  refine jm (.bool true) ?_
  refine jm (.bool true) ?_
  refine js ?_
  refine js ?_
  refine js ?_
  refine jm (.bool true) ?_
  refine jm (.bool true) ?_
  refine js ?_
  refine js ?_
  refine js ?_
  refine jm (.bool true) ?_
  refine lx_nil ?_
  intro X1 hX1 hF
  have hB0 := hB0.bel hX1
  have hB1 := hB1.bel hX1
  have hB2 := hB2.bel hX1
  have hb := bel_next hb hX1
  clear hF hX1
  go_upto_region 2 with (fail)
  refine lx_plain [] (lasts_nil) ?_
  simp only [iX, Nat.reduceAdd]
  refine jc (.bool true) (fun X hX hF => sanityC X) ?_
  refine jm (.bool true) ?_
  refine lx_nil ?_
  intro X2 hX2 hF
  have hB0 := hB0.bel hX2
  have hB1 := hB1.bel hX2
  have hB2 := hB2.bel hX2
  have hb := bel_next hb hX2
  clear hF hX2
  go_wp2
  go_ret
  exact ⟨rfl, hb⟩

theorem field1 (n : Bool) (p q : List UInt8) (n' : Bool) (p' q' : List UInt8) (n'' : Bool) (p'' q'' : List UInt8) (w : World) (t1 : tz p q 25) (t2 : ¬ tz p' q' 25) : Calls Tryd.prog 4 #[.agg #[.bool n, .string ⟨p.toArray⟩, .string ⟨q.toArray⟩], .agg #[.bool n', .string ⟨p'.toArray⟩, .string ⟨q'.toArray⟩], .agg #[.bool n'', .string ⟨p''.toArray⟩, .string ⟨q''.toArray⟩]] w fun e w' => e = .returned (.bool true) ∧ Since w w' := by
  go_enter Tryd.func4, Tryd.ntmps4
  go_upto_region 1 with (fail)
  obtain ⟨W0, hW0, hB0, hB1, hB2, hb⟩ := start3 w 26 26 26 [.bool n, .string ⟨p.toArray⟩, .string ⟨q.toArray⟩] [.bool n', .string ⟨p'.toArray⟩, .string ⟨q'.toArray⟩] [.bool n'', .string ⟨p''.toArray⟩, .string ⟨q''.toArray⟩]
  rw [← hW0]
  clear hW0
  refine lx_plain [] (lasts_nil) ?_
  simp only [iX, Nat.reduceAdd]
  refine ja hB0 Tryd.underlying26 (by rfl) info_rat ?_
  refine jc (.bool true) (fun X hX hF => (fewQ n p q 25 X).mono fun e X' ⟨h1, h2⟩ => ⟨by rw [h1, few_t t1], h2⟩) ?_
  refine jm (.bool false) ?_
  refine jm (.bool false) ?_
  refine ja hB1 Tryd.underlying26 (by rfl) info_rat ?_
  refine jc (.bool false) (fun X hX hF => (fewQ n' p' q' 25 X).mono fun e X' ⟨h1, h2⟩ => ⟨by rw [h1, few_f t2], h2⟩) ?_
  refine jm (.bool true) ?_
  refine jm (.bool true) ?_
  refine jm (.bool true) ?_
  refine js ?_
  refine js ?_
  refine js ?_
  refine jm (.bool true) ?_
  refine lx_nil ?_
  intro X1 hX1 hF
  have hB0 := hB0.bel hX1
  have hB1 := hB1.bel hX1
  have hB2 := hB2.bel hX1
  have hb := bel_next hb hX1
  clear hF hX1
  go_upto_region 2 with (fail)
  refine lx_plain [] (lasts_nil) ?_
  simp only [iX, Nat.reduceAdd]
  refine jc (.bool true) (fun X hX hF => sanityC X) ?_
  refine jm (.bool true) ?_
  refine lx_nil ?_
  intro X2 hX2 hF
  have hB0 := hB0.bel hX2
  have hB1 := hB1.bel hX2
  have hB2 := hB2.bel hX2
  have hb := bel_next hb hX2
  clear hF hX2
  go_wp2
  go_ret
  exact ⟨rfl, hb⟩

theorem field2 (n : Bool) (p q : List UInt8) (n' : Bool) (p' q' : List UInt8) (n'' : Bool) (p'' q'' : List UInt8) (w : World) (t1 : tz p q 25) (t2 : tz p' q' 25) (t3 : ¬ tz p'' q'' 25) : Calls Tryd.prog 4 #[.agg #[.bool n, .string ⟨p.toArray⟩, .string ⟨q.toArray⟩], .agg #[.bool n', .string ⟨p'.toArray⟩, .string ⟨q'.toArray⟩], .agg #[.bool n'', .string ⟨p''.toArray⟩, .string ⟨q''.toArray⟩]] w fun e w' => e = .returned (.bool true) ∧ Since w w' := by
  go_enter Tryd.func4, Tryd.ntmps4
  go_upto_region 1 with (fail)
  obtain ⟨W0, hW0, hB0, hB1, hB2, hb⟩ := start3 w 26 26 26 [.bool n, .string ⟨p.toArray⟩, .string ⟨q.toArray⟩] [.bool n', .string ⟨p'.toArray⟩, .string ⟨q'.toArray⟩] [.bool n'', .string ⟨p''.toArray⟩, .string ⟨q''.toArray⟩]
  rw [← hW0]
  clear hW0
  refine lx_plain [] (lasts_nil) ?_
  simp only [iX, Nat.reduceAdd]
  refine ja hB0 Tryd.underlying26 (by rfl) info_rat ?_
  refine jc (.bool true) (fun X hX hF => (fewQ n p q 25 X).mono fun e X' ⟨h1, h2⟩ => ⟨by rw [h1, few_t t1], h2⟩) ?_
  refine jm (.bool false) ?_
  refine jm (.bool false) ?_
  refine ja hB1 Tryd.underlying26 (by rfl) info_rat ?_
  refine jc (.bool true) (fun X hX hF => (fewQ n' p' q' 25 X).mono fun e X' ⟨h1, h2⟩ => ⟨by rw [h1, few_t t2], h2⟩) ?_
  refine jm (.bool false) ?_
  refine jm (.bool false) ?_
  refine jm (.bool false) ?_
  refine ja hB2 Tryd.underlying26 (by rfl) info_rat ?_
  refine jc (.bool false) (fun X hX hF => (fewQ n'' p'' q'' 25 X).mono fun e X' ⟨h1, h2⟩ => ⟨by rw [h1, few_f t3], h2⟩) ?_
  refine jm (.bool true) ?_
  refine jm (.bool true) ?_
  refine lx_nil ?_
  intro X1 hX1 hF
  have hB0 := hB0.bel hX1
  have hB1 := hB1.bel hX1
  have hB2 := hB2.bel hX1
  have hb := bel_next hb hX1
  clear hF hX1
  go_upto_region 2 with (fail)
  refine lx_plain [] (lasts_nil) ?_
  simp only [iX, Nat.reduceAdd]
  refine jc (.bool true) (fun X hX hF => sanityC X) ?_
  refine jm (.bool true) ?_
  refine lx_nil ?_
  intro X2 hX2 hF
  have hB0 := hB0.bel hX2
  have hB1 := hB1.bel hX2
  have hB2 := hB2.bel hX2
  have hb := bel_next hb hX2
  clear hF hX2
  go_wp2
  go_ret
  exact ⟨rfl, hb⟩

theorem mul_div_self {x y : Rat} (h : y ≠ 0) : ((x * y) / y) = x + 0 := by grind
theorem div_one {y : Rat} (h : y ≠ 0) : y / y = ri 1 := by
  unfold ri
  grind
theorem fieldM1 (n : Bool) (p q : List UInt8) (n' : Bool) (p' q' : List UInt8) (n'' : Bool) (p'' q'' : List UInt8) (w : World) (t1 : tz p q 25) (t2 : tz p' q' 25) (t3 : tz p'' q'' 25) (x y z : Rat) (HX : Hid (rq n p q = x)) (HY : Hid (rq n' p' q' = y)) (HZ : Hid (rq n'' p'' q'' = z)) (HY0 : Hid (y = 0)) : Calls Tryd.prog 4 #[.agg #[.bool n, .string ⟨p.toArray⟩, .string ⟨q.toArray⟩], .agg #[.bool n', .string ⟨p'.toArray⟩, .string ⟨q'.toArray⟩], .agg #[.bool n'', .string ⟨p''.toArray⟩, .string ⟨q''.toArray⟩]] w fun e w' => e = .returned (.bool true) ∧ Since w w' := by
  have LB6 : szR x 25 := szR_tz HX.out t1
  have LB7 : szR y 25 := szR_tz HY.out t2
  have LB0 : szR (x + y) 51 := szR_add LB6 LB7
  have LB1 : szR (x * y) 50 := szR_mul LB6 LB7
  have LB2 : szR (x - y) 51 := szR_sub LB6 LB7
  have LB8 : szR z 25 := szR_tz HZ.out t3
  have LB3 : szR (y + z) 51 := szR_add LB7 LB8
  have LB4 : szR (y * z) 50 := szR_mul LB7 LB8
  have LB5 : szR (x * z) 50 := szR_mul LB6 LB8
  go_enter Tryd.func4, Tryd.ntmps4
  go_upto_region 1 with (fail)
  obtain ⟨W0, hW0, hB0, hB1, hB2, hb⟩ := start3 w 26 26 26 [.bool n, .string ⟨p.toArray⟩, .string ⟨q.toArray⟩] [.bool n', .string ⟨p'.toArray⟩, .string ⟨q'.toArray⟩] [.bool n'', .string ⟨p''.toArray⟩, .string ⟨q''.toArray⟩]
  rw [← hW0]
  clear hW0
  refine lx_plain [] (lasts_nil) ?_
  simp only [iX, Nat.reduceAdd]
  refine ja hB0 Tryd.underlying26 (by rfl) info_rat ?_
  refine jc (.bool true) (fun X hX hF => (fewQ n p q 25 X).mono fun e X' ⟨h1, h2⟩ => ⟨by rw [h1, few_t t1], h2⟩) ?_
  refine jm (.bool false) ?_
  refine jm (.bool false) ?_
  refine ja hB1 Tryd.underlying26 (by rfl) info_rat ?_
  refine jc (.bool true) (fun X hX hF => (fewQ n' p' q' 25 X).mono fun e X' ⟨h1, h2⟩ => ⟨by rw [h1, few_t t2], h2⟩) ?_
  refine jm (.bool false) ?_
  refine jm (.bool false) ?_
  refine jm (.bool false) ?_
  refine ja hB2 Tryd.underlying26 (by rfl) info_rat ?_
  refine jc (.bool true) (fun X hX hF => (fewQ n'' p'' q'' 25 X).mono fun e X' ⟨h1, h2⟩ => ⟨by rw [h1, few_t t3], h2⟩) ?_
  refine jm (.bool false) ?_
  refine jm (.bool false) ?_
  refine lx_nil ?_
  intro X1 hX1 hF
  have hB0 := hB0.bel hX1
  have hB1 := hB1.bel hX1
  have hB2 := hB2.bel hX1
  have hb := bel_next hb hX1
  clear hF hX1
  go_upto_region 3 with (fail)
  refine lh_region (fun i => if i = 6 then ⟨26, [.bool false, .string ⟨#[]⟩, .string ⟨#[]⟩], [.bool (rN (x + y)), .string ⟨(rP (x + y)).toArray⟩, .string ⟨(rD (x + y)).toArray⟩]⟩ else if i = 7 then ⟨26, [.bool false, .string ⟨#[]⟩, .string ⟨#[]⟩], [.bool (rN (x * y)), .string ⟨(rP (x * y)).toArray⟩, .string ⟨(rD (x * y)).toArray⟩]⟩ else ⟨0, [], []⟩) [none, none, none, none, none, none, some (Gat _ _ 6), some (Gat _ _ 7), some (fun u X => Gst _ 6 undef X), some (fun u X => Gst _ 7 undef X)] (by kernel_rfl) (by kernel_rfl) (lh_none (lh_none (lh_none (lh_none (lh_none (lh_none (lh_some (Gat.lasts) (lh_some (Gat.lasts) (lh_some ((fun _ _ _ h hR => Gst.lasts _ _ _ h hR)) (lh_some ((fun _ _ _ h hR => Gst.lasts _ _ _ h hR)) (lh_nil))))))))))) ?_
  simp only [iG, Nat.reduceAdd]
  refine ka hB0 Tryd.underlying26 (by rfl) info_rat ?_
  refine ka hB1 Tryd.underlying26 (by rfl) info_rat ?_
  refine kc (.agg #[.bool (rN (x + y)), .string ⟨(rP (x + y)).toArray⟩, .string ⟨(rD (x + y)).toArray⟩]) (fun X hX hF => addG n p q n' p' q' HX.out HY.out X (t1.mono (by omega)) (t2.mono (by omega))) ?_
  refine ka hB0 Tryd.underlying26 (by rfl) info_rat ?_
  refine ka hB1 Tryd.underlying26 (by rfl) info_rat ?_
  refine kc (.agg #[.bool (rN (x * y)), .string ⟨(rP (x * y)).toArray⟩, .string ⟨(rD (x * y)).toArray⟩]) (fun X hX hF => mulG n p q n' p' q' HX.out HY.out X (t1.mono (by omega)) (t2.mono (by omega))) ?_
  refine kl (fun X => exec_alloc_rat (by rfl) X) ?_
  intro v7
  refine kl (fun X => exec_alloc_rat (by rfl) X) ?_
  intro v8
  refine kt 6 6 v7 (List.mem_cons_of_mem _ List.mem_cons_self) info_rat ?_
  refine kt 7 7 v8 (List.mem_cons_of_mem _ List.mem_cons_self) info_rat ?_
  refine kz ?_
  intro X2 s9 hX2 hF
  obtain ⟨g7, e7, hge7, hD7, tg7⟩ := Gst.at (hF _ _ (List.mem_cons_of_mem _ (List.mem_cons_of_mem _ (List.mem_cons_of_mem _ List.mem_cons_self)))) (hF _ _ (List.mem_cons_of_mem _ List.mem_cons_self))
  subst e7
  obtain ⟨g8, e8, hge8, hD8, tg8⟩ := Gst.at (hF _ _ (List.mem_cons_of_mem _ (List.mem_cons_of_mem _ List.mem_cons_self))) (hF _ _ List.mem_cons_self)
  subst e8
  have hne7_8 := gh_ne tg7 tg8 (by decide)
  have hB0 := hB0.bel hX2
  have hB1 := hB1.bel hX2
  have hB2 := hB2.bel hX2
  have hgs7 := hge7
  have hgs8 := hge8
  have hb := bel_next hb hX2
  clear hF tg7 tg8 s9 hX2
  change Blk X2 g7 26 [.bool (rN (x + y)), .string ⟨(rP (x + y)).toArray⟩, .string ⟨(rD (x + y)).toArray⟩] at hD7
  change Blk X2 g8 26 [.bool (rN (x * y)), .string ⟨(rP (x * y)).toArray⟩, .string ⟨(rD (x * y)).toArray⟩] at hD8
  go_upto_region 4 with (fail)
  refine lx_region [] (by kernel_rfl) (by kernel_rfl) (lasts_nil) ?_
  simp only [iX, Nat.reduceAdd]
  refine ja hD7 Tryd.underlying26 (by rfl) info_rat ?_
  refine jc (.bool true) (fun X hX hF => (validG (rN (x + y)) (rP (x + y)) (rD (x + y)) X (tzR LB0 (by omega))).mono fun e X' ⟨h1, h2⟩ => ⟨by rw [h1, vd_rb (x + y)], h2⟩) ?_
  refine jm (.bool false) ?_
  refine jm (.bool false) ?_
  refine ja hD8 Tryd.underlying26 (by rfl) info_rat ?_
  refine jc (.bool true) (fun X hX hF => (validG (rN (x * y)) (rP (x * y)) (rD (x * y)) X (tzR LB1 (by omega))).mono fun e X' ⟨h1, h2⟩ => ⟨by rw [h1, vd_rb (x * y)], h2⟩) ?_
  refine jm (.bool false) ?_
  refine jm (.bool false) ?_
  refine jm (.bool false) ?_
  refine ja hD7 Tryd.underlying26 (by rfl) info_rat ?_
  refine ja hB1 Tryd.underlying26 (by rfl) info_rat ?_
  refine ja hB0 Tryd.underlying26 (by rfl) info_rat ?_
  refine jc (.agg #[.bool (rN (y + x)), .string ⟨(rP (y + x)).toArray⟩, .string ⟨(rD (y + x)).toArray⟩]) (fun X hX hF => addG n' p' q' n p q HY.out HX.out X (t2.mono (by omega)) (t1.mono (by omega))) ?_
  refine jv (.bool false) (exec_ner _ _ (by rfl) (rN (x + y)) (rP (x + y)) (rD (x + y)) (rN (y + x)) (rP (y + x)) (rD (y + x)) (by rfl) (by rfl) false (rb_eqt (Rat.add_comm x y))) ?_
  refine jm (.bool false) ?_
  refine jm (.bool false) ?_
  refine ja hD8 Tryd.underlying26 (by rfl) info_rat ?_
  refine ja hB1 Tryd.underlying26 (by rfl) info_rat ?_
  refine ja hB0 Tryd.underlying26 (by rfl) info_rat ?_
  refine jc (.agg #[.bool (rN (y * x)), .string ⟨(rP (y * x)).toArray⟩, .string ⟨(rD (y * x)).toArray⟩]) (fun X hX hF => mulG n' p' q' n p q HY.out HX.out X (t2.mono (by omega)) (t1.mono (by omega))) ?_
  refine jv (.bool false) (exec_ner _ _ (by rfl) (rN (x * y)) (rP (x * y)) (rD (x * y)) (rN (y * x)) (rP (y * x)) (rD (y * x)) (by rfl) (by rfl) false (rb_eqt (Rat.mul_comm x y))) ?_
  refine jm (.bool false) ?_
  refine jm (.bool false) ?_
  refine ja hB0 Tryd.underlying26 (by rfl) info_rat ?_
  refine ja hB0 Tryd.underlying26 (by rfl) info_rat ?_
  refine jc (.agg #[.bool (rN (x - x)), .string ⟨(rP (x - x)).toArray⟩, .string ⟨(rD (x - x)).toArray⟩]) (fun X hX hF => subG n p q n p q HX.out HX.out X (t1.mono (by omega)) (t1.mono (by omega))) ?_
  refine jn (.agg #[.bool false, .string ⟨#[]⟩, .string ⟨#[]⟩]) ?_
  refine jv (.bool false) (exec_ner _ _ (by rfl) (rN (x - x)) (rP (x - x)) (rD (x - x)) false [] [] (by rfl) (by rfl) false (rb_zt (show x - x = 0 by grind))) ?_
  refine jm (.bool false) ?_
  refine jm (.bool false) ?_
  refine ja hB0 Tryd.underlying26 (by rfl) info_rat ?_
  refine ja hB1 Tryd.underlying26 (by rfl) info_rat ?_
  refine jc (.agg #[.bool (rN (x - y)), .string ⟨(rP (x - y)).toArray⟩, .string ⟨(rD (x - y)).toArray⟩]) (fun X hX hF => subG n p q n' p' q' HX.out HY.out X (t1.mono (by omega)) (t2.mono (by omega))) ?_
  refine ja hB1 Tryd.underlying26 (by rfl) info_rat ?_
  refine jc (.agg #[.bool (rN ((x - y) + y)), .string ⟨(rP ((x - y) + y)).toArray⟩, .string ⟨(rD ((x - y) + y)).toArray⟩]) (fun X hX hF => addG (rN (x - y)) (rP (x - y)) (rD (x - y)) n' p' q' (rq_rb (x - y)) HY.out X (tzR LB2 (by omega)) (t2.mono (by omega))) ?_
  refine ja hB0 Tryd.underlying26 (by rfl) info_rat ?_
  refine jn (.agg #[.bool false, .string ⟨#[]⟩, .string ⟨#[]⟩]) ?_
  refine jc (.agg #[.bool (rN (x + 0)), .string ⟨(rP (x + 0)).toArray⟩, .string ⟨(rD (x + 0)).toArray⟩]) (fun X hX hF => addG n p q false [] [] HX.out rq_zero X (t1.mono (by omega)) tz_nil) ?_
  refine jv (.bool false) (exec_ner _ _ (by rfl) (rN ((x - y) + y)) (rP ((x - y) + y)) (rD ((x - y) + y)) (rN (x + 0)) (rP (x + 0)) (rD (x + 0)) (by rfl) (by rfl) false (rb_eqt (show (x - y) + y = x + 0 by grind))) ?_
  refine jm (.bool false) ?_
  refine lx_nil ?_
  intro X3 hX3 hF
  have hB0 := hB0.bel hX3
  have hB1 := hB1.bel hX3
  have hB2 := hB2.bel hX3
  have hD7 := hD7.bel hX3
  have hD8 := hD8.bel hX3
  have hb := bel_next hb hX3
  clear hF hX3
  go_upto_region 6 with (fail)
  refine lx_region [] (by kernel_rfl) (by kernel_rfl) (lasts_nil) ?_
  simp only [iX, Nat.reduceAdd]
  refine ja hD7 Tryd.underlying26 (by rfl) info_rat ?_
  refine ja hB2 Tryd.underlying26 (by rfl) info_rat ?_
  refine jc (.agg #[.bool (rN ((x + y) + z)), .string ⟨(rP ((x + y) + z)).toArray⟩, .string ⟨(rD ((x + y) + z)).toArray⟩]) (fun X hX hF => addG (rN (x + y)) (rP (x + y)) (rD (x + y)) n'' p'' q'' (rq_rb (x + y)) HZ.out X (tzR LB0 (by omega)) (t3.mono (by omega))) ?_
  refine ja hB0 Tryd.underlying26 (by rfl) info_rat ?_
  refine ja hB1 Tryd.underlying26 (by rfl) info_rat ?_
  refine ja hB2 Tryd.underlying26 (by rfl) info_rat ?_
  refine jc (.agg #[.bool (rN (y + z)), .string ⟨(rP (y + z)).toArray⟩, .string ⟨(rD (y + z)).toArray⟩]) (fun X hX hF => addG n' p' q' n'' p'' q'' HY.out HZ.out X (t2.mono (by omega)) (t3.mono (by omega))) ?_
  refine jc (.agg #[.bool (rN (x + (y + z))), .string ⟨(rP (x + (y + z))).toArray⟩, .string ⟨(rD (x + (y + z))).toArray⟩]) (fun X hX hF => addG n p q (rN (y + z)) (rP (y + z)) (rD (y + z)) HX.out (rq_rb (y + z)) X (t1.mono (by omega)) (tzR LB3 (by omega))) ?_
  refine jv (.bool false) (exec_ner _ _ (by rfl) (rN ((x + y) + z)) (rP ((x + y) + z)) (rD ((x + y) + z)) (rN (x + (y + z))) (rP (x + (y + z))) (rD (x + (y + z))) (by rfl) (by rfl) false (rb_eqt (Rat.add_assoc x y z))) ?_
  refine jm (.bool false) ?_
  refine ja hD8 Tryd.underlying26 (by rfl) info_rat ?_
  refine ja hB2 Tryd.underlying26 (by rfl) info_rat ?_
  refine jc (.agg #[.bool (rN ((x * y) * z)), .string ⟨(rP ((x * y) * z)).toArray⟩, .string ⟨(rD ((x * y) * z)).toArray⟩]) (fun X hX hF => mulG (rN (x * y)) (rP (x * y)) (rD (x * y)) n'' p'' q'' (rq_rb (x * y)) HZ.out X (tzR LB1 (by omega)) (t3.mono (by omega))) ?_
  refine ja hB0 Tryd.underlying26 (by rfl) info_rat ?_
  refine ja hB1 Tryd.underlying26 (by rfl) info_rat ?_
  refine ja hB2 Tryd.underlying26 (by rfl) info_rat ?_
  refine jc (.agg #[.bool (rN (y * z)), .string ⟨(rP (y * z)).toArray⟩, .string ⟨(rD (y * z)).toArray⟩]) (fun X hX hF => mulG n' p' q' n'' p'' q'' HY.out HZ.out X (t2.mono (by omega)) (t3.mono (by omega))) ?_
  refine jc (.agg #[.bool (rN (x * (y * z))), .string ⟨(rP (x * (y * z))).toArray⟩, .string ⟨(rD (x * (y * z))).toArray⟩]) (fun X hX hF => mulG n p q (rN (y * z)) (rP (y * z)) (rD (y * z)) HX.out (rq_rb (y * z)) X (t1.mono (by omega)) (tzR LB4 (by omega))) ?_
  refine jv (.bool false) (exec_ner _ _ (by rfl) (rN ((x * y) * z)) (rP ((x * y) * z)) (rD ((x * y) * z)) (rN (x * (y * z))) (rP (x * (y * z))) (rD (x * (y * z))) (by rfl) (by rfl) false (rb_eqt (Rat.mul_assoc x y z))) ?_
  refine jm (.bool false) ?_
  refine jm (.bool false) ?_
  refine ja hD7 Tryd.underlying26 (by rfl) info_rat ?_
  refine ja hB2 Tryd.underlying26 (by rfl) info_rat ?_
  refine jc (.agg #[.bool (rN ((x + y) * z)), .string ⟨(rP ((x + y) * z)).toArray⟩, .string ⟨(rD ((x + y) * z)).toArray⟩]) (fun X hX hF => mulG (rN (x + y)) (rP (x + y)) (rD (x + y)) n'' p'' q'' (rq_rb (x + y)) HZ.out X (tzR LB0 (by omega)) (t3.mono (by omega))) ?_
  refine ja hB0 Tryd.underlying26 (by rfl) info_rat ?_
  refine ja hB2 Tryd.underlying26 (by rfl) info_rat ?_
  refine jc (.agg #[.bool (rN (x * z)), .string ⟨(rP (x * z)).toArray⟩, .string ⟨(rD (x * z)).toArray⟩]) (fun X hX hF => mulG n p q n'' p'' q'' HX.out HZ.out X (t1.mono (by omega)) (t3.mono (by omega))) ?_
  refine ja hB1 Tryd.underlying26 (by rfl) info_rat ?_
  refine ja hB2 Tryd.underlying26 (by rfl) info_rat ?_
  refine jc (.agg #[.bool (rN (y * z)), .string ⟨(rP (y * z)).toArray⟩, .string ⟨(rD (y * z)).toArray⟩]) (fun X hX hF => mulG n' p' q' n'' p'' q'' HY.out HZ.out X (t2.mono (by omega)) (t3.mono (by omega))) ?_
  refine jc (.agg #[.bool (rN ((x * z) + (y * z))), .string ⟨(rP ((x * z) + (y * z))).toArray⟩, .string ⟨(rD ((x * z) + (y * z))).toArray⟩]) (fun X hX hF => addG (rN (x * z)) (rP (x * z)) (rD (x * z)) (rN (y * z)) (rP (y * z)) (rD (y * z)) (rq_rb (x * z)) (rq_rb (y * z)) X (tzR LB5 (by omega)) (tzR LB4 (by omega))) ?_
  refine jv (.bool false) (exec_ner _ _ (by rfl) (rN ((x + y) * z)) (rP ((x + y) * z)) (rD ((x + y) * z)) (rN ((x * z) + (y * z))) (rP ((x * z) + (y * z))) (rD ((x * z) + (y * z))) (by rfl) (by rfl) false (rb_eqt (Rat.add_mul x y z))) ?_
  refine jm (.bool false) ?_
  refine lx_nil ?_
  intro X4 hX4 hF
  have hB0 := hB0.bel hX4
  have hB1 := hB1.bel hX4
  have hB2 := hB2.bel hX4
  have hD7 := hD7.bel hX4
  have hD8 := hD8.bel hX4
  have hb := bel_next hb hX4
  clear hF hX4
  go_upto_region 8 with (fail)
  refine lx_plain_to 6 [] (lasts_nil) ?_
  simp only [its, List.take, List.drop, Nat.zero_add, Nat.reduceAdd]
  refine ja hD8 Tryd.underlying26 (by rfl) info_rat ?_
  refine ja hB1 Tryd.underlying26 (by rfl) info_rat ?_
  refine jc (.tuple #[.agg #[.bool false, .string ⟨#[]⟩, .string ⟨#[]⟩], .int .i64 1]) (fun X hX hF => divG0 (rN (x * y)) (rP (x * y)) (rD (x * y)) n' p' q' (rq_rb (x * y)) HY.out X (tzR LB1 (by omega)) (t2.mono (by omega)) HY0.out) ?_
  refine jm (.tuple #[.agg #[.bool false, .string ⟨#[]⟩, .string ⟨#[]⟩], .int .i64 1]) ?_
  refine jm (.agg #[.bool false, .string ⟨#[]⟩, .string ⟨#[]⟩]) ?_
  refine jm (.int .i64 1) ?_
  refine lx_nil ?_
  intro X5 hX5 hF
  have hB0 := hB0.bel hX5
  have hB1 := hB1.bel hX5
  have hB2 := hB2.bel hX5
  have hD7 := hD7.bel hX5
  have hD8 := hD8.bel hX5
  have hb := bel_next hb hX5
  clear hF hX5
  go_upto_region 9 with (refine op_store_new _ _ _ rfl 26 (.tmp 9) (.tmp 111) (by rfl) (by rfl) #[.bool false, .string ⟨#[]⟩, .string ⟨#[]⟩] (by rfl) rfl (by intro u hu; simp only [List.mem_cons, List.not_mem_nil, or_false] at hu; rcases hu with rfl | rfl | rfl <;> rfl) info_rat ?_)
  have hD9 : Blk (X5.alloc (.cells #[.bool false, .string ⟨#[]⟩, .string ⟨#[]⟩] 26)) X5.heap.size 26 [.bool false, .string ⟨#[]⟩, .string ⟨#[]⟩] := Blk.new rfl
  have hgs9 := hb.size
  have hlt9x0 := hB0.lt
  have hlt9x1 := hB1.lt
  have hlt9x2 := hB2.lt
  have hlt9x3 := hD7.lt
  have hlt9x4 := hD8.lt
  have hB0 := hB0.bel (since_alloc X5 (.cells #[.bool false, .string ⟨#[]⟩, .string ⟨#[]⟩] 26))
  have hB1 := hB1.bel (since_alloc X5 (.cells #[.bool false, .string ⟨#[]⟩, .string ⟨#[]⟩] 26))
  have hB2 := hB2.bel (since_alloc X5 (.cells #[.bool false, .string ⟨#[]⟩, .string ⟨#[]⟩] 26))
  have hD7 := hD7.bel (since_alloc X5 (.cells #[.bool false, .string ⟨#[]⟩, .string ⟨#[]⟩] 26))
  have hD8 := hD8.bel (since_alloc X5 (.cells #[.bool false, .string ⟨#[]⟩, .string ⟨#[]⟩] 26))
  have hb := bel_alloc hb (.cells #[.bool false, .string ⟨#[]⟩, .string ⟨#[]⟩] 26)
  generalize X5.alloc (.cells #[.bool false, .string ⟨#[]⟩, .string ⟨#[]⟩] 26) = Y5 at *
  generalize X5.heap.size = g9 at *
  refine lx_plain [] (lasts_nil) ?_
  simp only [iX, Nat.reduceAdd]
  refine ja hB1 Tryd.underlying26 (by rfl) info_rat ?_
  refine jc (.agg #[.bool (rN (-y)), .string ⟨(rP (-y)).toArray⟩, .string ⟨(rD (-y)).toArray⟩]) (fun X hX hF => negG n' p' q' HY.out X (t2.mono (by omega))) ?_
  refine jn (.agg #[.bool false, .string ⟨#[]⟩, .string ⟨#[]⟩]) ?_
  refine jv (.bool true) (exec_eqr _ _ (by rfl) (rN (-y)) (rP (-y)) (rD (-y)) false [] [] (by rfl) (by rfl) true (rb_zt (show -y = 0 by rw [HY0.out]; rfl))) ?_
  refine jm (.bool true) ?_
  refine lx_nil ?_
  intro X6 hX6 hF
  have hB0 := hB0.bel hX6
  have hB1 := hB1.bel hX6
  have hB2 := hB2.bel hX6
  have hD7 := hD7.bel hX6
  have hD8 := hD8.bel hX6
  have hD9 := hD9.bel hX6
  have hb := bel_next hb hX6
  clear hF hX6
  go_upto_region 10 with (fail)
  refine lx_plain [] (lasts_nil) ?_
  simp only [iX, Nat.reduceAdd]
  refine jm (.bool true) ?_
  refine lx_nil ?_
  intro X7 hX7 hF
  have hB0 := hB0.bel hX7
  have hB1 := hB1.bel hX7
  have hB2 := hB2.bel hX7
  have hD7 := hD7.bel hX7
  have hD8 := hD8.bel hX7
  have hD9 := hD9.bel hX7
  have hb := bel_next hb hX7
  clear hF hX7
  go_upto_region 11 with (fail)
  refine lx_plain [] (lasts_nil) ?_
  simp only [iX, Nat.reduceAdd]
  refine jc (.bool true) (fun X hX hF => sanityC X) ?_
  refine jm (.bool true) ?_
  refine jm (.int .i64 1) ?_
  refine jv (.bool true) (exec_eqi _ _ _ _ (by rfl) .i64 1 1 (by rfl) (by rfl) true (decide_eq_true (by omega))) ?_
  refine jm (.bool true) ?_
  refine jm (.bool true) ?_
  refine ja hD9 Tryd.underlying26 (by rfl) info_rat ?_
  refine jn (.agg #[.bool false, .string ⟨#[]⟩, .string ⟨#[]⟩]) ?_
  refine jv (.bool true) (exec_eqr _ _ (by rfl) false [] [] false [] [] (by rfl) (by rfl) true rfl) ?_
  refine jm (.bool true) ?_
  refine jm (.bool true) ?_
  refine ja hD8 Tryd.underlying26 (by rfl) info_rat ?_
  refine jn (.agg #[.bool false, .string ⟨#[]⟩, .string ⟨#[]⟩]) ?_
  refine jv (.bool true) (exec_eqr _ _ (by rfl) (rN (x * y)) (rP (x * y)) (rD (x * y)) false [] [] (by rfl) (by rfl) true (rb_zt (show x * y = 0 by rw [HY0.out]; exact Rat.mul_zero x))) ?_
  refine jm (.bool true) ?_
  refine jm (.bool true) ?_
  refine lx_nil ?_
  intro X8 hX8 hF
  have hB0 := hB0.bel hX8
  have hB1 := hB1.bel hX8
  have hB2 := hB2.bel hX8
  have hD7 := hD7.bel hX8
  have hD8 := hD8.bel hX8
  have hD9 := hD9.bel hX8
  have hb := bel_next hb hX8
  clear hF hX8
  go_wp2
  go_ret
  exact ⟨rfl, hb⟩

theorem fieldM0 (n : Bool) (p q : List UInt8) (n' : Bool) (p' q' : List UInt8) (n'' : Bool) (p'' q'' : List UInt8) (w : World) (t1 : tz p q 25) (t2 : tz p' q' 25) (t3 : tz p'' q'' 25) (x y z : Rat) (HX : Hid (rq n p q = x)) (HY : Hid (rq n' p' q' = y)) (HZ : Hid (rq n'' p'' q'' = z)) (HY0 : Hid (y ≠ 0)) : Calls Tryd.prog 4 #[.agg #[.bool n, .string ⟨p.toArray⟩, .string ⟨q.toArray⟩], .agg #[.bool n', .string ⟨p'.toArray⟩, .string ⟨q'.toArray⟩], .agg #[.bool n'', .string ⟨p''.toArray⟩, .string ⟨q''.toArray⟩]] w fun e w' => e = .returned (.bool true) ∧ Since w w' := by
  have LB8 : szR x 25 := szR_tz HX.out t1
  have LB9 : szR y 25 := szR_tz HY.out t2
  have LB0 : szR (x + y) 51 := szR_add LB8 LB9
  have LB1 : szR (x * y) 50 := szR_mul LB8 LB9
  have LB2 : szR (x - y) 51 := szR_sub LB8 LB9
  have LB10 : szR z 25 := szR_tz HZ.out t3
  have LB3 : szR (y + z) 51 := szR_add LB9 LB10
  have LB4 : szR (y * z) 50 := szR_mul LB9 LB10
  have LB5 : szR (x * z) 50 := szR_mul LB8 LB10
  have LB6 : szR ((x * y) / y) 75 := szR_div LB1 LB9
  have LB7 : szR (ri (-1)) 7 := szR_int (n := -1) (by decide)
  go_enter Tryd.func4, Tryd.ntmps4
  go_upto_region 1 with (fail)
  obtain ⟨W0, hW0, hB0, hB1, hB2, hb⟩ := start3 w 26 26 26 [.bool n, .string ⟨p.toArray⟩, .string ⟨q.toArray⟩] [.bool n', .string ⟨p'.toArray⟩, .string ⟨q'.toArray⟩] [.bool n'', .string ⟨p''.toArray⟩, .string ⟨q''.toArray⟩]
  rw [← hW0]
  clear hW0
  refine lx_plain [] (lasts_nil) ?_
  simp only [iX, Nat.reduceAdd]
  refine ja hB0 Tryd.underlying26 (by rfl) info_rat ?_
  refine jc (.bool true) (fun X hX hF => (fewQ n p q 25 X).mono fun e X' ⟨h1, h2⟩ => ⟨by rw [h1, few_t t1], h2⟩) ?_
  refine jm (.bool false) ?_
  refine jm (.bool false) ?_
  refine ja hB1 Tryd.underlying26 (by rfl) info_rat ?_
  refine jc (.bool true) (fun X hX hF => (fewQ n' p' q' 25 X).mono fun e X' ⟨h1, h2⟩ => ⟨by rw [h1, few_t t2], h2⟩) ?_
  refine jm (.bool false) ?_
  refine jm (.bool false) ?_
  refine jm (.bool false) ?_
  refine ja hB2 Tryd.underlying26 (by rfl) info_rat ?_
  refine jc (.bool true) (fun X hX hF => (fewQ n'' p'' q'' 25 X).mono fun e X' ⟨h1, h2⟩ => ⟨by rw [h1, few_t t3], h2⟩) ?_
  refine jm (.bool false) ?_
  refine jm (.bool false) ?_
  refine lx_nil ?_
  intro X1 hX1 hF
  have hB0 := hB0.bel hX1
  have hB1 := hB1.bel hX1
  have hB2 := hB2.bel hX1
  have hb := bel_next hb hX1
  clear hF hX1
  go_upto_region 3 with (fail)
  refine lh_region (fun i => if i = 6 then ⟨26, [.bool false, .string ⟨#[]⟩, .string ⟨#[]⟩], [.bool (rN (x + y)), .string ⟨(rP (x + y)).toArray⟩, .string ⟨(rD (x + y)).toArray⟩]⟩ else if i = 7 then ⟨26, [.bool false, .string ⟨#[]⟩, .string ⟨#[]⟩], [.bool (rN (x * y)), .string ⟨(rP (x * y)).toArray⟩, .string ⟨(rD (x * y)).toArray⟩]⟩ else ⟨0, [], []⟩) [none, none, none, none, none, none, some (Gat _ _ 6), some (Gat _ _ 7), some (fun u X => Gst _ 6 undef X), some (fun u X => Gst _ 7 undef X)] (by kernel_rfl) (by kernel_rfl) (lh_none (lh_none (lh_none (lh_none (lh_none (lh_none (lh_some (Gat.lasts) (lh_some (Gat.lasts) (lh_some ((fun _ _ _ h hR => Gst.lasts _ _ _ h hR)) (lh_some ((fun _ _ _ h hR => Gst.lasts _ _ _ h hR)) (lh_nil))))))))))) ?_
  simp only [iG, Nat.reduceAdd]
  refine ka hB0 Tryd.underlying26 (by rfl) info_rat ?_
  refine ka hB1 Tryd.underlying26 (by rfl) info_rat ?_
  refine kc (.agg #[.bool (rN (x + y)), .string ⟨(rP (x + y)).toArray⟩, .string ⟨(rD (x + y)).toArray⟩]) (fun X hX hF => addG n p q n' p' q' HX.out HY.out X (t1.mono (by omega)) (t2.mono (by omega))) ?_
  refine ka hB0 Tryd.underlying26 (by rfl) info_rat ?_
  refine ka hB1 Tryd.underlying26 (by rfl) info_rat ?_
  refine kc (.agg #[.bool (rN (x * y)), .string ⟨(rP (x * y)).toArray⟩, .string ⟨(rD (x * y)).toArray⟩]) (fun X hX hF => mulG n p q n' p' q' HX.out HY.out X (t1.mono (by omega)) (t2.mono (by omega))) ?_
  refine kl (fun X => exec_alloc_rat (by rfl) X) ?_
  intro v7
  refine kl (fun X => exec_alloc_rat (by rfl) X) ?_
  intro v8
  refine kt 6 6 v7 (List.mem_cons_of_mem _ List.mem_cons_self) info_rat ?_
  refine kt 7 7 v8 (List.mem_cons_of_mem _ List.mem_cons_self) info_rat ?_
  refine kz ?_
  intro X2 s9 hX2 hF
  obtain ⟨g7, e7, hge7, hD7, tg7⟩ := Gst.at (hF _ _ (List.mem_cons_of_mem _ (List.mem_cons_of_mem _ (List.mem_cons_of_mem _ List.mem_cons_self)))) (hF _ _ (List.mem_cons_of_mem _ List.mem_cons_self))
  subst e7
  obtain ⟨g8, e8, hge8, hD8, tg8⟩ := Gst.at (hF _ _ (List.mem_cons_of_mem _ (List.mem_cons_of_mem _ List.mem_cons_self))) (hF _ _ List.mem_cons_self)
  subst e8
  have hne7_8 := gh_ne tg7 tg8 (by decide)
  have hB0 := hB0.bel hX2
  have hB1 := hB1.bel hX2
  have hB2 := hB2.bel hX2
  have hgs7 := hge7
  have hgs8 := hge8
  have hb := bel_next hb hX2
  clear hF tg7 tg8 s9 hX2
  change Blk X2 g7 26 [.bool (rN (x + y)), .string ⟨(rP (x + y)).toArray⟩, .string ⟨(rD (x + y)).toArray⟩] at hD7
  change Blk X2 g8 26 [.bool (rN (x * y)), .string ⟨(rP (x * y)).toArray⟩, .string ⟨(rD (x * y)).toArray⟩] at hD8
  go_upto_region 4 with (fail)
  refine lx_region [] (by kernel_rfl) (by kernel_rfl) (lasts_nil) ?_
  simp only [iX, Nat.reduceAdd]
  refine ja hD7 Tryd.underlying26 (by rfl) info_rat ?_
  refine jc (.bool true) (fun X hX hF => (validG (rN (x + y)) (rP (x + y)) (rD (x + y)) X (tzR LB0 (by omega))).mono fun e X' ⟨h1, h2⟩ => ⟨by rw [h1, vd_rb (x + y)], h2⟩) ?_
  refine jm (.bool false) ?_
  refine jm (.bool false) ?_
  refine ja hD8 Tryd.underlying26 (by rfl) info_rat ?_
  refine jc (.bool true) (fun X hX hF => (validG (rN (x * y)) (rP (x * y)) (rD (x * y)) X (tzR LB1 (by omega))).mono fun e X' ⟨h1, h2⟩ => ⟨by rw [h1, vd_rb (x * y)], h2⟩) ?_
  refine jm (.bool false) ?_
  refine jm (.bool false) ?_
  refine jm (.bool false) ?_
  refine ja hD7 Tryd.underlying26 (by rfl) info_rat ?_
  refine ja hB1 Tryd.underlying26 (by rfl) info_rat ?_
  refine ja hB0 Tryd.underlying26 (by rfl) info_rat ?_
  refine jc (.agg #[.bool (rN (y + x)), .string ⟨(rP (y + x)).toArray⟩, .string ⟨(rD (y + x)).toArray⟩]) (fun X hX hF => addG n' p' q' n p q HY.out HX.out X (t2.mono (by omega)) (t1.mono (by omega))) ?_
  refine jv (.bool false) (exec_ner _ _ (by rfl) (rN (x + y)) (rP (x + y)) (rD (x + y)) (rN (y + x)) (rP (y + x)) (rD (y + x)) (by rfl) (by rfl) false (rb_eqt (Rat.add_comm x y))) ?_
  refine jm (.bool false) ?_
  refine jm (.bool false) ?_
  refine ja hD8 Tryd.underlying26 (by rfl) info_rat ?_
  refine ja hB1 Tryd.underlying26 (by rfl) info_rat ?_
  refine ja hB0 Tryd.underlying26 (by rfl) info_rat ?_
  refine jc (.agg #[.bool (rN (y * x)), .string ⟨(rP (y * x)).toArray⟩, .string ⟨(rD (y * x)).toArray⟩]) (fun X hX hF => mulG n' p' q' n p q HY.out HX.out X (t2.mono (by omega)) (t1.mono (by omega))) ?_
  refine jv (.bool false) (exec_ner _ _ (by rfl) (rN (x * y)) (rP (x * y)) (rD (x * y)) (rN (y * x)) (rP (y * x)) (rD (y * x)) (by rfl) (by rfl) false (rb_eqt (Rat.mul_comm x y))) ?_
  refine jm (.bool false) ?_
  refine jm (.bool false) ?_
  refine ja hB0 Tryd.underlying26 (by rfl) info_rat ?_
  refine ja hB0 Tryd.underlying26 (by rfl) info_rat ?_
  refine jc (.agg #[.bool (rN (x - x)), .string ⟨(rP (x - x)).toArray⟩, .string ⟨(rD (x - x)).toArray⟩]) (fun X hX hF => subG n p q n p q HX.out HX.out X (t1.mono (by omega)) (t1.mono (by omega))) ?_
  refine jn (.agg #[.bool false, .string ⟨#[]⟩, .string ⟨#[]⟩]) ?_
  refine jv (.bool false) (exec_ner _ _ (by rfl) (rN (x - x)) (rP (x - x)) (rD (x - x)) false [] [] (by rfl) (by rfl) false (rb_zt (show x - x = 0 by grind))) ?_
  refine jm (.bool false) ?_
  refine jm (.bool false) ?_
  refine ja hB0 Tryd.underlying26 (by rfl) info_rat ?_
  refine ja hB1 Tryd.underlying26 (by rfl) info_rat ?_
  refine jc (.agg #[.bool (rN (x - y)), .string ⟨(rP (x - y)).toArray⟩, .string ⟨(rD (x - y)).toArray⟩]) (fun X hX hF => subG n p q n' p' q' HX.out HY.out X (t1.mono (by omega)) (t2.mono (by omega))) ?_
  refine ja hB1 Tryd.underlying26 (by rfl) info_rat ?_
  refine jc (.agg #[.bool (rN ((x - y) + y)), .string ⟨(rP ((x - y) + y)).toArray⟩, .string ⟨(rD ((x - y) + y)).toArray⟩]) (fun X hX hF => addG (rN (x - y)) (rP (x - y)) (rD (x - y)) n' p' q' (rq_rb (x - y)) HY.out X (tzR LB2 (by omega)) (t2.mono (by omega))) ?_
  refine ja hB0 Tryd.underlying26 (by rfl) info_rat ?_
  refine jn (.agg #[.bool false, .string ⟨#[]⟩, .string ⟨#[]⟩]) ?_
  refine jc (.agg #[.bool (rN (x + 0)), .string ⟨(rP (x + 0)).toArray⟩, .string ⟨(rD (x + 0)).toArray⟩]) (fun X hX hF => addG n p q false [] [] HX.out rq_zero X (t1.mono (by omega)) tz_nil) ?_
  refine jv (.bool false) (exec_ner _ _ (by rfl) (rN ((x - y) + y)) (rP ((x - y) + y)) (rD ((x - y) + y)) (rN (x + 0)) (rP (x + 0)) (rD (x + 0)) (by rfl) (by rfl) false (rb_eqt (show (x - y) + y = x + 0 by grind))) ?_
  refine jm (.bool false) ?_
  refine lx_nil ?_
  intro X3 hX3 hF
  have hB0 := hB0.bel hX3
  have hB1 := hB1.bel hX3
  have hB2 := hB2.bel hX3
  have hD7 := hD7.bel hX3
  have hD8 := hD8.bel hX3
  have hb := bel_next hb hX3
  clear hF hX3
  go_upto_region 6 with (fail)
  refine lx_region [] (by kernel_rfl) (by kernel_rfl) (lasts_nil) ?_
  simp only [iX, Nat.reduceAdd]
  refine ja hD7 Tryd.underlying26 (by rfl) info_rat ?_
  refine ja hB2 Tryd.underlying26 (by rfl) info_rat ?_
  refine jc (.agg #[.bool (rN ((x + y) + z)), .string ⟨(rP ((x + y) + z)).toArray⟩, .string ⟨(rD ((x + y) + z)).toArray⟩]) (fun X hX hF => addG (rN (x + y)) (rP (x + y)) (rD (x + y)) n'' p'' q'' (rq_rb (x + y)) HZ.out X (tzR LB0 (by omega)) (t3.mono (by omega))) ?_
  refine ja hB0 Tryd.underlying26 (by rfl) info_rat ?_
  refine ja hB1 Tryd.underlying26 (by rfl) info_rat ?_
  refine ja hB2 Tryd.underlying26 (by rfl) info_rat ?_
  refine jc (.agg #[.bool (rN (y + z)), .string ⟨(rP (y + z)).toArray⟩, .string ⟨(rD (y + z)).toArray⟩]) (fun X hX hF => addG n' p' q' n'' p'' q'' HY.out HZ.out X (t2.mono (by omega)) (t3.mono (by omega))) ?_
  refine jc (.agg #[.bool (rN (x + (y + z))), .string ⟨(rP (x + (y + z))).toArray⟩, .string ⟨(rD (x + (y + z))).toArray⟩]) (fun X hX hF => addG n p q (rN (y + z)) (rP (y + z)) (rD (y + z)) HX.out (rq_rb (y + z)) X (t1.mono (by omega)) (tzR LB3 (by omega))) ?_
  refine jv (.bool false) (exec_ner _ _ (by rfl) (rN ((x + y) + z)) (rP ((x + y) + z)) (rD ((x + y) + z)) (rN (x + (y + z))) (rP (x + (y + z))) (rD (x + (y + z))) (by rfl) (by rfl) false (rb_eqt (Rat.add_assoc x y z))) ?_
  refine jm (.bool false) ?_
  refine ja hD8 Tryd.underlying26 (by rfl) info_rat ?_
  refine ja hB2 Tryd.underlying26 (by rfl) info_rat ?_
  refine jc (.agg #[.bool (rN ((x * y) * z)), .string ⟨(rP ((x * y) * z)).toArray⟩, .string ⟨(rD ((x * y) * z)).toArray⟩]) (fun X hX hF => mulG (rN (x * y)) (rP (x * y)) (rD (x * y)) n'' p'' q'' (rq_rb (x * y)) HZ.out X (tzR LB1 (by omega)) (t3.mono (by omega))) ?_
  refine ja hB0 Tryd.underlying26 (by rfl) info_rat ?_
  refine ja hB1 Tryd.underlying26 (by rfl) info_rat ?_
  refine ja hB2 Tryd.underlying26 (by rfl) info_rat ?_
  refine jc (.agg #[.bool (rN (y * z)), .string ⟨(rP (y * z)).toArray⟩, .string ⟨(rD (y * z)).toArray⟩]) (fun X hX hF => mulG n' p' q' n'' p'' q'' HY.out HZ.out X (t2.mono (by omega)) (t3.mono (by omega))) ?_
  refine jc (.agg #[.bool (rN (x * (y * z))), .string ⟨(rP (x * (y * z))).toArray⟩, .string ⟨(rD (x * (y * z))).toArray⟩]) (fun X hX hF => mulG n p q (rN (y * z)) (rP (y * z)) (rD (y * z)) HX.out (rq_rb (y * z)) X (t1.mono (by omega)) (tzR LB4 (by omega))) ?_
  refine jv (.bool false) (exec_ner _ _ (by rfl) (rN ((x * y) * z)) (rP ((x * y) * z)) (rD ((x * y) * z)) (rN (x * (y * z))) (rP (x * (y * z))) (rD (x * (y * z))) (by rfl) (by rfl) false (rb_eqt (Rat.mul_assoc x y z))) ?_
  refine jm (.bool false) ?_
  refine jm (.bool false) ?_
  refine ja hD7 Tryd.underlying26 (by rfl) info_rat ?_
  refine ja hB2 Tryd.underlying26 (by rfl) info_rat ?_
  refine jc (.agg #[.bool (rN ((x + y) * z)), .string ⟨(rP ((x + y) * z)).toArray⟩, .string ⟨(rD ((x + y) * z)).toArray⟩]) (fun X hX hF => mulG (rN (x + y)) (rP (x + y)) (rD (x + y)) n'' p'' q'' (rq_rb (x + y)) HZ.out X (tzR LB0 (by omega)) (t3.mono (by omega))) ?_
  refine ja hB0 Tryd.underlying26 (by rfl) info_rat ?_
  refine ja hB2 Tryd.underlying26 (by rfl) info_rat ?_
  refine jc (.agg #[.bool (rN (x * z)), .string ⟨(rP (x * z)).toArray⟩, .string ⟨(rD (x * z)).toArray⟩]) (fun X hX hF => mulG n p q n'' p'' q'' HX.out HZ.out X (t1.mono (by omega)) (t3.mono (by omega))) ?_
  refine ja hB1 Tryd.underlying26 (by rfl) info_rat ?_
  refine ja hB2 Tryd.underlying26 (by rfl) info_rat ?_
  refine jc (.agg #[.bool (rN (y * z)), .string ⟨(rP (y * z)).toArray⟩, .string ⟨(rD (y * z)).toArray⟩]) (fun X hX hF => mulG n' p' q' n'' p'' q'' HY.out HZ.out X (t2.mono (by omega)) (t3.mono (by omega))) ?_
  refine jc (.agg #[.bool (rN ((x * z) + (y * z))), .string ⟨(rP ((x * z) + (y * z))).toArray⟩, .string ⟨(rD ((x * z) + (y * z))).toArray⟩]) (fun X hX hF => addG (rN (x * z)) (rP (x * z)) (rD (x * z)) (rN (y * z)) (rP (y * z)) (rD (y * z)) (rq_rb (x * z)) (rq_rb (y * z)) X (tzR LB5 (by omega)) (tzR LB4 (by omega))) ?_
  refine jv (.bool false) (exec_ner _ _ (by rfl) (rN ((x + y) * z)) (rP ((x + y) * z)) (rD ((x + y) * z)) (rN ((x * z) + (y * z))) (rP ((x * z) + (y * z))) (rD ((x * z) + (y * z))) (by rfl) (by rfl) false (rb_eqt (Rat.add_mul x y z))) ?_
  refine jm (.bool false) ?_
  refine lx_nil ?_
  intro X4 hX4 hF
  have hB0 := hB0.bel hX4
  have hB1 := hB1.bel hX4
  have hB2 := hB2.bel hX4
  have hD7 := hD7.bel hX4
  have hD8 := hD8.bel hX4
  have hb := bel_next hb hX4
  clear hF hX4
  go_upto_region 8 with (fail)
  refine lx_plain_to 6 [] (lasts_nil) ?_
  simp only [its, List.take, List.drop, Nat.zero_add, Nat.reduceAdd]
  refine ja hD8 Tryd.underlying26 (by rfl) info_rat ?_
  refine ja hB1 Tryd.underlying26 (by rfl) info_rat ?_
  refine jc (.tuple #[.agg #[.bool (rN ((x * y) / y)), .string ⟨(rP ((x * y) / y)).toArray⟩, .string ⟨(rD ((x * y) / y)).toArray⟩], .int .i64 0]) (fun X hX hF => divG (rN (x * y)) (rP (x * y)) (rD (x * y)) n' p' q' (rq_rb (x * y)) HY.out X (tzR LB1 (by omega)) (t2.mono (by omega)) HY0.out) ?_
  refine jm (.tuple #[.agg #[.bool (rN ((x * y) / y)), .string ⟨(rP ((x * y) / y)).toArray⟩, .string ⟨(rD ((x * y) / y)).toArray⟩], .int .i64 0]) ?_
  refine jm (.agg #[.bool (rN ((x * y) / y)), .string ⟨(rP ((x * y) / y)).toArray⟩, .string ⟨(rD ((x * y) / y)).toArray⟩]) ?_
  refine jm (.int .i64 0) ?_
  refine lx_nil ?_
  intro X5 hX5 hF
  have hB0 := hB0.bel hX5
  have hB1 := hB1.bel hX5
  have hB2 := hB2.bel hX5
  have hD7 := hD7.bel hX5
  have hD8 := hD8.bel hX5
  have hb := bel_next hb hX5
  clear hF hX5
  go_upto_region 9 with (refine op_store_new _ _ _ rfl 26 (.tmp 9) (.tmp 111) (by rfl) (by rfl) #[.bool (rN ((x * y) / y)), .string ⟨(rP ((x * y) / y)).toArray⟩, .string ⟨(rD ((x * y) / y)).toArray⟩] (by rfl) rfl (by intro u hu; simp only [List.mem_cons, List.not_mem_nil, or_false] at hu; rcases hu with rfl | rfl | rfl <;> rfl) info_rat ?_)
  have hD9 : Blk (X5.alloc (.cells #[.bool (rN ((x * y) / y)), .string ⟨(rP ((x * y) / y)).toArray⟩, .string ⟨(rD ((x * y) / y)).toArray⟩] 26)) X5.heap.size 26 [.bool (rN ((x * y) / y)), .string ⟨(rP ((x * y) / y)).toArray⟩, .string ⟨(rD ((x * y) / y)).toArray⟩] := Blk.new rfl
  have hgs9 := hb.size
  have hlt9x0 := hB0.lt
  have hlt9x1 := hB1.lt
  have hlt9x2 := hB2.lt
  have hlt9x3 := hD7.lt
  have hlt9x4 := hD8.lt
  have hB0 := hB0.bel (since_alloc X5 (.cells #[.bool (rN ((x * y) / y)), .string ⟨(rP ((x * y) / y)).toArray⟩, .string ⟨(rD ((x * y) / y)).toArray⟩] 26))
  have hB1 := hB1.bel (since_alloc X5 (.cells #[.bool (rN ((x * y) / y)), .string ⟨(rP ((x * y) / y)).toArray⟩, .string ⟨(rD ((x * y) / y)).toArray⟩] 26))
  have hB2 := hB2.bel (since_alloc X5 (.cells #[.bool (rN ((x * y) / y)), .string ⟨(rP ((x * y) / y)).toArray⟩, .string ⟨(rD ((x * y) / y)).toArray⟩] 26))
  have hD7 := hD7.bel (since_alloc X5 (.cells #[.bool (rN ((x * y) / y)), .string ⟨(rP ((x * y) / y)).toArray⟩, .string ⟨(rD ((x * y) / y)).toArray⟩] 26))
  have hD8 := hD8.bel (since_alloc X5 (.cells #[.bool (rN ((x * y) / y)), .string ⟨(rP ((x * y) / y)).toArray⟩, .string ⟨(rD ((x * y) / y)).toArray⟩] 26))
  have hb := bel_alloc hb (.cells #[.bool (rN ((x * y) / y)), .string ⟨(rP ((x * y) / y)).toArray⟩, .string ⟨(rD ((x * y) / y)).toArray⟩] 26)
  generalize X5.alloc (.cells #[.bool (rN ((x * y) / y)), .string ⟨(rP ((x * y) / y)).toArray⟩, .string ⟨(rD ((x * y) / y)).toArray⟩] 26) = Y5 at *
  generalize X5.heap.size = g9 at *
  refine lx_plain [] (lasts_nil) ?_
  simp only [iX, Nat.reduceAdd]
  refine ja hB1 Tryd.underlying26 (by rfl) info_rat ?_
  refine jc (.agg #[.bool (rN (-y)), .string ⟨(rP (-y)).toArray⟩, .string ⟨(rD (-y)).toArray⟩]) (fun X hX hF => negG n' p' q' HY.out X (t2.mono (by omega))) ?_
  refine jn (.agg #[.bool false, .string ⟨#[]⟩, .string ⟨#[]⟩]) ?_
  refine jv (.bool false) (exec_eqr _ _ (by rfl) (rN (-y)) (rP (-y)) (rD (-y)) false [] [] (by rfl) (by rfl) false (rb_zf (show -y ≠ 0 from fun h9 => HY0.out (by grind)))) ?_
  refine jm (.bool false) ?_
  refine lx_nil ?_
  intro X6 hX6 hF
  have hB0 := hB0.bel hX6
  have hB1 := hB1.bel hX6
  have hB2 := hB2.bel hX6
  have hD7 := hD7.bel hX6
  have hD8 := hD8.bel hX6
  have hD9 := hD9.bel hX6
  have hb := bel_next hb hX6
  clear hF hX6
  go_upto_region 10 with (fail)
  refine lx_plain [] (lasts_nil) ?_
  simp only [iX, Nat.reduceAdd]
  refine jm (.bool false) ?_
  refine lx_nil ?_
  intro X7 hX7 hF
  have hB0 := hB0.bel hX7
  have hB1 := hB1.bel hX7
  have hB2 := hB2.bel hX7
  have hD7 := hD7.bel hX7
  have hD8 := hD8.bel hX7
  have hD9 := hD9.bel hX7
  have hb := bel_next hb hX7
  clear hF hX7
  go_upto_region 12 with (fail)
  refine lx_plain_to 6 [] (lasts_nil) ?_
  simp only [its, List.take, List.drop, Nat.zero_add, Nat.reduceAdd]
  refine ja hB1 Tryd.underlying26 (by rfl) info_rat ?_
  refine ja hB1 Tryd.underlying26 (by rfl) info_rat ?_
  refine jc (.tuple #[.agg #[.bool (rN (y / y)), .string ⟨(rP (y / y)).toArray⟩, .string ⟨(rD (y / y)).toArray⟩], .int .i64 0]) (fun X hX hF => divG n' p' q' n' p' q' HY.out HY.out X (t2.mono (by omega)) (t2.mono (by omega)) HY0.out) ?_
  refine jm (.tuple #[.agg #[.bool (rN (y / y)), .string ⟨(rP (y / y)).toArray⟩, .string ⟨(rD (y / y)).toArray⟩], .int .i64 0]) ?_
  refine jm (.agg #[.bool (rN (y / y)), .string ⟨(rP (y / y)).toArray⟩, .string ⟨(rD (y / y)).toArray⟩]) ?_
  refine jm (.int .i64 0) ?_
  refine lx_nil ?_
  intro X8 hX8 hF
  have hB0 := hB0.bel hX8
  have hB1 := hB1.bel hX8
  have hB2 := hB2.bel hX8
  have hD7 := hD7.bel hX8
  have hD8 := hD8.bel hX8
  have hD9 := hD9.bel hX8
  have hb := bel_next hb hX8
  clear hF hX8
  go_upto_region 13 with (refine op_store_new _ _ _ rfl 26 (.tmp 12) (.tmp 137) (by rfl) (by rfl) #[.bool (rN (y / y)), .string ⟨(rP (y / y)).toArray⟩, .string ⟨(rD (y / y)).toArray⟩] (by rfl) rfl (by intro u hu; simp only [List.mem_cons, List.not_mem_nil, or_false] at hu; rcases hu with rfl | rfl | rfl <;> rfl) info_rat ?_)
  have hD12 : Blk (X8.alloc (.cells #[.bool (rN (y / y)), .string ⟨(rP (y / y)).toArray⟩, .string ⟨(rD (y / y)).toArray⟩] 26)) X8.heap.size 26 [.bool (rN (y / y)), .string ⟨(rP (y / y)).toArray⟩, .string ⟨(rD (y / y)).toArray⟩] := Blk.new rfl
  have hgs12 := hb.size
  have hlt12x0 := hB0.lt
  have hlt12x1 := hB1.lt
  have hlt12x2 := hB2.lt
  have hlt12x3 := hD7.lt
  have hlt12x4 := hD8.lt
  have hlt12x5 := hD9.lt
  have hB0 := hB0.bel (since_alloc X8 (.cells #[.bool (rN (y / y)), .string ⟨(rP (y / y)).toArray⟩, .string ⟨(rD (y / y)).toArray⟩] 26))
  have hB1 := hB1.bel (since_alloc X8 (.cells #[.bool (rN (y / y)), .string ⟨(rP (y / y)).toArray⟩, .string ⟨(rD (y / y)).toArray⟩] 26))
  have hB2 := hB2.bel (since_alloc X8 (.cells #[.bool (rN (y / y)), .string ⟨(rP (y / y)).toArray⟩, .string ⟨(rD (y / y)).toArray⟩] 26))
  have hD7 := hD7.bel (since_alloc X8 (.cells #[.bool (rN (y / y)), .string ⟨(rP (y / y)).toArray⟩, .string ⟨(rD (y / y)).toArray⟩] 26))
  have hD8 := hD8.bel (since_alloc X8 (.cells #[.bool (rN (y / y)), .string ⟨(rP (y / y)).toArray⟩, .string ⟨(rD (y / y)).toArray⟩] 26))
  have hD9 := hD9.bel (since_alloc X8 (.cells #[.bool (rN (y / y)), .string ⟨(rP (y / y)).toArray⟩, .string ⟨(rD (y / y)).toArray⟩] 26))
  have hb := bel_alloc hb (.cells #[.bool (rN (y / y)), .string ⟨(rP (y / y)).toArray⟩, .string ⟨(rD (y / y)).toArray⟩] 26)
  generalize X8.alloc (.cells #[.bool (rN (y / y)), .string ⟨(rP (y / y)).toArray⟩, .string ⟨(rD (y / y)).toArray⟩] 26) = Y8 at *
  generalize X8.heap.size = g12 at *
  refine lx_region [] (by kernel_rfl) (by kernel_rfl) (lasts_nil) ?_
  simp only [iX, Nat.reduceAdd]
  refine jc (.bool true) (fun X hX hF => sanityC X) ?_
  refine jm (.bool true) ?_
  refine jm (.int .i64 0) ?_
  refine jv (.bool true) (exec_eqi _ _ _ _ (by rfl) .i64 0 0 (by rfl) (by rfl) true (decide_eq_true (by omega))) ?_
  refine jm (.bool true) ?_
  refine jm (.bool true) ?_
  refine jm (.int .i64 0) ?_
  refine jv (.bool true) (exec_eqi _ _ _ _ (by rfl) .i64 0 0 (by rfl) (by rfl) true (decide_eq_true (by omega))) ?_
  refine jm (.bool true) ?_
  refine jm (.bool true) ?_
  refine ja hD9 Tryd.underlying26 (by rfl) info_rat ?_
  refine ja hB0 Tryd.underlying26 (by rfl) info_rat ?_
  refine jn (.agg #[.bool false, .string ⟨#[]⟩, .string ⟨#[]⟩]) ?_
  refine jc (.agg #[.bool (rN (x + 0)), .string ⟨(rP (x + 0)).toArray⟩, .string ⟨(rD (x + 0)).toArray⟩]) (fun X hX hF => addG n p q false [] [] HX.out rq_zero X (t1.mono (by omega)) tz_nil) ?_
  refine jv (.bool true) (exec_eqr _ _ (by rfl) (rN ((x * y) / y)) (rP ((x * y) / y)) (rD ((x * y) / y)) (rN (x + 0)) (rP (x + 0)) (rD (x + 0)) (by rfl) (by rfl) true (rb_eqt (show ((x * y) / y) = x + 0 from mul_div_self HY0.out))) ?_
  refine jm (.bool true) ?_
  refine jm (.bool true) ?_
  refine ja hD12 Tryd.underlying26 (by rfl) info_rat ?_
  refine jc (.agg #[.bool (rN (ri 1)), .string ⟨(rP (ri 1)).toArray⟩, .string ⟨(rD (ri 1)).toArray⟩]) (fun X hX hF => rintQ (1) X (by decide)) ?_
  refine jv (.bool true) (exec_eqr _ _ (by rfl) (rN (y / y)) (rP (y / y)) (rD (y / y)) (rN (ri 1)) (rP (ri 1)) (rD (ri 1)) (by rfl) (by rfl) true (rb_eqt (show y / y = ri 1 from div_one HY0.out))) ?_
  refine jm (.bool true) ?_
  refine jm (.bool true) ?_
  refine ja hD9 Tryd.underlying26 (by rfl) info_rat ?_
  refine jc (.bool true) (fun X hX hF => (validG (rN ((x * y) / y)) (rP ((x * y) / y)) (rD ((x * y) / y)) X (tzR LB6 (by omega))).mono fun e X' ⟨h1, h2⟩ => ⟨by rw [h1, vd_rb ((x * y) / y)], h2⟩) ?_
  refine jm (.bool true) ?_
  refine jm (.bool true) ?_
  refine ja hB0 Tryd.underlying26 (by rfl) info_rat ?_
  refine jc (.agg #[.bool (rN (ri (-1))), .string ⟨(rP (ri (-1))).toArray⟩, .string ⟨(rD (ri (-1))).toArray⟩]) (fun X hX hF => rintQ (-1) X (by decide)) ?_
  refine jc (.agg #[.bool (rN (x * (ri (-1)))), .string ⟨(rP (x * (ri (-1)))).toArray⟩, .string ⟨(rD (x * (ri (-1)))).toArray⟩]) (fun X hX hF => mulG n p q (rN (ri (-1))) (rP (ri (-1))) (rD (ri (-1))) HX.out (rq_rb (ri (-1))) X (t1.mono (by omega)) (tzR LB7 (by omega))) ?_
  refine ja hB0 Tryd.underlying26 (by rfl) info_rat ?_
  refine jc (.agg #[.bool (rN (-x)), .string ⟨(rP (-x)).toArray⟩, .string ⟨(rD (-x)).toArray⟩]) (fun X hX hF => negG n p q HX.out X (t1.mono (by omega))) ?_
  refine jv (.bool true) (exec_eqr _ _ (by rfl) (rN (x * (ri (-1)))) (rP (x * (ri (-1)))) (rD (x * (ri (-1)))) (rN (-x)) (rP (-x)) (rD (-x)) (by rfl) (by rfl) true (rb_eqt (show x * ri (-1) = -x by unfold ri; grind))) ?_
  refine jm (.bool true) ?_
  refine jm (.bool true) ?_
  refine lx_nil ?_
  intro X9 hX9 hF
  have hB0 := hB0.bel hX9
  have hB1 := hB1.bel hX9
  have hB2 := hB2.bel hX9
  have hD7 := hD7.bel hX9
  have hD8 := hD8.bel hX9
  have hD9 := hD9.bel hX9
  have hD12 := hD12.bel hX9
  have hb := bel_next hb hX9
  clear hF hX9
  go_wp2
  go_ret
  exact ⟨rfl, hb⟩

theorem fieldW (n : Bool) (p q : List UInt8) (n' : Bool) (p' q' : List UInt8) (n'' : Bool) (p'' q'' : List UInt8) (w : World) : Calls Tryd.prog 4 #[.agg #[.bool n, .string ⟨p.toArray⟩, .string ⟨q.toArray⟩], .agg #[.bool n', .string ⟨p'.toArray⟩, .string ⟨q'.toArray⟩], .agg #[.bool n'', .string ⟨p''.toArray⟩, .string ⟨q''.toArray⟩]] w fun e w' => e = .returned (.bool true) ∧ Since w w' := by
  by_cases h1 : tz p q 25
  · by_cases h2 : tz p' q' 25
    · by_cases h3 : tz p'' q'' 25
      · by_cases h : rq n' p' q' = 0
        · exact fieldM1 n p q n' p' q' n'' p'' q'' w h1 h2 h3 _ _ _ rfl rfl rfl h
        · exact fieldM0 n p q n' p' q' n'' p'' q'' w h1 h2 h3 _ _ _ rfl rfl rfl h
      · exact field2 n p q n' p' q' n'' p'' q'' w h1 h2 h3
    · exact field1 n p q n' p' q' n'' p'' q'' w h1 h2
  · exact field0 n p q n' p' q' n'' p'' q'' w h1

end Go.Proofs.YtchhlgcakjjncaaDoor
