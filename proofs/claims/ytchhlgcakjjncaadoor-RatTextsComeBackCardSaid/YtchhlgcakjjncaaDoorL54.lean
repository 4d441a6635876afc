/-
  law 05: RatsAreOrdered.
-/
import Derived.Test.YtchhlgcakjjncaaDoorL53
set_option linter.unusedSimpArgs false
set_option linter.unusedVariables false
set_option maxRecDepth 100000
set_option maxHeartbeats 1600000
namespace Go.Proofs.YtchhlgcakjjncaaDoor
open Go.RowKit

theorem tz_big {p q : List UInt8} {m : Nat} (h : tz p q m) (hm : m ≤ 4194300 := by omega) : p.length ≤ 4194300 ∧ q.length ≤ 4194300 := ⟨Nat.le_trans h.1 hm, Nat.le_trans h.2 hm⟩
theorem order0 (n : Bool) (p q : List UInt8) (n' : Bool) (p' q' : List UInt8) (n'' : Bool) (p'' q'' : List UInt8) (w : World) (t1 : ¬ tz p q 25) : Calls Tryd.prog 5 #[.agg #[.bool n, .string ⟨p.toArray⟩, .string ⟨q.toArray⟩], .agg #[.bool n', .string ⟨p'.toArray⟩, .string ⟨q'.toArray⟩], .agg #[.bool n'', .string ⟨p''.toArray⟩, .string ⟨q''.toArray⟩]] w fun e w' => e = .returned (.bool true) ∧ Since w w' := by
  go_enter Tryd.func5, Tryd.ntmps5
  go_upto_region 1 with (fail)
  obtain ⟨W0, hW0, hB0, hB1, hB2, hb⟩ := start3 w 26 26 26 [.bool n, .string ⟨p.toArray⟩, .string ⟨q.toArray⟩] [.bool n', .string ⟨p'.toArray⟩, .string ⟨q'.toArray⟩] [.bool n'', .string ⟨p''.toArray⟩, .string ⟨q''.toArray⟩]
  rw [← hW0]
  clear hW0
  refine lx_plain [] (lasts_nil) ?_
  simp only [iX, Nat.reduceAdd]
  refine ja hB0 Tryd.underlying26 (by rfl) info_rat ?_
  refine jc (.bool false) (fun X hX hF => (fewQ n p q 25 X).mono fun e X' ⟨h1, h2⟩ => ⟨by rw [h1, few_f t1], h2⟩) ?_
  refine jm (.bool true) ?_
  refine jm (.bool true) ?_
  refine js ?_
  refine js ?_
  refine js ?_
  refine jm (.bool true) ?_
  refine jm (.bool true) ?_
  refine js ?_
  refine js ?_
  refine js ?_
  refine jm (.bool true) ?_
  refine jm (.bool true) ?_
  refine js ?_
  refine js ?_
  refine js ?_
  refine jm (.bool true) ?_
  refine jm (.bool true) ?_
  refine js ?_
  refine js ?_
  refine js ?_
  refine jm (.bool true) ?_
  refine jm (.bool true) ?_
  refine js ?_
  refine js ?_
  refine js ?_
  refine jm (.bool true) ?_
  refine lx_nil ?_
  intro X1 hX1 hF
  have hB0 := hB0.bel hX1
  have hB1 := hB1.bel hX1
  have hB2 := hB2.bel hX1
  have hb := bel_next hb hX1
  clear hF hX1
  go_upto_region 2 with (fail)
  refine lx_plain [] (lasts_nil) ?_
  simp only [iX, Nat.reduceAdd]
  refine jc (.bool true) (fun X hX hF => sanityC X) ?_
  refine jm (.bool true) ?_
  refine lx_nil ?_
  intro X2 hX2 hF
  have hB0 := hB0.bel hX2
  have hB1 := hB1.bel hX2
  have hB2 := hB2.bel hX2
  have hb := bel_next hb hX2
  clear hF hX2
  go_wp2
  go_ret
  exact ⟨rfl, hb⟩

theorem order1 (n : Bool) (p q : List UInt8) (n' : Bool) (p' q' : List UInt8) (n'' : Bool) (p'' q'' : List UInt8) (w : World) (t1 : tz p q 25) (t2 : ¬ tz p' q' 25) : Calls Tryd.prog 5 #[.agg #[.bool n, .string ⟨p.toArray⟩, .string ⟨q.toArray⟩], .agg #[.bool n', .string ⟨p'.toArray⟩, .string ⟨q'.toArray⟩], .agg #[.bool n'', .string ⟨p''.toArray⟩, .string ⟨q''.toArray⟩]] w fun e w' => e = .returned (.bool true) ∧ Since w w' := by
  go_enter Tryd.func5, Tryd.ntmps5
  go_upto_region 1 with (fail)
  obtain ⟨W0, hW0, hB0, hB1, hB2, hb⟩ := start3 w 26 26 26 [.bool n, .string ⟨p.toArray⟩, .string ⟨q.toArray⟩] [.bool n', .string ⟨p'.toArray⟩, .string ⟨q'.toArray⟩] [.bool n'', .string ⟨p''.toArray⟩, .string ⟨q''.toArray⟩]
  rw [← hW0]
  clear hW0
  refine lx_plain [] (lasts_nil) ?_
  simp only [iX, Nat.reduceAdd]
  refine ja hB0 Tryd.underlying26 (by rfl) info_rat ?_
  refine jc (.bool true) (fun X hX hF => (fewQ n p q 25 X).mono fun e X' ⟨h1, h2⟩ => ⟨by rw [h1, few_t t1], h2⟩) ?_
  refine jm (.bool false) ?_
  refine jm (.bool false) ?_
  refine ja hB1 Tryd.underlying26 (by rfl) info_rat ?_
  refine jc (.bool false) (fun X hX hF => (fewQ n' p' q' 25 X).mono fun e X' ⟨h1, h2⟩ => ⟨by rw [h1, few_f t2], h2⟩) ?_
  refine jm (.bool true) ?_
  refine jm (.bool true) ?_
  refine jm (.bool true) ?_
  refine js ?_
  refine js ?_
  refine js ?_
  refine jm (.bool true) ?_
  refine jm (.bool true) ?_
  refine js ?_
  refine js ?_
  refine js ?_
  refine jm (.bool true) ?_
  refine jm (.bool true) ?_
  refine js ?_
  refine js ?_
  refine js ?_
  refine jm (.bool true) ?_
  refine jm (.bool true) ?_
  refine js ?_
  refine js ?_
  refine js ?_
  refine jm (.bool true) ?_
  refine lx_nil ?_
  intro X1 hX1 hF
  have hB0 := hB0.bel hX1
  have hB1 := hB1.bel hX1
  have hB2 := hB2.bel hX1
  have hb := bel_next hb hX1
  clear hF hX1
  go_upto_region 2 with (fail)
  refine lx_plain [] (lasts_nil) ?_
  simp only [iX, Nat.reduceAdd]
  refine jc (.bool true) (fun X hX hF => sanityC X) ?_
  refine jm (.bool true) ?_
  refine lx_nil ?_
  intro X2 hX2 hF
  have hB0 := hB0.bel hX2
  have hB1 := hB1.bel hX2
  have hB2 := hB2.bel hX2
  have hb := bel_next hb hX2
  clear hF hX2
  go_wp2
  go_ret
  exact ⟨rfl, hb⟩

theorem order2 (n : Bool) (p q : List UInt8) (n' : Bool) (p' q' : List UInt8) (n'' : Bool) (p'' q'' : List UInt8) (w : World) (t1 : tz p q 25) (t2 : tz p' q' 25) (t3 : ¬ tz p'' q'' 25) : Calls Tryd.prog 5 #[.agg #[.bool n, .string ⟨p.toArray⟩, .string ⟨q.toArray⟩], .agg #[.bool n', .string ⟨p'.toArray⟩, .string ⟨q'.toArray⟩], .agg #[.bool n'', .string ⟨p''.toArray⟩, .string ⟨q''.toArray⟩]] w fun e w' => e = .returned (.bool true) ∧ Since w w' := by
  go_enter Tryd.func5, Tryd.ntmps5
  go_upto_region 1 with (fail)
  obtain ⟨W0, hW0, hB0, hB1, hB2, hb⟩ := start3 w 26 26 26 [.bool n, .string ⟨p.toArray⟩, .string ⟨q.toArray⟩] [.bool n', .string ⟨p'.toArray⟩, .string ⟨q'.toArray⟩] [.bool n'', .string ⟨p''.toArray⟩, .string ⟨q''.toArray⟩]
  rw [← hW0]
  clear hW0
  refine lx_plain [] (lasts_nil) ?_
  simp only [iX, Nat.reduceAdd]
  refine ja hB0 Tryd.underlying26 (by rfl) info_rat ?_
  refine jc (.bool true) (fun X hX hF => (fewQ n p q 25 X).mono fun e X' ⟨h1, h2⟩ => ⟨by rw [h1, few_t t1], h2⟩) ?_
  refine jm (.bool false) ?_
  refine jm (.bool false) ?_
  refine ja hB1 Tryd.underlying26 (by rfl) info_rat ?_
  refine jc (.bool true) (fun X hX hF => (fewQ n' p' q' 25 X).mono fun e X' ⟨h1, h2⟩ => ⟨by rw [h1, few_t t2], h2⟩) ?_
  refine jm (.bool false) ?_
  refine jm (.bool false) ?_
  refine jm (.bool false) ?_
  refine ja hB2 Tryd.underlying26 (by rfl) info_rat ?_
  refine jc (.bool false) (fun X hX hF => (fewQ n'' p'' q'' 25 X).mono fun e X' ⟨h1, h2⟩ => ⟨by rw [h1, few_f t3], h2⟩) ?_
  refine jm (.bool true) ?_
  refine jm (.bool true) ?_
  refine jm (.bool true) ?_
  refine js ?_
  refine js ?_
  refine js ?_
  refine jm (.bool true) ?_
  refine jm (.bool true) ?_
  refine js ?_
  refine js ?_
  refine js ?_
  refine jm (.bool true) ?_
  refine jm (.bool true) ?_
  refine js ?_
  refine js ?_
  refine js ?_
  refine jm (.bool true) ?_
  refine lx_nil ?_
  intro X1 hX1 hF
  have hB0 := hB0.bel hX1
  have hB1 := hB1.bel hX1
  have hB2 := hB2.bel hX1
  have hb := bel_next hb hX1
  clear hF hX1
  go_upto_region 2 with (fail)
  refine lx_plain [] (lasts_nil) ?_
  simp only [iX, Nat.reduceAdd]
  refine jc (.bool true) (fun X hX hF => sanityC X) ?_
  refine jm (.bool true) ?_
  refine lx_nil ?_
  intro X2 hX2 hF
  have hB0 := hB0.bel hX2
  have hB1 := hB1.bel hX2
  have hB2 := hB2.bel hX2
  have hb := bel_next hb hX2
  clear hF hX2
  go_wp2
  go_ret
  exact ⟨rfl, hb⟩

theorem order3 (n : Bool) (p q : List UInt8) (n' : Bool) (p' q' : List UInt8) (n'' : Bool) (p'' q'' : List UInt8) (w : World) (t1 : tz p q 25) (t2 : tz p' q' 25) (t3 : tz p'' q'' 25) (u1 : vd n p q = false) : Calls Tryd.prog 5 #[.agg #[.bool n, .string ⟨p.toArray⟩, .string ⟨q.toArray⟩], .agg #[.bool n', .string ⟨p'.toArray⟩, .string ⟨q'.toArray⟩], .agg #[.bool n'', .string ⟨p''.toArray⟩, .string ⟨q''.toArray⟩]] w fun e w' => e = .returned (.bool true) ∧ Since w w' := by
  go_enter Tryd.func5, Tryd.ntmps5
  go_upto_region 1 with (fail)
  obtain ⟨W0, hW0, hB0, hB1, hB2, hb⟩ := start3 w 26 26 26 [.bool n, .string ⟨p.toArray⟩, .string ⟨q.toArray⟩] [.bool n', .string ⟨p'.toArray⟩, .string ⟨q'.toArray⟩] [.bool n'', .string ⟨p''.toArray⟩, .string ⟨q''.toArray⟩]
  rw [← hW0]
  clear hW0
  refine lx_plain [] (lasts_nil) ?_
  simp only [iX, Nat.reduceAdd]
  refine ja hB0 Tryd.underlying26 (by rfl) info_rat ?_
  refine jc (.bool true) (fun X hX hF => (fewQ n p q 25 X).mono fun e X' ⟨h1, h2⟩ => ⟨by rw [h1, few_t t1], h2⟩) ?_
  refine jm (.bool false) ?_
  refine jm (.bool false) ?_
  refine ja hB1 Tryd.underlying26 (by rfl) info_rat ?_
  refine jc (.bool true) (fun X hX hF => (fewQ n' p' q' 25 X).mono fun e X' ⟨h1, h2⟩ => ⟨by rw [h1, few_t t2], h2⟩) ?_
  refine jm (.bool false) ?_
  refine jm (.bool false) ?_
  refine jm (.bool false) ?_
  refine ja hB2 Tryd.underlying26 (by rfl) info_rat ?_
  refine jc (.bool true) (fun X hX hF => (fewQ n'' p'' q'' 25 X).mono fun e X' ⟨h1, h2⟩ => ⟨by rw [h1, few_t t3], h2⟩) ?_
  refine jm (.bool false) ?_
  refine jm (.bool false) ?_
  refine jm (.bool false) ?_
  refine ja hB0 Tryd.underlying26 (by rfl) info_rat ?_
  refine jc (.bool false) (fun X hX hF => (rvQ5 n p q X (tz_big t1).1 (tz_big t1).2).mono fun e X' ⟨h1, h2⟩ => ⟨by rw [h1, u1], h2⟩) ?_
  refine jm (.bool true) ?_
  refine jm (.bool true) ?_
  refine jm (.bool true) ?_
  refine js ?_
  refine js ?_
  refine js ?_
  refine jm (.bool true) ?_
  refine jm (.bool true) ?_
  refine js ?_
  refine js ?_
  refine js ?_
  refine jm (.bool true) ?_
  refine lx_nil ?_
  intro X1 hX1 hF
  have hB0 := hB0.bel hX1
  have hB1 := hB1.bel hX1
  have hB2 := hB2.bel hX1
  have hb := bel_next hb hX1
  clear hF hX1
  go_upto_region 2 with (fail)
  refine lx_plain [] (lasts_nil) ?_
  simp only [iX, Nat.reduceAdd]
  refine jc (.bool true) (fun X hX hF => sanityC X) ?_
  refine jm (.bool true) ?_
  refine lx_nil ?_
  intro X2 hX2 hF
  have hB0 := hB0.bel hX2
  have hB1 := hB1.bel hX2
  have hB2 := hB2.bel hX2
  have hb := bel_next hb hX2
  clear hF hX2
  go_wp2
  go_ret
  exact ⟨rfl, hb⟩

theorem order4 (n : Bool) (p q : List UInt8) (n' : Bool) (p' q' : List UInt8) (n'' : Bool) (p'' q'' : List UInt8) (w : World) (t1 : tz p q 25) (t2 : tz p' q' 25) (t3 : tz p'' q'' 25) (u1 : vd n p q = true) (u2 : vd n' p' q' = false) : Calls Tryd.prog 5 #[.agg #[.bool n, .string ⟨p.toArray⟩, .string ⟨q.toArray⟩], .agg #[.bool n', .string ⟨p'.toArray⟩, .string ⟨q'.toArray⟩], .agg #[.bool n'', .string ⟨p''.toArray⟩, .string ⟨q''.toArray⟩]] w fun e w' => e = .returned (.bool true) ∧ Since w w' := by
  go_enter Tryd.func5, Tryd.ntmps5
  go_upto_region 1 with (fail)
  obtain ⟨W0, hW0, hB0, hB1, hB2, hb⟩ := start3 w 26 26 26 [.bool n, .string ⟨p.toArray⟩, .string ⟨q.toArray⟩] [.bool n', .string ⟨p'.toArray⟩, .string ⟨q'.toArray⟩] [.bool n'', .string ⟨p''.toArray⟩, .string ⟨q''.toArray⟩]
  rw [← hW0]
  clear hW0
  refine lx_plain [] (lasts_nil) ?_
  simp only [iX, Nat.reduceAdd]
  refine ja hB0 Tryd.underlying26 (by rfl) info_rat ?_
  refine jc (.bool true) (fun X hX hF => (fewQ n p q 25 X).mono fun e X' ⟨h1, h2⟩ => ⟨by rw [h1, few_t t1], h2⟩) ?_
  refine jm (.bool false) ?_
  refine jm (.bool false) ?_
  refine ja hB1 Tryd.underlying26 (by rfl) info_rat ?_
  refine jc (.bool true) (fun X hX hF => (fewQ n' p' q' 25 X).mono fun e X' ⟨h1, h2⟩ => ⟨by rw [h1, few_t t2], h2⟩) ?_
  refine jm (.bool false) ?_
  refine jm (.bool false) ?_
  refine jm (.bool false) ?_
  refine ja hB2 Tryd.underlying26 (by rfl) info_rat ?_
  refine jc (.bool true) (fun X hX hF => (fewQ n'' p'' q'' 25 X).mono fun e X' ⟨h1, h2⟩ => ⟨by rw [h1, few_t t3], h2⟩) ?_
  refine jm (.bool false) ?_
  refine jm (.bool false) ?_
  refine jm (.bool false) ?_
  refine ja hB0 Tryd.underlying26 (by rfl) info_rat ?_
  refine jc (.bool true) (fun X hX hF => (rvQ5 n p q X (tz_big t1).1 (tz_big t1).2).mono fun e X' ⟨h1, h2⟩ => ⟨by rw [h1, u1], h2⟩) ?_
  refine jm (.bool false) ?_
  refine jm (.bool false) ?_
  refine jm (.bool false) ?_
  refine ja hB1 Tryd.underlying26 (by rfl) info_rat ?_
  refine jc (.bool false) (fun X hX hF => (rvQ5 n' p' q' X (tz_big t2).1 (tz_big t2).2).mono fun e X' ⟨h1, h2⟩ => ⟨by rw [h1, u2], h2⟩) ?_
  refine jm (.bool true) ?_
  refine jm (.bool true) ?_
  refine jm (.bool true) ?_
  refine js ?_
  refine js ?_
  refine js ?_
  refine jm (.bool true) ?_
  refine lx_nil ?_
  intro X1 hX1 hF
  have hB0 := hB0.bel hX1
  have hB1 := hB1.bel hX1
  have hB2 := hB2.bel hX1
  have hb := bel_next hb hX1
  clear hF hX1
  go_upto_region 2 with (fail)
  refine lx_plain [] (lasts_nil) ?_
  simp only [iX, Nat.reduceAdd]
  refine jc (.bool true) (fun X hX hF => sanityC X) ?_
  refine jm (.bool true) ?_
  refine lx_nil ?_
  intro X2 hX2 hF
  have hB0 := hB0.bel hX2
  have hB1 := hB1.bel hX2
  have hB2 := hB2.bel hX2
  have hb := bel_next hb hX2
  clear hF hX2
  go_wp2
  go_ret
  exact ⟨rfl, hb⟩

theorem order5 (n : Bool) (p q : List UInt8) (n' : Bool) (p' q' : List UInt8) (n'' : Bool) (p'' q'' : List UInt8) (w : World) (t1 : tz p q 25) (t2 : tz p' q' 25) (t3 : tz p'' q'' 25) (u1 : vd n p q = true) (u2 : vd n' p' q' = true) (u3 : vd n'' p'' q'' = false) : Calls Tryd.prog 5 #[.agg #[.bool n, .string ⟨p.toArray⟩, .string ⟨q.toArray⟩], .agg #[.bool n', .string ⟨p'.toArray⟩, .string ⟨q'.toArray⟩], .agg #[.bool n'', .string ⟨p''.toArray⟩, .string ⟨q''.toArray⟩]] w fun e w' => e = .returned (.bool true) ∧ Since w w' := by
  go_enter Tryd.func5, Tryd.ntmps5
  go_upto_region 1 with (fail)
  obtain ⟨W0, hW0, hB0, hB1, hB2, hb⟩ := start3 w 26 26 26 [.bool n, .string ⟨p.toArray⟩, .string ⟨q.toArray⟩] [.bool n', .string ⟨p'.toArray⟩, .string ⟨q'.toArray⟩] [.bool n'', .string ⟨p''.toArray⟩, .string ⟨q''.toArray⟩]
  rw [← hW0]
  clear hW0
  refine lx_plain [] (lasts_nil) ?_
  simp only [iX, Nat.reduceAdd]
  refine ja hB0 Tryd.underlying26 (by rfl) info_rat ?_
  refine jc (.bool true) (fun X hX hF => (fewQ n p q 25 X).mono fun e X' ⟨h1, h2⟩ => ⟨by rw [h1, few_t t1], h2⟩) ?_
  refine jm (.bool false) ?_
  refine jm (.bool false) ?_
  refine ja hB1 Tryd.underlying26 (by rfl) info_rat ?_
  refine jc (.bool true) (fun X hX hF => (fewQ n' p' q' 25 X).mono fun e X' ⟨h1, h2⟩ => ⟨by rw [h1, few_t t2], h2⟩) ?_
  refine jm (.bool false) ?_
  refine jm (.bool false) ?_
  refine jm (.bool false) ?_
  refine ja hB2 Tryd.underlying26 (by rfl) info_rat ?_
  refine jc (.bool true) (fun X hX hF => (fewQ n'' p'' q'' 25 X).mono fun e X' ⟨h1, h2⟩ => ⟨by rw [h1, few_t t3], h2⟩) ?_
  refine jm (.bool false) ?_
  refine jm (.bool false) ?_
  refine jm (.bool false) ?_
  refine ja hB0 Tryd.underlying26 (by rfl) info_rat ?_
  refine jc (.bool true) (fun X hX hF => (rvQ5 n p q X (tz_big t1).1 (tz_big t1).2).mono fun e X' ⟨h1, h2⟩ => ⟨by rw [h1, u1], h2⟩) ?_
  refine jm (.bool false) ?_
  refine jm (.bool false) ?_
  refine jm (.bool false) ?_
  refine ja hB1 Tryd.underlying26 (by rfl) info_rat ?_
  refine jc (.bool true) (fun X hX hF => (rvQ5 n' p' q' X (tz_big t2).1 (tz_big t2).2).mono fun e X' ⟨h1, h2⟩ => ⟨by rw [h1, u2], h2⟩) ?_
  refine jm (.bool false) ?_
  refine jm (.bool false) ?_
  refine jm (.bool false) ?_
  refine ja hB2 Tryd.underlying26 (by rfl) info_rat ?_
  refine jc (.bool false) (fun X hX hF => (rvQ5 n'' p'' q'' X (tz_big t3).1 (tz_big t3).2).mono fun e X' ⟨h1, h2⟩ => ⟨by rw [h1, u3], h2⟩) ?_
  refine jm (.bool true) ?_
  refine jm (.bool true) ?_
  refine lx_nil ?_
  intro X1 hX1 hF
  have hB0 := hB0.bel hX1
  have hB1 := hB1.bel hX1
  have hB2 := hB2.bel hX1
  have hb := bel_next hb hX1
  clear hF hX1
  go_upto_region 2 with (fail)
  refine lx_plain [] (lasts_nil) ?_
  simp only [iX, Nat.reduceAdd]
  refine jc (.bool true) (fun X hX hF => sanityC X) ?_
  refine jm (.bool true) ?_
  refine lx_nil ?_
  intro X2 hX2 hF
  have hB0 := hB0.bel hX2
  have hB1 := hB1.bel hX2
  have hB2 := hB2.bel hX2
  have hb := bel_next hb hX2
  clear hF hX2
  go_wp2
  go_ret
  exact ⟨rfl, hb⟩

theorem cmp_tr1 (x y z : Rat) (h1 : cmpR x y ≤ 0) (h2 : cmpR y z ≤ 0) : cmpR x z ≤ 0 := cmpR_le.2 (Rat.le_trans (cmpR_le.1 h1) (cmpR_le.1 h2))
theorem cmp_tr2 (x y z : Rat) (h1 : 0 ≤ cmpR x y) (h2 : 0 ≤ cmpR y z) : 0 ≤ cmpR x z := cmpR_ge.2 (Rat.le_trans (cmpR_ge.1 h2) (cmpR_ge.1 h1))
theorem ways7 (x y z : Rat) : (x < y ∧ 0 < cmpR y z) ∨ (x < y ∧ cmpR y z ≤ 0) ∨ (x = y ∧ cmpR y z < 0) ∨ (x = y ∧ cmpR y z = 0) ∨ (x = y ∧ 0 < cmpR y z) ∨ (y < x ∧ cmpR y z < 0) ∨ (y < x ∧ 0 ≤ cmpR y z) := by
  rcases rtri x y with h | h | h
  · rcases Int.lt_or_le 0 (cmpR y z) with h1 | h1 <;> simp [h, h1]
  · rcases Int.lt_trichotomy (cmpR y z) 0 with h1 | h1 | h1 <;> simp [h, h1]
  · rcases Int.lt_or_le (cmpR y z) 0 with h1 | h1 <;> simp [h, h1]
theorem ways4 (x : Rat) : (floE x = 0 ∧ floE (-x) = 0 ∧ (-999999999999999 ≤ floN x ∧ floN x ≤ 999999999999999) ∧ -floN (-x) - floN x = 0 ∧ Hid (ri (floN x) = x)) ∨ (floE x = 0 ∧ floE (-x) = 0 ∧ (-999999999999999 ≤ floN x ∧ floN x ≤ 999999999999999) ∧ -floN (-x) - floN x = 1 ∧ Hid (ri (floN x) ≠ x)) ∨ (floE x = 0 ∧ floE (-x) = 3) ∨ floE x = 3 := by
  rcases floE_cases x with ⟨h6, h7, h7a, h7b⟩ | ⟨h6, h7⟩
  · rcases floE_cases (-x) with ⟨h5, h4, h4a, h4b⟩ | ⟨h5, h4⟩
    · by_cases h3 : (flr x : Rat) = x
      · refine .inl ⟨h6, h5, by omega, by rw [h4, h7, flr_neg_int h3]; omega, ?_⟩
        show _ = _
        unfold ri
        rw [h7, h3]
      · refine .inr (.inl ⟨h6, h5, by omega, by rw [h4, h7, flr_neg_frac h3]; omega, ?_⟩)
        show _ ≠ _
        unfold ri
        rw [h7]
        exact h3
    · exact .inr (.inr (.inl ⟨h6, h5⟩))
  · exact .inr (.inr (.inr h6))
theorem insB_flo (x : Rat) : insB (floN x) = true := by
  rcases floE_cases x with ⟨_, h, h1, h2⟩ | ⟨_, h⟩
  · rw [h]
    exact insB_of h1 h2
  · rw [h]
    decide
theorem orderM (x y z : Rat) (w : World) (sx : szR x 25) (t1 : tz (rP x) (rD x) 25) (sy : szR y 25) (t2 : tz (rP y) (rD y) 25) (sz : szR z 25) (t3 : tz (rP z) (rD z) 25) (HIN : Hid (insB (floN x) = true)) : Calls Tryd.prog 5 #[.agg #[.bool (rN x), .string ⟨(rP x).toArray⟩, .string ⟨(rD x).toArray⟩], .agg #[.bool (rN y), .string ⟨(rP y).toArray⟩, .string ⟨(rD y).toArray⟩], .agg #[.bool (rN z), .string ⟨(rP z).toArray⟩, .string ⟨(rD z).toArray⟩]] w fun e w' => e = .returned (.bool true) ∧ Since w w' := by
  have LB0 : szR x 25 := ⟨sx.1, sx.2⟩
  have LB1 : szR y 25 := ⟨sy.1, sy.2⟩
  have LB2 : szR z 25 := ⟨sz.1, sz.2⟩
  have LB3 : szR (x + z) 51 := szR_add LB0 LB2
  have LB4 : szR (y + z) 51 := szR_add LB1 LB2
  have LB5 : szR (x * z) 50 := szR_mul LB0 LB2
  have LB6 : szR (y * z) 50 := szR_mul LB1 LB2
  have LB7 : szR (ri (floN x)) 7 := szR_int HIN.out
  have LB8 : szR (x - (ri (floN x))) 33 := szR_sub LB0 LB7
  have LB9 : szR (ri 1) 7 := szR_int (n := 1) (by decide)
  go_enter Tryd.func5, Tryd.ntmps5
  go_upto_region 1 with (fail)
  obtain ⟨W0, hW0, hB0, hB1, hB2, hb⟩ := start3 w 26 26 26 [.bool (rN x), .string ⟨(rP x).toArray⟩, .string ⟨(rD x).toArray⟩] [.bool (rN y), .string ⟨(rP y).toArray⟩, .string ⟨(rD y).toArray⟩] [.bool (rN z), .string ⟨(rP z).toArray⟩, .string ⟨(rD z).toArray⟩]
  rw [← hW0]
  clear hW0
  refine lx_plain [] (lasts_nil) ?_
  simp only [iX, Nat.reduceAdd]
  refine ja hB0 Tryd.underlying26 (by rfl) info_rat ?_
  refine jc (.bool true) (fun X hX hF => (fewQ (rN x) (rP x) (rD x) 25 X).mono fun e X' ⟨h1, h2⟩ => ⟨by rw [h1, few_t t1], h2⟩) ?_
  refine jm (.bool false) ?_
  refine jm (.bool false) ?_
  refine ja hB1 Tryd.underlying26 (by rfl) info_rat ?_
  refine jc (.bool true) (fun X hX hF => (fewQ (rN y) (rP y) (rD y) 25 X).mono fun e X' ⟨h1, h2⟩ => ⟨by rw [h1, few_t t2], h2⟩) ?_
  refine jm (.bool false) ?_
  refine jm (.bool false) ?_
  refine jm (.bool false) ?_
  refine ja hB2 Tryd.underlying26 (by rfl) info_rat ?_
  refine jc (.bool true) (fun X hX hF => (fewQ (rN z) (rP z) (rD z) 25 X).mono fun e X' ⟨h1, h2⟩ => ⟨by rw [h1, few_t t3], h2⟩) ?_
  refine jm (.bool false) ?_
  refine jm (.bool false) ?_
  refine jm (.bool false) ?_
  refine ja hB0 Tryd.underlying26 (by rfl) info_rat ?_
  refine jc (.bool true) (fun X hX hF => (rvQ5 (rN x) (rP x) (rD x) X (tz_big t1).1 (tz_big t1).2).mono fun e X' ⟨h1, h2⟩ => ⟨by rw [h1, vd_rb x], h2⟩) ?_
  refine jm (.bool false) ?_
  refine jm (.bool false) ?_
  refine jm (.bool false) ?_
  refine ja hB1 Tryd.underlying26 (by rfl) info_rat ?_
  refine jc (.bool true) (fun X hX hF => (rvQ5 (rN y) (rP y) (rD y) X (tz_big t2).1 (tz_big t2).2).mono fun e X' ⟨h1, h2⟩ => ⟨by rw [h1, vd_rb y], h2⟩) ?_
  refine jm (.bool false) ?_
  refine jm (.bool false) ?_
  refine jm (.bool false) ?_
  refine ja hB2 Tryd.underlying26 (by rfl) info_rat ?_
  refine jc (.bool true) (fun X hX hF => (rvQ5 (rN z) (rP z) (rD z) X (tz_big t3).1 (tz_big t3).2).mono fun e X' ⟨h1, h2⟩ => ⟨by rw [h1, vd_rb z], h2⟩) ?_
  refine jm (.bool false) ?_
  refine jm (.bool false) ?_
  refine lx_nil ?_
  intro X1 hX1 hF
  have hB0 := hB0.bel hX1
  have hB1 := hB1.bel hX1
  have hB2 := hB2.bel hX1
  have hb := bel_next hb hX1
  clear hF hX1
  go_upto_region 3 with (fail)
  refine lx_region [] (by kernel_rfl) (by kernel_rfl) (lasts_nil) ?_
  simp only [iX, Nat.reduceAdd]
  refine ja hB0 Tryd.underlying26 (by rfl) info_rat ?_
  refine ja hB1 Tryd.underlying26 (by rfl) info_rat ?_
  refine jc (.int .i64 (cmpR x y)) (fun X hX hF => rcmpG (rN x) (rP x) (rD x) (rN y) (rP y) (rD y) (rq_rb x) (rq_rb y) X (tzR LB0 (by omega)) (tzR LB1 (by omega))) ?_
  refine ja hB1 Tryd.underlying26 (by rfl) info_rat ?_
  refine ja hB2 Tryd.underlying26 (by rfl) info_rat ?_
  refine jc (.int .i64 (cmpR y z)) (fun X hX hF => rcmpG (rN y) (rP y) (rD y) (rN z) (rP z) (rD z) (rq_rb y) (rq_rb z) X (tzR LB1 (by omega)) (tzR LB2 (by omega))) ?_
  refine ja hB0 Tryd.underlying26 (by rfl) info_rat ?_
  refine ja hB2 Tryd.underlying26 (by rfl) info_rat ?_
  refine jc (.int .i64 (cmpR x z)) (fun X hX hF => rcmpG (rN x) (rP x) (rD x) (rN z) (rP z) (rD z) (rq_rb x) (rq_rb z) X (tzR LB0 (by omega)) (tzR LB2 (by omega))) ?_
  refine jm (.int .i64 (cmpR x y)) ?_
  refine jm (.int .i64 (cmpR y z)) ?_
  refine jm (.int .i64 (cmpR x z)) ?_
  refine lx_nil ?_
  intro X2 hX2 hF
  have hB0 := hB0.bel hX2
  have hB1 := hB1.bel hX2
  have hB2 := hB2.bel hX2
  have hb := bel_next hb hX2
  clear hF hX2
  go_upto_region 4 with (fail)
  refine share [55, 56, 57, 58, 59, 60, 61, 62, 63, 64, 65, 66, 67, 68, 69, 70, 71, 72, 73, 74, 75, 76, 77, 78, 79, 80, 81, 82, 83, 84, 85, 86, 87, 88, 89, 90, 91, 92, 93, 94, 95, 96, 97, 98, 99, 100] (fun f9 X => (f9 100 = .bool false ∧ True) ∧ Since X2 X) ?_ ?_
  · have k1 := cmpR_bd x y
    have k2 := cmpR_bd y z
    have k3 := cmpR_bd x z
    have k4 := cmpR_neg x y
    have k5 := cmp_tr1 x y z
    have k6 := cmp_tr2 x y z
    rcases ways7 x y z with ⟨h8, h7⟩ | ⟨h8, h7⟩ | ⟨h8, h7⟩ | ⟨h8, h7⟩ | ⟨h8, h7⟩ | ⟨h8, h7⟩ | ⟨h8, h7⟩
    · have h6 := cmpR_lt.2 h8
      have h9 : x ≠ y := by rintro rfl; exact Rat.lt_irrefl h8
      clear h8
      refine lx_plain [] (lasts_nil) ?_
      simp only [iX, Nat.reduceAdd]
      refine jm (.int .i64 (cmpR x y)) ?_
      refine jv (.bool false) (exec_lss _ _ _ _ (by rfl) .i64 (cmpR x y) (-1) (by rfl) (by rfl) false (decide_eq_false (by omega))) ?_
      refine jm (.bool false) ?_
      refine jm (.int .i64 (cmpR x y)) ?_
      refine jv (.bool false) (exec_gtr _ _ _ _ (by rfl) .i64 (cmpR x y) 1 (by rfl) (by rfl) false (decide_eq_false (by omega))) ?_
      refine jm (.bool false) ?_
      refine jm (.bool false) ?_
      refine ja hB1 Tryd.underlying26 (by rfl) info_rat ?_
      refine ja hB0 Tryd.underlying26 (by rfl) info_rat ?_
      refine jc (.int .i64 (cmpR y x)) (fun X hX hF => rcmpG (rN y) (rP y) (rD y) (rN x) (rP x) (rD x) (rq_rb y) (rq_rb x) X (tzR LB1 (by omega)) (tzR LB0 (by omega))) ?_
      refine jm (.int .i64 (cmpR x y)) ?_
      refine jv (.int .i64 (-(cmpR x y))) (exec_neg _ _ (by rfl) (cmpR x y) (-(cmpR x y)) (by rfl) rfl (by omega) (by omega)) ?_
      refine jv (.bool false) (exec_nei _ _ _ _ (by rfl) .i64 (cmpR y x) (-(cmpR x y)) (by rfl) (by rfl) false (by rw [decide_eq_true (by omega)]; rfl)) ?_
      refine jm (.bool false) ?_
      refine jm (.bool false) ?_
      refine jm (.int .i64 (cmpR x y)) ?_
      refine jv (.bool false) (exec_eqi _ _ _ _ (by rfl) .i64 (cmpR x y) 0 (by rfl) (by rfl) false (decide_eq_false (by omega))) ?_
      refine ja hB0 Tryd.underlying26 (by rfl) info_rat ?_
      refine ja hB1 Tryd.underlying26 (by rfl) info_rat ?_
      refine jv (.bool false) (exec_eqr _ _ (by rfl) (rN x) (rP x) (rD x) (rN y) (rP y) (rD y) (by rfl) (by rfl) false (rb_eqf h9)) ?_
      refine jm (.bool false) ?_
      refine jm (.bool false) ?_
      refine jm (.bool false) ?_
      refine jm (.int .i64 (cmpR x y)) ?_
      refine jv (.bool true) (exec_leq _ _ _ _ (by rfl) .i64 (cmpR x y) 0 (by rfl) (by rfl) true (decide_eq_true (by omega))) ?_
      refine jm (.bool true) ?_
      refine jm (.int .i64 (cmpR y z)) ?_
      refine jv (.bool false) (exec_leq _ _ _ _ (by rfl) .i64 (cmpR y z) 0 (by rfl) (by rfl) false (decide_eq_false (by omega))) ?_
      refine jm (.bool false) ?_
      refine jm (.bool false) ?_
      refine js ?_
      refine js ?_
      refine jm (.bool false) ?_
      refine jm (.bool false) ?_
      refine jm (.bool false) ?_
      refine jm (.int .i64 (cmpR x y)) ?_
      refine jv (.bool false) (exec_geq _ _ _ _ (by rfl) .i64 (cmpR x y) 0 (by rfl) (by rfl) false (decide_eq_false (by omega))) ?_
      refine jm (.bool false) ?_
      refine js ?_
      refine js ?_
      refine jm (.bool false) ?_
      refine jm (.bool false) ?_
      refine js ?_
      refine js ?_
      refine jm (.bool false) ?_
      refine jm (.bool false) ?_
      exact lx_nil fun X hX _ => share_nil ⟨⟨rfl, trivial⟩, hX⟩
    · have h6 := cmpR_lt.2 h8
      have h9 : x ≠ y := by rintro rfl; exact Rat.lt_irrefl h8
      clear h8
      refine lx_plain [] (lasts_nil) ?_
      simp only [iX, Nat.reduceAdd]
      refine jm (.int .i64 (cmpR x y)) ?_
      refine jv (.bool false) (exec_lss _ _ _ _ (by rfl) .i64 (cmpR x y) (-1) (by rfl) (by rfl) false (decide_eq_false (by omega))) ?_
      refine jm (.bool false) ?_
      refine jm (.int .i64 (cmpR x y)) ?_
      refine jv (.bool false) (exec_gtr _ _ _ _ (by rfl) .i64 (cmpR x y) 1 (by rfl) (by rfl) false (decide_eq_false (by omega))) ?_
      refine jm (.bool false) ?_
      refine jm (.bool false) ?_
      refine ja hB1 Tryd.underlying26 (by rfl) info_rat ?_
      refine ja hB0 Tryd.underlying26 (by rfl) info_rat ?_
      refine jc (.int .i64 (cmpR y x)) (fun X hX hF => rcmpG (rN y) (rP y) (rD y) (rN x) (rP x) (rD x) (rq_rb y) (rq_rb x) X (tzR LB1 (by omega)) (tzR LB0 (by omega))) ?_
      refine jm (.int .i64 (cmpR x y)) ?_
      refine jv (.int .i64 (-(cmpR x y))) (exec_neg _ _ (by rfl) (cmpR x y) (-(cmpR x y)) (by rfl) rfl (by omega) (by omega)) ?_
      refine jv (.bool false) (exec_nei _ _ _ _ (by rfl) .i64 (cmpR y x) (-(cmpR x y)) (by rfl) (by rfl) false (by rw [decide_eq_true (by omega)]; rfl)) ?_
      refine jm (.bool false) ?_
      refine jm (.bool false) ?_
      refine jm (.int .i64 (cmpR x y)) ?_
      refine jv (.bool false) (exec_eqi _ _ _ _ (by rfl) .i64 (cmpR x y) 0 (by rfl) (by rfl) false (decide_eq_false (by omega))) ?_
      refine ja hB0 Tryd.underlying26 (by rfl) info_rat ?_
      refine ja hB1 Tryd.underlying26 (by rfl) info_rat ?_
      refine jv (.bool false) (exec_eqr _ _ (by rfl) (rN x) (rP x) (rD x) (rN y) (rP y) (rD y) (by rfl) (by rfl) false (rb_eqf h9)) ?_
      refine jm (.bool false) ?_
      refine jm (.bool false) ?_
      refine jm (.bool false) ?_
      refine jm (.int .i64 (cmpR x y)) ?_
      refine jv (.bool true) (exec_leq _ _ _ _ (by rfl) .i64 (cmpR x y) 0 (by rfl) (by rfl) true (decide_eq_true (by omega))) ?_
      refine jm (.bool true) ?_
      refine jm (.int .i64 (cmpR y z)) ?_
      refine jv (.bool true) (exec_leq _ _ _ _ (by rfl) .i64 (cmpR y z) 0 (by rfl) (by rfl) true (decide_eq_true (by omega))) ?_
      refine jm (.bool true) ?_
      refine jm (.bool true) ?_
      refine jm (.int .i64 (cmpR x z)) ?_
      refine jv (.bool false) (exec_gtr _ _ _ _ (by rfl) .i64 (cmpR x z) 0 (by rfl) (by rfl) false (decide_eq_false (by omega))) ?_
      refine jm (.bool false) ?_
      refine jm (.bool false) ?_
      refine jm (.bool false) ?_
      refine jm (.int .i64 (cmpR x y)) ?_
      refine jv (.bool false) (exec_geq _ _ _ _ (by rfl) .i64 (cmpR x y) 0 (by rfl) (by rfl) false (decide_eq_false (by omega))) ?_
      refine jm (.bool false) ?_
      refine js ?_
      refine js ?_
      refine jm (.bool false) ?_
      refine jm (.bool false) ?_
      refine js ?_
      refine js ?_
      refine jm (.bool false) ?_
      refine jm (.bool false) ?_
      exact lx_nil fun X hX _ => share_nil ⟨⟨rfl, trivial⟩, hX⟩
    · have h6 := cmpR_eq.2 h8
      have h9 : Hid (x = y) := h8
      clear h8
      refine lx_plain [] (lasts_nil) ?_
      simp only [iX, Nat.reduceAdd]
      refine jm (.int .i64 (cmpR x y)) ?_
      refine jv (.bool false) (exec_lss _ _ _ _ (by rfl) .i64 (cmpR x y) (-1) (by rfl) (by rfl) false (decide_eq_false (by omega))) ?_
      refine jm (.bool false) ?_
      refine jm (.int .i64 (cmpR x y)) ?_
      refine jv (.bool false) (exec_gtr _ _ _ _ (by rfl) .i64 (cmpR x y) 1 (by rfl) (by rfl) false (decide_eq_false (by omega))) ?_
      refine jm (.bool false) ?_
      refine jm (.bool false) ?_
      refine ja hB1 Tryd.underlying26 (by rfl) info_rat ?_
      refine ja hB0 Tryd.underlying26 (by rfl) info_rat ?_
      refine jc (.int .i64 (cmpR y x)) (fun X hX hF => rcmpG (rN y) (rP y) (rD y) (rN x) (rP x) (rD x) (rq_rb y) (rq_rb x) X (tzR LB1 (by omega)) (tzR LB0 (by omega))) ?_
      refine jm (.int .i64 (cmpR x y)) ?_
      refine jv (.int .i64 (-(cmpR x y))) (exec_neg _ _ (by rfl) (cmpR x y) (-(cmpR x y)) (by rfl) rfl (by omega) (by omega)) ?_
      refine jv (.bool false) (exec_nei _ _ _ _ (by rfl) .i64 (cmpR y x) (-(cmpR x y)) (by rfl) (by rfl) false (by rw [decide_eq_true (by omega)]; rfl)) ?_
      refine jm (.bool false) ?_
      refine jm (.bool false) ?_
      refine jm (.int .i64 (cmpR x y)) ?_
      refine jv (.bool true) (exec_eqi _ _ _ _ (by rfl) .i64 (cmpR x y) 0 (by rfl) (by rfl) true (decide_eq_true (by omega))) ?_
      refine ja hB0 Tryd.underlying26 (by rfl) info_rat ?_
      refine ja hB1 Tryd.underlying26 (by rfl) info_rat ?_
      refine jv (.bool true) (exec_eqr _ _ (by rfl) (rN x) (rP x) (rD x) (rN y) (rP y) (rD y) (by rfl) (by rfl) true (rb_eqt h9.out)) ?_
      refine jm (.bool false) ?_
      refine jm (.bool false) ?_
      refine jm (.bool false) ?_
      refine jm (.int .i64 (cmpR x y)) ?_
      refine jv (.bool true) (exec_leq _ _ _ _ (by rfl) .i64 (cmpR x y) 0 (by rfl) (by rfl) true (decide_eq_true (by omega))) ?_
      refine jm (.bool true) ?_
      refine jm (.int .i64 (cmpR y z)) ?_
      refine jv (.bool true) (exec_leq _ _ _ _ (by rfl) .i64 (cmpR y z) 0 (by rfl) (by rfl) true (decide_eq_true (by omega))) ?_
      refine jm (.bool true) ?_
      refine jm (.bool true) ?_
      refine jm (.int .i64 (cmpR x z)) ?_
      refine jv (.bool false) (exec_gtr _ _ _ _ (by rfl) .i64 (cmpR x z) 0 (by rfl) (by rfl) false (decide_eq_false (by omega))) ?_
      refine jm (.bool false) ?_
      refine jm (.bool false) ?_
      refine jm (.bool false) ?_
      refine jm (.int .i64 (cmpR x y)) ?_
      refine jv (.bool true) (exec_geq _ _ _ _ (by rfl) .i64 (cmpR x y) 0 (by rfl) (by rfl) true (decide_eq_true (by omega))) ?_
      refine jm (.bool true) ?_
      refine jm (.int .i64 (cmpR y z)) ?_
      refine jv (.bool false) (exec_geq _ _ _ _ (by rfl) .i64 (cmpR y z) 0 (by rfl) (by rfl) false (decide_eq_false (by omega))) ?_
      refine jm (.bool false) ?_
      refine jm (.bool false) ?_
      refine js ?_
      refine js ?_
      refine jm (.bool false) ?_
      refine jm (.bool false) ?_
      exact lx_nil fun X hX _ => share_nil ⟨⟨rfl, trivial⟩, hX⟩
    · have h6 := cmpR_eq.2 h8
      have h9 : Hid (x = y) := h8
      clear h8
      refine lx_plain [] (lasts_nil) ?_
      simp only [iX, Nat.reduceAdd]
      refine jm (.int .i64 (cmpR x y)) ?_
      refine jv (.bool false) (exec_lss _ _ _ _ (by rfl) .i64 (cmpR x y) (-1) (by rfl) (by rfl) false (decide_eq_false (by omega))) ?_
      refine jm (.bool false) ?_
      refine jm (.int .i64 (cmpR x y)) ?_
      refine jv (.bool false) (exec_gtr _ _ _ _ (by rfl) .i64 (cmpR x y) 1 (by rfl) (by rfl) false (decide_eq_false (by omega))) ?_
      refine jm (.bool false) ?_
      refine jm (.bool false) ?_
      refine ja hB1 Tryd.underlying26 (by rfl) info_rat ?_
      refine ja hB0 Tryd.underlying26 (by rfl) info_rat ?_
      refine jc (.int .i64 (cmpR y x)) (fun X hX hF => rcmpG (rN y) (rP y) (rD y) (rN x) (rP x) (rD x) (rq_rb y) (rq_rb x) X (tzR LB1 (by omega)) (tzR LB0 (by omega))) ?_
      refine jm (.int .i64 (cmpR x y)) ?_
      refine jv (.int .i64 (-(cmpR x y))) (exec_neg _ _ (by rfl) (cmpR x y) (-(cmpR x y)) (by rfl) rfl (by omega) (by omega)) ?_
      refine jv (.bool false) (exec_nei _ _ _ _ (by rfl) .i64 (cmpR y x) (-(cmpR x y)) (by rfl) (by rfl) false (by rw [decide_eq_true (by omega)]; rfl)) ?_
      refine jm (.bool false) ?_
      refine jm (.bool false) ?_
      refine jm (.int .i64 (cmpR x y)) ?_
      refine jv (.bool true) (exec_eqi _ _ _ _ (by rfl) .i64 (cmpR x y) 0 (by rfl) (by rfl) true (decide_eq_true (by omega))) ?_
      refine ja hB0 Tryd.underlying26 (by rfl) info_rat ?_
      refine ja hB1 Tryd.underlying26 (by rfl) info_rat ?_
      refine jv (.bool true) (exec_eqr _ _ (by rfl) (rN x) (rP x) (rD x) (rN y) (rP y) (rD y) (by rfl) (by rfl) true (rb_eqt h9.out)) ?_
      refine jm (.bool false) ?_
      refine jm (.bool false) ?_
      refine jm (.bool false) ?_
      refine jm (.int .i64 (cmpR x y)) ?_
      refine jv (.bool true) (exec_leq _ _ _ _ (by rfl) .i64 (cmpR x y) 0 (by rfl) (by rfl) true (decide_eq_true (by omega))) ?_
      refine jm (.bool true) ?_
      refine jm (.int .i64 (cmpR y z)) ?_
      refine jv (.bool true) (exec_leq _ _ _ _ (by rfl) .i64 (cmpR y z) 0 (by rfl) (by rfl) true (decide_eq_true (by omega))) ?_
      refine jm (.bool true) ?_
      refine jm (.bool true) ?_
      refine jm (.int .i64 (cmpR x z)) ?_
      refine jv (.bool false) (exec_gtr _ _ _ _ (by rfl) .i64 (cmpR x z) 0 (by rfl) (by rfl) false (decide_eq_false (by omega))) ?_
      refine jm (.bool false) ?_
      refine jm (.bool false) ?_
      refine jm (.bool false) ?_
      refine jm (.int .i64 (cmpR x y)) ?_
      refine jv (.bool true) (exec_geq _ _ _ _ (by rfl) .i64 (cmpR x y) 0 (by rfl) (by rfl) true (decide_eq_true (by omega))) ?_
      refine jm (.bool true) ?_
      refine jm (.int .i64 (cmpR y z)) ?_
      refine jv (.bool true) (exec_geq _ _ _ _ (by rfl) .i64 (cmpR y z) 0 (by rfl) (by rfl) true (decide_eq_true (by omega))) ?_
      refine jm (.bool true) ?_
      refine jm (.bool true) ?_
      refine jm (.int .i64 (cmpR x z)) ?_
      refine jv (.bool false) (exec_lss _ _ _ _ (by rfl) .i64 (cmpR x z) 0 (by rfl) (by rfl) false (decide_eq_false (by omega))) ?_
      refine jm (.bool false) ?_
      refine jm (.bool false) ?_
      exact lx_nil fun X hX _ => share_nil ⟨⟨rfl, trivial⟩, hX⟩
    · have h6 := cmpR_eq.2 h8
      have h9 : Hid (x = y) := h8
      clear h8
      refine lx_plain [] (lasts_nil) ?_
      simp only [iX, Nat.reduceAdd]
      refine jm (.int .i64 (cmpR x y)) ?_
      refine jv (.bool false) (exec_lss _ _ _ _ (by rfl) .i64 (cmpR x y) (-1) (by rfl) (by rfl) false (decide_eq_false (by omega))) ?_
      refine jm (.bool false) ?_
      refine jm (.int .i64 (cmpR x y)) ?_
      refine jv (.bool false) (exec_gtr _ _ _ _ (by rfl) .i64 (cmpR x y) 1 (by rfl) (by rfl) false (decide_eq_false (by omega))) ?_
      refine jm (.bool false) ?_
      refine jm (.bool false) ?_
      refine ja hB1 Tryd.underlying26 (by rfl) info_rat ?_
      refine ja hB0 Tryd.underlying26 (by rfl) info_rat ?_
      refine jc (.int .i64 (cmpR y x)) (fun X hX hF => rcmpG (rN y) (rP y) (rD y) (rN x) (rP x) (rD x) (rq_rb y) (rq_rb x) X (tzR LB1 (by omega)) (tzR LB0 (by omega))) ?_
      refine jm (.int .i64 (cmpR x y)) ?_
      refine jv (.int .i64 (-(cmpR x y))) (exec_neg _ _ (by rfl) (cmpR x y) (-(cmpR x y)) (by rfl) rfl (by omega) (by omega)) ?_
      refine jv (.bool false) (exec_nei _ _ _ _ (by rfl) .i64 (cmpR y x) (-(cmpR x y)) (by rfl) (by rfl) false (by rw [decide_eq_true (by omega)]; rfl)) ?_
      refine jm (.bool false) ?_
      refine jm (.bool false) ?_
      refine jm (.int .i64 (cmpR x y)) ?_
      refine jv (.bool true) (exec_eqi _ _ _ _ (by rfl) .i64 (cmpR x y) 0 (by rfl) (by rfl) true (decide_eq_true (by omega))) ?_
      refine ja hB0 Tryd.underlying26 (by rfl) info_rat ?_
      refine ja hB1 Tryd.underlying26 (by rfl) info_rat ?_
      refine jv (.bool true) (exec_eqr _ _ (by rfl) (rN x) (rP x) (rD x) (rN y) (rP y) (rD y) (by rfl) (by rfl) true (rb_eqt h9.out)) ?_
      refine jm (.bool false) ?_
      refine jm (.bool false) ?_
      refine jm (.bool false) ?_
      refine jm (.int .i64 (cmpR x y)) ?_
      refine jv (.bool true) (exec_leq _ _ _ _ (by rfl) .i64 (cmpR x y) 0 (by rfl) (by rfl) true (decide_eq_true (by omega))) ?_
      refine jm (.bool true) ?_
      refine jm (.int .i64 (cmpR y z)) ?_
      refine jv (.bool false) (exec_leq _ _ _ _ (by rfl) .i64 (cmpR y z) 0 (by rfl) (by rfl) false (decide_eq_false (by omega))) ?_
      refine jm (.bool false) ?_
      refine jm (.bool false) ?_
      refine js ?_
      refine js ?_
      refine jm (.bool false) ?_
      refine jm (.bool false) ?_
      refine jm (.bool false) ?_
      refine jm (.int .i64 (cmpR x y)) ?_
      refine jv (.bool true) (exec_geq _ _ _ _ (by rfl) .i64 (cmpR x y) 0 (by rfl) (by rfl) true (decide_eq_true (by omega))) ?_
      refine jm (.bool true) ?_
      refine jm (.int .i64 (cmpR y z)) ?_
      refine jv (.bool true) (exec_geq _ _ _ _ (by rfl) .i64 (cmpR y z) 0 (by rfl) (by rfl) true (decide_eq_true (by omega))) ?_
      refine jm (.bool true) ?_
      refine jm (.bool true) ?_
      refine jm (.int .i64 (cmpR x z)) ?_
      refine jv (.bool false) (exec_lss _ _ _ _ (by rfl) .i64 (cmpR x z) 0 (by rfl) (by rfl) false (decide_eq_false (by omega))) ?_
      refine jm (.bool false) ?_
      refine jm (.bool false) ?_
      exact lx_nil fun X hX _ => share_nil ⟨⟨rfl, trivial⟩, hX⟩
    · have h6 := cmpR_gt.2 h8
      have h9 : x ≠ y := by rintro rfl; exact Rat.lt_irrefl h8
      clear h8
      refine lx_plain [] (lasts_nil) ?_
      simp only [iX, Nat.reduceAdd]
      refine jm (.int .i64 (cmpR x y)) ?_
      refine jv (.bool false) (exec_lss _ _ _ _ (by rfl) .i64 (cmpR x y) (-1) (by rfl) (by rfl) false (decide_eq_false (by omega))) ?_
      refine jm (.bool false) ?_
      refine jm (.int .i64 (cmpR x y)) ?_
      refine jv (.bool false) (exec_gtr _ _ _ _ (by rfl) .i64 (cmpR x y) 1 (by rfl) (by rfl) false (decide_eq_false (by omega))) ?_
      refine jm (.bool false) ?_
      refine jm (.bool false) ?_
      refine ja hB1 Tryd.underlying26 (by rfl) info_rat ?_
      refine ja hB0 Tryd.underlying26 (by rfl) info_rat ?_
      refine jc (.int .i64 (cmpR y x)) (fun X hX hF => rcmpG (rN y) (rP y) (rD y) (rN x) (rP x) (rD x) (rq_rb y) (rq_rb x) X (tzR LB1 (by omega)) (tzR LB0 (by omega))) ?_
      refine jm (.int .i64 (cmpR x y)) ?_
      refine jv (.int .i64 (-(cmpR x y))) (exec_neg _ _ (by rfl) (cmpR x y) (-(cmpR x y)) (by rfl) rfl (by omega) (by omega)) ?_
      refine jv (.bool false) (exec_nei _ _ _ _ (by rfl) .i64 (cmpR y x) (-(cmpR x y)) (by rfl) (by rfl) false (by rw [decide_eq_true (by omega)]; rfl)) ?_
      refine jm (.bool false) ?_
      refine jm (.bool false) ?_
      refine jm (.int .i64 (cmpR x y)) ?_
      refine jv (.bool false) (exec_eqi _ _ _ _ (by rfl) .i64 (cmpR x y) 0 (by rfl) (by rfl) false (decide_eq_false (by omega))) ?_
      refine ja hB0 Tryd.underlying26 (by rfl) info_rat ?_
      refine ja hB1 Tryd.underlying26 (by rfl) info_rat ?_
      refine jv (.bool false) (exec_eqr _ _ (by rfl) (rN x) (rP x) (rD x) (rN y) (rP y) (rD y) (by rfl) (by rfl) false (rb_eqf h9)) ?_
      refine jm (.bool false) ?_
      refine jm (.bool false) ?_
      refine jm (.bool false) ?_
      refine jm (.int .i64 (cmpR x y)) ?_
      refine jv (.bool false) (exec_leq _ _ _ _ (by rfl) .i64 (cmpR x y) 0 (by rfl) (by rfl) false (decide_eq_false (by omega))) ?_
      refine jm (.bool false) ?_
      refine js ?_
      refine js ?_
      refine jm (.bool false) ?_
      refine jm (.bool false) ?_
      refine js ?_
      refine js ?_
      refine jm (.bool false) ?_
      refine jm (.bool false) ?_
      refine jm (.bool false) ?_
      refine jm (.int .i64 (cmpR x y)) ?_
      refine jv (.bool true) (exec_geq _ _ _ _ (by rfl) .i64 (cmpR x y) 0 (by rfl) (by rfl) true (decide_eq_true (by omega))) ?_
      refine jm (.bool true) ?_
      refine jm (.int .i64 (cmpR y z)) ?_
      refine jv (.bool false) (exec_geq _ _ _ _ (by rfl) .i64 (cmpR y z) 0 (by rfl) (by rfl) false (decide_eq_false (by omega))) ?_
      refine jm (.bool false) ?_
      refine jm (.bool false) ?_
      refine js ?_
      refine js ?_
      refine jm (.bool false) ?_
      refine jm (.bool false) ?_
      exact lx_nil fun X hX _ => share_nil ⟨⟨rfl, trivial⟩, hX⟩
    · have h6 := cmpR_gt.2 h8
      have h9 : x ≠ y := by rintro rfl; exact Rat.lt_irrefl h8
      clear h8
      refine lx_plain [] (lasts_nil) ?_
      simp only [iX, Nat.reduceAdd]
      refine jm (.int .i64 (cmpR x y)) ?_
      refine jv (.bool false) (exec_lss _ _ _ _ (by rfl) .i64 (cmpR x y) (-1) (by rfl) (by rfl) false (decide_eq_false (by omega))) ?_
      refine jm (.bool false) ?_
      refine jm (.int .i64 (cmpR x y)) ?_
      refine jv (.bool false) (exec_gtr _ _ _ _ (by rfl) .i64 (cmpR x y) 1 (by rfl) (by rfl) false (decide_eq_false (by omega))) ?_
      refine jm (.bool false) ?_
      refine jm (.bool false) ?_
      refine ja hB1 Tryd.underlying26 (by rfl) info_rat ?_
      refine ja hB0 Tryd.underlying26 (by rfl) info_rat ?_
      refine jc (.int .i64 (cmpR y x)) (fun X hX hF => rcmpG (rN y) (rP y) (rD y) (rN x) (rP x) (rD x) (rq_rb y) (rq_rb x) X (tzR LB1 (by omega)) (tzR LB0 (by omega))) ?_
      refine jm (.int .i64 (cmpR x y)) ?_
      refine jv (.int .i64 (-(cmpR x y))) (exec_neg _ _ (by rfl) (cmpR x y) (-(cmpR x y)) (by rfl) rfl (by omega) (by omega)) ?_
      refine jv (.bool false) (exec_nei _ _ _ _ (by rfl) .i64 (cmpR y x) (-(cmpR x y)) (by rfl) (by rfl) false (by rw [decide_eq_true (by omega)]; rfl)) ?_
      refine jm (.bool false) ?_
      refine jm (.bool false) ?_
      refine jm (.int .i64 (cmpR x y)) ?_
      refine jv (.bool false) (exec_eqi _ _ _ _ (by rfl) .i64 (cmpR x y) 0 (by rfl) (by rfl) false (decide_eq_false (by omega))) ?_
      refine ja hB0 Tryd.underlying26 (by rfl) info_rat ?_
      refine ja hB1 Tryd.underlying26 (by rfl) info_rat ?_
      refine jv (.bool false) (exec_eqr _ _ (by rfl) (rN x) (rP x) (rD x) (rN y) (rP y) (rD y) (by rfl) (by rfl) false (rb_eqf h9)) ?_
      refine jm (.bool false) ?_
      refine jm (.bool false) ?_
      refine jm (.bool false) ?_
      refine jm (.int .i64 (cmpR x y)) ?_
      refine jv (.bool false) (exec_leq _ _ _ _ (by rfl) .i64 (cmpR x y) 0 (by rfl) (by rfl) false (decide_eq_false (by omega))) ?_
      refine jm (.bool false) ?_
      refine js ?_
      refine js ?_
      refine jm (.bool false) ?_
      refine jm (.bool false) ?_
      refine js ?_
      refine js ?_
      refine jm (.bool false) ?_
      refine jm (.bool false) ?_
      refine jm (.bool false) ?_
      refine jm (.int .i64 (cmpR x y)) ?_
      refine jv (.bool true) (exec_geq _ _ _ _ (by rfl) .i64 (cmpR x y) 0 (by rfl) (by rfl) true (decide_eq_true (by omega))) ?_
      refine jm (.bool true) ?_
      refine jm (.int .i64 (cmpR y z)) ?_
      refine jv (.bool true) (exec_geq _ _ _ _ (by rfl) .i64 (cmpR y z) 0 (by rfl) (by rfl) true (decide_eq_true (by omega))) ?_
      refine jm (.bool true) ?_
      refine jm (.bool true) ?_
      refine jm (.int .i64 (cmpR x z)) ?_
      refine jv (.bool false) (exec_lss _ _ _ _ (by rfl) .i64 (cmpR x z) 0 (by rfl) (by rfl) false (decide_eq_false (by omega))) ?_
      refine jm (.bool false) ?_
      refine jm (.bool false) ?_
      exact lx_nil fun X hX _ => share_nil ⟨⟨rfl, trivial⟩, hX⟩
  · intro f3 X3 hk9
    obtain ⟨⟨hk3_0, _⟩, hX3⟩ := hk9
    simp only [patch_cons, patch_nil, pX, hk3_0]
    clear hk3_0
    have hB0 := hB0.bel hX3
    have hB1 := hB1.bel hX3
    have hB2 := hB2.bel hX3
    have hb := bel_next hb hX3
    clear hX3
    go_upto_region 6 with (fail)
    refine lx_plain [] (lasts_nil) ?_
    simp only [iX, Nat.reduceAdd]
    refine ja hB2 Tryd.underlying26 (by rfl) info_rat ?_
    refine jn (.agg #[.bool false, .string ⟨#[]⟩, .string ⟨#[]⟩]) ?_
    refine jc (.int .i64 (cmpR z 0)) (fun X hX hF => rcmpG (rN z) (rP z) (rD z) false [] [] (rq_rb z) rq_zero X (tzR LB2 (by omega)) tz_nil) ?_
    refine jm (.int .i64 (cmpR z 0)) ?_
    refine lx_nil ?_
    intro X4 hX4 hF
    have hB0 := hB0.bel hX4
    have hB1 := hB1.bel hX4
    have hB2 := hB2.bel hX4
    have hb := bel_next hb hX4
    clear hF hX4
    have k1 := cmpR_bd x y
    have k2 := cmpR_bd z 0
    have k3 := cmpR_add x y z
    have k4 := cmpR_mul x y z
    have k5 : -1 ≤ cmpR x y * cmpR z 0 ∧ cmpR x y * cmpR z 0 ≤ 1 := by rw [← k4]; exact cmpR_bd _ _
    go_upto_region 7 with (fail)
    refine lx_region [] (by kernel_rfl) (by kernel_rfl) (lasts_nil) ?_
    simp only [iX, Nat.reduceAdd]
    refine ja hB0 Tryd.underlying26 (by rfl) info_rat ?_
    refine ja hB2 Tryd.underlying26 (by rfl) info_rat ?_
    refine jc (.agg #[.bool (rN (x + z)), .string ⟨(rP (x + z)).toArray⟩, .string ⟨(rD (x + z)).toArray⟩]) (fun X hX hF => addG (rN x) (rP x) (rD x) (rN z) (rP z) (rD z) (rq_rb x) (rq_rb z) X (tzR LB0 (by omega)) (tzR LB2 (by omega))) ?_
    refine ja hB1 Tryd.underlying26 (by rfl) info_rat ?_
    refine ja hB2 Tryd.underlying26 (by rfl) info_rat ?_
    refine jc (.agg #[.bool (rN (y + z)), .string ⟨(rP (y + z)).toArray⟩, .string ⟨(rD (y + z)).toArray⟩]) (fun X hX hF => addG (rN y) (rP y) (rD y) (rN z) (rP z) (rD z) (rq_rb y) (rq_rb z) X (tzR LB1 (by omega)) (tzR LB2 (by omega))) ?_
    refine jc (.int .i64 (cmpR (x + z) (y + z))) (fun X hX hF => rcmpG (rN (x + z)) (rP (x + z)) (rD (x + z)) (rN (y + z)) (rP (y + z)) (rD (y + z)) (rq_rb (x + z)) (rq_rb (y + z)) X (tzR LB3 (by omega)) (tzR LB4 (by omega))) ?_
    refine jm (.int .i64 (cmpR x y)) ?_
    refine jv (.bool false) (exec_nei _ _ _ _ (by rfl) .i64 (cmpR (x + z) (y + z)) (cmpR x y) (by rfl) (by rfl) false (by rw [decide_eq_true (by omega)]; rfl)) ?_
    refine jm (.bool false) ?_
    refine ja hB0 Tryd.underlying26 (by rfl) info_rat ?_
    refine ja hB2 Tryd.underlying26 (by rfl) info_rat ?_
    refine jc (.agg #[.bool (rN (x * z)), .string ⟨(rP (x * z)).toArray⟩, .string ⟨(rD (x * z)).toArray⟩]) (fun X hX hF => mulG (rN x) (rP x) (rD x) (rN z) (rP z) (rD z) (rq_rb x) (rq_rb z) X (tzR LB0 (by omega)) (tzR LB2 (by omega))) ?_
    refine ja hB1 Tryd.underlying26 (by rfl) info_rat ?_
    refine ja hB2 Tryd.underlying26 (by rfl) info_rat ?_
    refine jc (.agg #[.bool (rN (y * z)), .string ⟨(rP (y * z)).toArray⟩, .string ⟨(rD (y * z)).toArray⟩]) (fun X hX hF => mulG (rN y) (rP y) (rD y) (rN z) (rP z) (rD z) (rq_rb y) (rq_rb z) X (tzR LB1 (by omega)) (tzR LB2 (by omega))) ?_
    refine jc (.int .i64 (cmpR (x * z) (y * z))) (fun X hX hF => rcmpG (rN (x * z)) (rP (x * z)) (rD (x * z)) (rN (y * z)) (rP (y * z)) (rD (y * z)) (rq_rb (x * z)) (rq_rb (y * z)) X (tzR LB5 (by omega)) (tzR LB6 (by omega))) ?_
    refine jm (.int .i64 (cmpR x y)) ?_
    refine jm (.int .i64 (cmpR z 0)) ?_
    refine jv (.int .i64 ((cmpR x y) * (cmpR z 0))) (exec_mul _ _ _ _ (by rfl) (cmpR x y) (cmpR z 0) ((cmpR x y) * (cmpR z 0)) (by rfl) (by rfl) (by omega) (by omega) (by omega)) ?_
    refine jv (.bool false) (exec_nei _ _ _ _ (by rfl) .i64 (cmpR (x * z) (y * z)) ((cmpR x y) * (cmpR z 0)) (by rfl) (by rfl) false (by rw [decide_eq_true (by omega)]; rfl)) ?_
    refine jm (.bool false) ?_
    refine lx_nil ?_
    intro X5 hX5 hF
    have hB0 := hB0.bel hX5
    have hB1 := hB1.bel hX5
    have hB2 := hB2.bel hX5
    have hb := bel_next hb hX5
    clear hF hX5
    clear k1 k2 k3 k4 k5
    go_upto_region 9 with (fail)
    refine lh_region (fun i => if i = 6 then ⟨26, [.bool false, .string ⟨#[]⟩, .string ⟨#[]⟩], [.bool (rN (minR x y)), .string ⟨(rP (minR x y)).toArray⟩, .string ⟨(rD (minR x y)).toArray⟩]⟩ else if i = 7 then ⟨26, [.bool false, .string ⟨#[]⟩, .string ⟨#[]⟩], [.bool (rN (maxR x y)), .string ⟨(rP (maxR x y)).toArray⟩, .string ⟨(rD (maxR x y)).toArray⟩]⟩ else ⟨0, [], []⟩) [none, none, none, none, none, none, some (Gat _ _ 6), some (Gat _ _ 7), some (fun u X => Gst _ 6 undef X), some (fun u X => Gst _ 7 undef X)] (by kernel_rfl) (by kernel_rfl) (lh_none (lh_none (lh_none (lh_none (lh_none (lh_none (lh_some (Gat.lasts) (lh_some (Gat.lasts) (lh_some ((fun _ _ _ h hR => Gst.lasts _ _ _ h hR)) (lh_some ((fun _ _ _ h hR => Gst.lasts _ _ _ h hR)) (lh_nil))))))))))) ?_
    simp only [iG, Nat.reduceAdd]
    refine ka hB0 Tryd.underlying26 (by rfl) info_rat ?_
    refine ka hB1 Tryd.underlying26 (by rfl) info_rat ?_
    refine kc (.agg #[.bool (rN (minR x y)), .string ⟨(rP (minR x y)).toArray⟩, .string ⟨(rD (minR x y)).toArray⟩]) (fun X hX hF => minG (rN x) (rP x) (rD x) (rN y) (rP y) (rD y) (rq_rb x) (rq_rb y) X (tzR LB0 (by omega)) (tzR LB1 (by omega))) ?_
    refine ka hB0 Tryd.underlying26 (by rfl) info_rat ?_
    refine ka hB1 Tryd.underlying26 (by rfl) info_rat ?_
    refine kc (.agg #[.bool (rN (maxR x y)), .string ⟨(rP (maxR x y)).toArray⟩, .string ⟨(rD (maxR x y)).toArray⟩]) (fun X hX hF => maxG (rN x) (rP x) (rD x) (rN y) (rP y) (rD y) (rq_rb x) (rq_rb y) X (tzR LB0 (by omega)) (tzR LB1 (by omega))) ?_
    refine kl (fun X => exec_alloc_rat (by rfl) X) ?_
    intro v11
    refine kl (fun X => exec_alloc_rat (by rfl) X) ?_
    intro v12
    refine kt 6 6 v11 (List.mem_cons_of_mem _ List.mem_cons_self) info_rat ?_
    refine kt 7 7 v12 (List.mem_cons_of_mem _ List.mem_cons_self) info_rat ?_
    refine kz ?_
    intro X6 s9 hX6 hF
    obtain ⟨g11, e11, hge11, hD11, tg11⟩ := Gst.at (hF _ _ (List.mem_cons_of_mem _ (List.mem_cons_of_mem _ (List.mem_cons_of_mem _ List.mem_cons_self)))) (hF _ _ (List.mem_cons_of_mem _ List.mem_cons_self))
    subst e11
    obtain ⟨g12, e12, hge12, hD12, tg12⟩ := Gst.at (hF _ _ (List.mem_cons_of_mem _ (List.mem_cons_of_mem _ List.mem_cons_self))) (hF _ _ List.mem_cons_self)
    subst e12
    have hne11_12 := gh_ne tg11 tg12 (by decide)
    have hB0 := hB0.bel hX6
    have hB1 := hB1.bel hX6
    have hB2 := hB2.bel hX6
    have hgs11 := hge11
    have hgs12 := hge12
    have hb := bel_next hb hX6
    clear hF tg11 tg12 s9 hX6
    change Blk X6 g11 26 [.bool (rN (minR x y)), .string ⟨(rP (minR x y)).toArray⟩, .string ⟨(rD (minR x y)).toArray⟩] at hD11
    change Blk X6 g12 26 [.bool (rN (maxR x y)), .string ⟨(rP (maxR x y)).toArray⟩, .string ⟨(rD (maxR x y)).toArray⟩] at hD12
    go_upto_region 10 with (fail)
    refine share [132, 133, 134, 135, 136, 137, 138, 139, 140, 141, 142, 143, 144, 145, 146, 147, 148, 149, 150, 151, 152, 153, 154, 155, 156, 157] (fun f9 X => (f9 157 = .bool false ∧ True) ∧ Since X6 X) ?_ ?_
    · rcases Int.lt_or_le 0 (cmpR x y) with h9 | h9
      · refine lx_plain [] (lasts_nil) ?_
        simp only [iX, Nat.reduceAdd]
        refine jm (.int .i64 (cmpR x y)) ?_
        refine jv (.bool false) (exec_leq _ _ _ _ (by rfl) .i64 (cmpR x y) 0 (by rfl) (by rfl) false (decide_eq_false (by omega))) ?_
        refine jm (.bool false) ?_
        refine js ?_
        refine js ?_
        refine js ?_
        refine js ?_
        refine js ?_
        refine js ?_
        refine js ?_
        refine js ?_
        refine jm (.bool false) ?_
        refine jm (.bool false) ?_
        refine jm (.int .i64 (cmpR x y)) ?_
        refine jv (.bool true) (exec_gtr _ _ _ _ (by rfl) .i64 (cmpR x y) 0 (by rfl) (by rfl) true (decide_eq_true (by omega))) ?_
        refine jm (.bool true) ?_
        refine ja hD11 Tryd.underlying26 (by rfl) info_rat ?_
        refine ja hB1 Tryd.underlying26 (by rfl) info_rat ?_
        refine jv (.bool false) (exec_ner _ _ (by rfl) (rN (minR x y)) (rP (minR x y)) (rD (minR x y)) (rN y) (rP y) (rD y) (by rfl) (by rfl) false (rb_eqt (minR_gt h9))) ?_
        refine jm (.bool false) ?_
        refine ja hD12 Tryd.underlying26 (by rfl) info_rat ?_
        refine ja hB0 Tryd.underlying26 (by rfl) info_rat ?_
        refine jv (.bool false) (exec_ner _ _ (by rfl) (rN (maxR x y)) (rP (maxR x y)) (rD (maxR x y)) (rN x) (rP x) (rD x) (by rfl) (by rfl) false (rb_eqt (maxR_gt h9))) ?_
        refine jm (.bool false) ?_
        refine jm (.bool false) ?_
        refine jm (.bool false) ?_
        exact lx_nil fun X hX _ => share_nil ⟨⟨rfl, trivial⟩, hX⟩
      · refine lx_plain [] (lasts_nil) ?_
        simp only [iX, Nat.reduceAdd]
        refine jm (.int .i64 (cmpR x y)) ?_
        refine jv (.bool true) (exec_leq _ _ _ _ (by rfl) .i64 (cmpR x y) 0 (by rfl) (by rfl) true (decide_eq_true (by omega))) ?_
        refine jm (.bool true) ?_
        refine ja hD11 Tryd.underlying26 (by rfl) info_rat ?_
        refine ja hB0 Tryd.underlying26 (by rfl) info_rat ?_
        refine jv (.bool false) (exec_ner _ _ (by rfl) (rN (minR x y)) (rP (minR x y)) (rD (minR x y)) (rN x) (rP x) (rD x) (by rfl) (by rfl) false (rb_eqt (minR_le h9))) ?_
        refine jm (.bool false) ?_
        refine ja hD12 Tryd.underlying26 (by rfl) info_rat ?_
        refine ja hB1 Tryd.underlying26 (by rfl) info_rat ?_
        refine jv (.bool false) (exec_ner _ _ (by rfl) (rN (maxR x y)) (rP (maxR x y)) (rD (maxR x y)) (rN y) (rP y) (rD y) (by rfl) (by rfl) false (rb_eqt (maxR_le h9))) ?_
        refine jm (.bool false) ?_
        refine jm (.bool false) ?_
        refine jm (.bool false) ?_
        refine jm (.int .i64 (cmpR x y)) ?_
        refine jv (.bool false) (exec_gtr _ _ _ _ (by rfl) .i64 (cmpR x y) 0 (by rfl) (by rfl) false (decide_eq_false (by omega))) ?_
        refine jm (.bool false) ?_
        refine js ?_
        refine js ?_
        refine js ?_
        refine js ?_
        refine js ?_
        refine js ?_
        refine js ?_
        refine js ?_
        refine jm (.bool false) ?_
        refine jm (.bool false) ?_
        exact lx_nil fun X hX _ => share_nil ⟨⟨rfl, trivial⟩, hX⟩
    · intro f7 X7 hk9
      obtain ⟨⟨hk7_0, _⟩, hX7⟩ := hk9
      simp only [patch_cons, patch_nil, pX, hk7_0]
      clear hk7_0
      have hB0 := hB0.bel hX7
      have hB1 := hB1.bel hX7
      have hB2 := hB2.bel hX7
      have hD11 := hD11.bel hX7
      have hD12 := hD12.bel hX7
      have hb := bel_next hb hX7
      clear hX7
      go_upto_region 12 with (fail)
      refine lx_plain [] (lasts_nil) ?_
      simp only [iX, Nat.reduceAdd]
      refine ja hB0 Tryd.underlying26 (by rfl) info_rat ?_
      refine jc (.tuple #[.int .i64 (floN x), .int .i64 (floE x)]) (fun X hX hF => floG (rN x) (rP x) (rD x) (rq_rb x) X (tzR LB0 (by omega))) ?_
      refine jm (.tuple #[.int .i64 (floN x), .int .i64 (floE x)]) ?_
      refine jm (.int .i64 (floN x)) ?_
      refine jm (.int .i64 (floE x)) ?_
      refine jm (.int .i64 (floN x)) ?_
      refine jm (.int .i64 (floE x)) ?_
      refine lx_nil ?_
      intro X8 hX8 hF
      have hB0 := hB0.bel hX8
      have hB1 := hB1.bel hX8
      have hB2 := hB2.bel hX8
      have hD11 := hD11.bel hX8
      have hD12 := hD12.bel hX8
      have hb := bel_next hb hX8
      clear hF hX8
      go_upto_region 13 with (fail)
      refine lx_plain [] (lasts_nil) ?_
      simp only [iX, Nat.reduceAdd]
      refine ja hB0 Tryd.underlying26 (by rfl) info_rat ?_
      refine jc (.tuple #[.int .i64 (-floN (-x)), .int .i64 (floE (-x))]) (fun X hX hF => ceiG (rN x) (rP x) (rD x) (rq_rb x) X (tzR LB0 (by omega))) ?_
      refine jm (.tuple #[.int .i64 (-floN (-x)), .int .i64 (floE (-x))]) ?_
      refine jm (.int .i64 (-floN (-x))) ?_
      refine jm (.int .i64 (floE (-x))) ?_
      refine jm (.int .i64 (-floN (-x))) ?_
      refine jm (.int .i64 (floE (-x))) ?_
      refine lx_nil ?_
      intro X9 hX9 hF
      have hB0 := hB0.bel hX9
      have hB1 := hB1.bel hX9
      have hB2 := hB2.bel hX9
      have hD11 := hD11.bel hX9
      have hD12 := hD12.bel hX9
      have hb := bel_next hb hX9
      clear hF hX9
      have kb := floN_bd x
      have kb2 := floN_bd (-x)
      have HFB : Hid (∀ u : Rat, floE u = 0 ∨ floE u = 3) := fun u => (floE_cases u).imp (fun h => h.1) (fun h => h.1)
      go_upto_region 14 with (fail)
      refine share [168, 169, 170, 171, 172, 173, 174, 175, 176, 177, 178, 179, 180, 181, 182, 183, 184, 185] (fun f9 X => (f9 185 = .bool false ∧ True) ∧ Since X9 X) ?_ ?_
      · rcases floE_cases x with ⟨h6, h7, -⟩ | ⟨h6, h7⟩
        · have k1 : cmpR (ri (floN x)) x ≤ 0 := cmpR_le.2 (by unfold ri; rw [h7]; exact flr_le x)
          have k2 : cmpR (x - ri (floN x)) (ri 1) < 0 := by
            have h5 := lt_flr x
            have h4 : x - ri (floN x) < ri 1 := by unfold ri; rw [h7]; grind
            have h3 := cmpR_lt.2 h4
            omega
          clear h7
          refine lx_region [] (by kernel_rfl) (by kernel_rfl) (lasts_nil) ?_
          simp only [iX, Nat.reduceAdd]
          refine jm (.int .i64 (floE x)) ?_
          refine jv (.bool true) (exec_eqi _ _ _ _ (by rfl) .i64 (floE x) 0 (by rfl) (by rfl) true (decide_eq_true (by omega))) ?_
          refine jm (.bool true) ?_
          refine jm (.int .i64 (floN x)) ?_
          refine jc (.agg #[.bool (rN (ri (floN x))), .string ⟨(rP (ri (floN x))).toArray⟩, .string ⟨(rD (ri (floN x))).toArray⟩]) (fun X hX hF => rintQ (floN x) X HIN.out) ?_
          refine ja hB0 Tryd.underlying26 (by rfl) info_rat ?_
          refine jc (.int .i64 (cmpR (ri (floN x)) x)) (fun X hX hF => rcmpG (rN (ri (floN x))) (rP (ri (floN x))) (rD (ri (floN x))) (rN x) (rP x) (rD x) (rq_rb (ri (floN x))) (rq_rb x) X (tzR LB7 (by omega)) (tzR LB0 (by omega))) ?_
          refine jv (.bool false) (exec_gtr _ _ _ _ (by rfl) .i64 (cmpR (ri (floN x)) x) 0 (by rfl) (by rfl) false (decide_eq_false (by omega))) ?_
          refine jm (.bool false) ?_
          refine ja hB0 Tryd.underlying26 (by rfl) info_rat ?_
          refine jm (.int .i64 (floN x)) ?_
          refine jc (.agg #[.bool (rN (ri (floN x))), .string ⟨(rP (ri (floN x))).toArray⟩, .string ⟨(rD (ri (floN x))).toArray⟩]) (fun X hX hF => rintQ (floN x) X HIN.out) ?_
          refine jc (.agg #[.bool (rN (x - (ri (floN x)))), .string ⟨(rP (x - (ri (floN x)))).toArray⟩, .string ⟨(rD (x - (ri (floN x)))).toArray⟩]) (fun X hX hF => subG (rN x) (rP x) (rD x) (rN (ri (floN x))) (rP (ri (floN x))) (rD (ri (floN x))) (rq_rb x) (rq_rb (ri (floN x))) X (tzR LB0 (by omega)) (tzR LB7 (by omega))) ?_
          refine jc (.agg #[.bool (rN (ri 1)), .string ⟨(rP (ri 1)).toArray⟩, .string ⟨(rD (ri 1)).toArray⟩]) (fun X hX hF => rintQ (1) X (by decide)) ?_
          refine jc (.int .i64 (cmpR (x - (ri (floN x))) (ri 1))) (fun X hX hF => rcmpG (rN (x - (ri (floN x)))) (rP (x - (ri (floN x)))) (rD (x - (ri (floN x)))) (rN (ri 1)) (rP (ri 1)) (rD (ri 1)) (rq_rb (x - (ri (floN x)))) (rq_rb (ri 1)) X (tzR LB8 (by omega)) (tzR LB9 (by omega))) ?_
          refine jv (.bool false) (exec_geq _ _ _ _ (by rfl) .i64 (cmpR (x - (ri (floN x))) (ri 1)) 0 (by rfl) (by rfl) false (decide_eq_false (by omega))) ?_
          refine jm (.bool false) ?_
          refine jm (.bool false) ?_
          exact lx_nil fun X hX _ => share_nil ⟨⟨rfl, trivial⟩, hX⟩
        · clear h7
          refine lx_region [] (by kernel_rfl) (by kernel_rfl) (lasts_nil) ?_
          simp only [iX, Nat.reduceAdd]
          refine jm (.int .i64 (floE x)) ?_
          refine jv (.bool false) (exec_eqi _ _ _ _ (by rfl) .i64 (floE x) 0 (by rfl) (by rfl) false (decide_eq_false (by omega))) ?_
          refine jm (.bool false) ?_
          refine js ?_
          refine js ?_
          refine js ?_
          refine js ?_
          refine js ?_
          refine js ?_
          refine js ?_
          refine js ?_
          refine js ?_
          refine js ?_
          refine js ?_
          refine js ?_
          refine js ?_
          refine js ?_
          refine jm (.bool false) ?_
          exact lx_nil fun X hX _ => share_nil ⟨⟨rfl, trivial⟩, hX⟩
      · intro f10 X10 hk9
        obtain ⟨⟨hk10_0, _⟩, hX10⟩ := hk9
        simp only [patch_cons, patch_nil, pX, hk10_0]
        clear hk10_0
        have hB0 := hB0.bel hX10
        have hB1 := hB1.bel hX10
        have hB2 := hB2.bel hX10
        have hD11 := hD11.bel hX10
        have hD12 := hD12.bel hX10
        have hb := bel_next hb hX10
        clear hX10
        rcases ways4 x with ⟨h6, h5, k8, k1, HQ⟩ | ⟨h6, h5, k8, k1, HQ⟩ | ⟨h6, h5⟩ | h6
        · go_upto_region 16 with (fail)
          refine lx_region [] (by kernel_rfl) (by kernel_rfl) (lasts_nil) ?_
          simp only [iX, Nat.reduceAdd]
          refine jc (.bool true) (fun X hX hF => sanityC X) ?_
          refine jm (.bool true) ?_
          refine jm (.int .i64 (floE x)) ?_
          refine jv (.bool false) (exec_nei _ _ _ _ (by rfl) .i64 (floE x) 0 (by rfl) (by rfl) false (by rw [decide_eq_true (by omega)]; rfl)) ?_
          refine jm (.bool false) ?_
          refine jm (.int .i64 (floE (-x))) ?_
          refine jv (.bool false) (exec_nei _ _ _ _ (by rfl) .i64 (floE (-x)) 0 (by rfl) (by rfl) false (by rw [decide_eq_true (by omega)]; rfl)) ?_
          refine jm (.bool false) ?_
          refine jm (.bool false) ?_
          refine jm (.int .i64 (-floN (-x))) ?_
          refine jm (.int .i64 (floN x)) ?_
          refine jv (.int .i64 (-floN (-x) - floN x)) (exec_sub _ _ _ _ (by rfl) (-floN (-x)) (floN x) (-floN (-x) - floN x) (by rfl) (by rfl) (by omega) (by omega) (by omega)) ?_
          refine jv (.bool true) (exec_eqi _ _ _ _ (by rfl) .i64 (-floN (-x) - floN x) 0 (by rfl) (by rfl) true (decide_eq_true (by omega))) ?_
          refine jm (.bool true) ?_
          refine jm (.int .i64 (floN x)) ?_
          refine jc (.agg #[.bool (rN (ri (floN x))), .string ⟨(rP (ri (floN x))).toArray⟩, .string ⟨(rD (ri (floN x))).toArray⟩]) (fun X hX hF => rintQ (floN x) X HIN.out) ?_
          refine ja hB0 Tryd.underlying26 (by rfl) info_rat ?_
          refine jv (.bool true) (exec_eqr _ _ (by rfl) (rN (ri (floN x))) (rP (ri (floN x))) (rD (ri (floN x))) (rN x) (rP x) (rD x) (by rfl) (by rfl) true (rb_eqt HQ.out)) ?_
          refine jm (.bool true) ?_
          refine jm (.bool true) ?_
          refine jm (.bool true) ?_
          refine js ?_
          refine js ?_
          refine js ?_
          refine js ?_
          refine js ?_
          refine js ?_
          refine js ?_
          refine js ?_
          refine js ?_
          refine js ?_
          refine jm (.bool true) ?_
          refine jm (.bool true) ?_
          refine jm (.bool true) ?_
          refine lx_nil ?_
          intro X11 hX11 hF
          have hB0 := hB0.bel hX11
          have hB1 := hB1.bel hX11
          have hB2 := hB2.bel hX11
          have hD11 := hD11.bel hX11
          have hD12 := hD12.bel hX11
          have hb := bel_next hb hX11
          clear hF hX11
          go_wp2
          go_ret
          exact ⟨rfl, hb⟩
        · go_upto_region 16 with (fail)
          refine lx_region [] (by kernel_rfl) (by kernel_rfl) (lasts_nil) ?_
          simp only [iX, Nat.reduceAdd]
          refine jc (.bool true) (fun X hX hF => sanityC X) ?_
          refine jm (.bool true) ?_
          refine jm (.int .i64 (floE x)) ?_
          refine jv (.bool false) (exec_nei _ _ _ _ (by rfl) .i64 (floE x) 0 (by rfl) (by rfl) false (by rw [decide_eq_true (by omega)]; rfl)) ?_
          refine jm (.bool false) ?_
          refine jm (.int .i64 (floE (-x))) ?_
          refine jv (.bool false) (exec_nei _ _ _ _ (by rfl) .i64 (floE (-x)) 0 (by rfl) (by rfl) false (by rw [decide_eq_true (by omega)]; rfl)) ?_
          refine jm (.bool false) ?_
          refine jm (.bool false) ?_
          refine jm (.int .i64 (-floN (-x))) ?_
          refine jm (.int .i64 (floN x)) ?_
          refine jv (.int .i64 (-floN (-x) - floN x)) (exec_sub _ _ _ _ (by rfl) (-floN (-x)) (floN x) (-floN (-x) - floN x) (by rfl) (by rfl) (by omega) (by omega) (by omega)) ?_
          refine jv (.bool false) (exec_eqi _ _ _ _ (by rfl) .i64 (-floN (-x) - floN x) 0 (by rfl) (by rfl) false (decide_eq_false (by omega))) ?_
          refine jm (.bool false) ?_
          refine js ?_
          refine js ?_
          refine js ?_
          refine js ?_
          refine jm (.bool false) ?_
          refine jm (.bool false) ?_
          refine jm (.bool false) ?_
          refine jm (.int .i64 (-floN (-x))) ?_
          refine jm (.int .i64 (floN x)) ?_
          refine jv (.int .i64 (-floN (-x) - floN x)) (exec_sub _ _ _ _ (by rfl) (-floN (-x)) (floN x) (-floN (-x) - floN x) (by rfl) (by rfl) (by omega) (by omega) (by omega)) ?_
          refine jv (.bool true) (exec_eqi _ _ _ _ (by rfl) .i64 (-floN (-x) - floN x) 1 (by rfl) (by rfl) true (decide_eq_true (by omega))) ?_
          refine jm (.bool true) ?_
          refine jm (.int .i64 (floN x)) ?_
          refine jc (.agg #[.bool (rN (ri (floN x))), .string ⟨(rP (ri (floN x))).toArray⟩, .string ⟨(rD (ri (floN x))).toArray⟩]) (fun X hX hF => rintQ (floN x) X HIN.out) ?_
          refine ja hB0 Tryd.underlying26 (by rfl) info_rat ?_
          refine jv (.bool true) (exec_ner _ _ (by rfl) (rN (ri (floN x))) (rP (ri (floN x))) (rD (ri (floN x))) (rN x) (rP x) (rD x) (by rfl) (by rfl) true (rb_eqf HQ.out)) ?_
          refine jm (.bool true) ?_
          refine jm (.bool true) ?_
          refine jm (.bool true) ?_
          refine jm (.bool true) ?_
          refine lx_nil ?_
          intro X11 hX11 hF
          have hB0 := hB0.bel hX11
          have hB1 := hB1.bel hX11
          have hB2 := hB2.bel hX11
          have hD11 := hD11.bel hX11
          have hD12 := hD12.bel hX11
          have hb := bel_next hb hX11
          clear hF hX11
          go_wp2
          go_ret
          exact ⟨rfl, hb⟩
        · go_upto_region 16 with (fail)
          refine lx_region [] (by kernel_rfl) (by kernel_rfl) (lasts_nil) ?_
          simp only [iX, Nat.reduceAdd]
          refine jc (.bool true) (fun X hX hF => sanityC X) ?_
          refine jm (.bool true) ?_
          refine jm (.int .i64 (floE x)) ?_
          refine jv (.bool false) (exec_nei _ _ _ _ (by rfl) .i64 (floE x) 0 (by rfl) (by rfl) false (by rw [decide_eq_true (by omega)]; rfl)) ?_
          refine jm (.bool false) ?_
          refine jm (.int .i64 (floE (-x))) ?_
          refine jv (.bool true) (exec_nei _ _ _ _ (by rfl) .i64 (floE (-x)) 0 (by rfl) (by rfl) true (by rw [decide_eq_false (by omega)]; rfl)) ?_
          refine jm (.bool true) ?_
          refine jm (.bool true) ?_
          refine js ?_
          refine js ?_
          refine js ?_
          refine js ?_
          refine js ?_
          refine js ?_
          refine js ?_
          refine js ?_
          refine js ?_
          refine js ?_
          refine jm (.bool true) ?_
          refine jm (.bool true) ?_
          refine js ?_
          refine js ?_
          refine js ?_
          refine js ?_
          refine js ?_
          refine js ?_
          refine js ?_
          refine js ?_
          refine js ?_
          refine js ?_
          refine jm (.bool true) ?_
          refine jm (.bool true) ?_
          refine jm (.bool true) ?_
          refine lx_nil ?_
          intro X11 hX11 hF
          have hB0 := hB0.bel hX11
          have hB1 := hB1.bel hX11
          have hB2 := hB2.bel hX11
          have hD11 := hD11.bel hX11
          have hD12 := hD12.bel hX11
          have hb := bel_next hb hX11
          clear hF hX11
          go_wp2
          go_ret
          exact ⟨rfl, hb⟩
        · go_upto_region 16 with (fail)
          refine lx_region [] (by kernel_rfl) (by kernel_rfl) (lasts_nil) ?_
          simp only [iX, Nat.reduceAdd]
          refine jc (.bool true) (fun X hX hF => sanityC X) ?_
          refine jm (.bool true) ?_
          refine jm (.int .i64 (floE x)) ?_
          refine jv (.bool true) (exec_nei _ _ _ _ (by rfl) .i64 (floE x) 0 (by rfl) (by rfl) true (by rw [decide_eq_false (by omega)]; rfl)) ?_
          refine jm (.bool true) ?_
          refine js ?_
          refine js ?_
          refine jm (.bool true) ?_
          refine jm (.bool true) ?_
          refine js ?_
          refine js ?_
          refine js ?_
          refine js ?_
          refine js ?_
          refine js ?_
          refine js ?_
          refine js ?_
          refine js ?_
          refine js ?_
          refine jm (.bool true) ?_
          refine jm (.bool true) ?_
          refine js ?_
          refine js ?_
          refine js ?_
          refine js ?_
          refine js ?_
          refine js ?_
          refine js ?_
          refine js ?_
          refine js ?_
          refine js ?_
          refine jm (.bool true) ?_
          refine jm (.bool true) ?_
          refine jm (.bool true) ?_
          refine lx_nil ?_
          intro X11 hX11 hF
          have hB0 := hB0.bel hX11
          have hB1 := hB1.bel hX11
          have hB2 := hB2.bel hX11
          have hD11 := hD11.bel hX11
          have hD12 := hD12.bel hX11
          have hb := bel_next hb hX11
          clear hF hX11
          go_wp2
          go_ret
          exact ⟨rfl, hb⟩

theorem orderW (n : Bool) (p q : List UInt8) (n' : Bool) (p' q' : List UInt8) (n'' : Bool) (p'' q'' : List UInt8) (w : World) : Calls Tryd.prog 5 #[.agg #[.bool n, .string ⟨p.toArray⟩, .string ⟨q.toArray⟩], .agg #[.bool n', .string ⟨p'.toArray⟩, .string ⟨q'.toArray⟩], .agg #[.bool n'', .string ⟨p''.toArray⟩, .string ⟨q''.toArray⟩]] w fun e w' => e = .returned (.bool true) ∧ Since w w' := by
  by_cases t1 : tz p q 25
  · by_cases t2 : tz p' q' 25
    · by_cases t3 : tz p'' q'' 25
      · rcases u1 : vd n p q with _ | _
        · exact order3 n p q n' p' q' n'' p'' q'' w t1 t2 t3 u1
        · rcases u2 : vd n' p' q' with _ | _
          · exact order4 n p q n' p' q' n'' p'' q'' w t1 t2 t3 u1 u2
          · rcases u3 : vd n'' p'' q'' with _ | _
            · exact order5 n p q n' p' q' n'' p'' q'' w t1 t2 t3 u1 u2 u3
            · have s1 := szR_tz rfl (n := n) t1
              have s2 := szR_tz rfl (n := n') t2
              have s3 := szR_tz rfl (n := n'') t3
              obtain ⟨a1, a2, a3, _⟩ := vd_eq u1
              obtain ⟨b1, b2, b3, _⟩ := vd_eq u2
              obtain ⟨c1, c2, c3, _⟩ := vd_eq u3
              generalize rq n p q = x at *
              generalize rq n' p' q' = y at *
              generalize rq n'' p'' q'' = z at *
              subst a1 a2 a3 b1 b2 b3 c1 c2 c3
              exact orderM x y z w s1 t1 s2 t2 s3 t3 (insB_flo x)
      · exact order2 n p q n' p' q' n'' p'' q'' w t1 t2 t3
    · exact order1 n p q n' p' q' n'' p'' q'' w t1 t2
  · exact order0 n p q n' p' q' n'' p'' q'' w t1

end Go.Proofs.YtchhlgcakjjncaaDoor
