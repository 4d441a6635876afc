/-
  law 05: RatTextsComeBack.
-/
import Derived.Test.YtchhlgcakjjncaaDoorL54
set_option linter.unusedSimpArgs false
set_option linter.unusedVariables false
set_option maxRecDepth 100000
set_option maxHeartbeats 1600000
namespace Go.Proofs.YtchhlgcakjjncaaDoor
open Go.RowKit

theorem rtx_length (x : Rat) : (rtx x).length = (if rN x = true then 1 else 0) + ((txt x.num.natAbs).length + (if x.den = 1 then 0 else (txt x.den).length + 1)) := by
  unfold rtx
  rw [List.length_append, List.length_append]
  split <;> split <;> simp
theorem rtx_len {x : Rat} {B : Nat} (h : szR x B) : (rtx x).length ≤ 6 * B + 4 := by
  have h1 := txt_lenB h.1
  have h2 := txt_lenB h.2
  rw [rtx_length]
  split <;> split <;> omega
theorem txt_be (n : Nat) : (be n).length ≤ (txt n).length := by
  have := be_dval9 (pok_txt n)
  rwa [dval_txt] at this
theorem szR_text {y : Rat} {s : List UInt8} (h : rtx y = s) (hl : s.length ≤ 400) : szR y 400 := by
  have h1 := rtx_length y
  rw [h] at h1
  have h2 := txt_be y.num.natAbs
  have h3 := txt_be y.den
  refine ⟨by omega, ?_⟩
  by_cases hd : y.den = 1
  · rw [hd, be_one]
    decide
  · rw [if_neg hd] at h1
    omega
theorem back0 (n : Bool) (p q : List UInt8) (n' : Bool) (p' q' : List UInt8) (s : List UInt8) (w : World) (hs : s.length ≤ 140737488351232) (t1 : ¬ tz p q 40) : Calls Tryd.prog 6 #[.agg #[.bool n, .string ⟨p.toArray⟩, .string ⟨q.toArray⟩], .agg #[.bool n', .string ⟨p'.toArray⟩, .string ⟨q'.toArray⟩], .string ⟨s.toArray⟩] w fun e w' => e = .returned (.bool true) ∧ Since w w' := by
  go_enter Tryd.func6, Tryd.ntmps6
  go_upto_region 1 with (fail)
  obtain ⟨W0, hW0, hB0, hB1, hb⟩ := start2 w 26 26 [.bool n, .string ⟨p.toArray⟩, .string ⟨q.toArray⟩] [.bool n', .string ⟨p'.toArray⟩, .string ⟨q'.toArray⟩]
  rw [← hW0]
  clear hW0
  refine lx_plain [] (lasts_nil) ?_
  simp only [iX, Nat.reduceAdd]
  refine ja hB0 Tryd.underlying26 (by rfl) info_rat ?_
  refine jc (.bool false) (fun X hX hF => (fewQ n p q 40 X).mono fun e X' ⟨h1, h2⟩ => ⟨by rw [h1, few_f t1], h2⟩) ?_
  refine jm (.bool true) ?_
  refine jm (.bool true) ?_
  refine js ?_
  refine js ?_
  refine js ?_
  refine jm (.bool true) ?_
  refine jm (.bool true) ?_
  refine js ?_
  refine js ?_
  refine js ?_
  refine jm (.bool true) ?_
  refine jm (.bool true) ?_
  refine js ?_
  refine js ?_
  refine js ?_
  refine jm (.bool true) ?_
  refine jm (.bool true) ?_
  refine js ?_
  refine js ?_
  refine js ?_
  refine jm (.bool true) ?_
  refine lx_nil ?_
  intro X1 hX1 hF
  have hB0 := hB0.bel hX1
  have hB1 := hB1.bel hX1
  have hb := bel_next hb hX1
  clear hF hX1
  go_upto_region 2 with (fail)
  refine lx_plain [] (lasts_nil) ?_
  simp only [iX, Nat.reduceAdd]
  refine jc (.bool true) (fun X hX hF => sanityC X) ?_
  refine jm (.bool true) ?_
  refine lx_nil ?_
  intro X2 hX2 hF
  have hB0 := hB0.bel hX2
  have hB1 := hB1.bel hX2
  have hb := bel_next hb hX2
  clear hF hX2
  go_wp2
  go_ret
  exact ⟨rfl, hb⟩

theorem back1 (n : Bool) (p q : List UInt8) (n' : Bool) (p' q' : List UInt8) (s : List UInt8) (w : World) (hs : s.length ≤ 140737488351232) (t1 : tz p q 40) (t2 : ¬ tz p' q' 40) : Calls Tryd.prog 6 #[.agg #[.bool n, .string ⟨p.toArray⟩, .string ⟨q.toArray⟩], .agg #[.bool n', .string ⟨p'.toArray⟩, .string ⟨q'.toArray⟩], .string ⟨s.toArray⟩] w fun e w' => e = .returned (.bool true) ∧ Since w w' := by
  go_enter Tryd.func6, Tryd.ntmps6
  go_upto_region 1 with (fail)
  obtain ⟨W0, hW0, hB0, hB1, hb⟩ := start2 w 26 26 [.bool n, .string ⟨p.toArray⟩, .string ⟨q.toArray⟩] [.bool n', .string ⟨p'.toArray⟩, .string ⟨q'.toArray⟩]
  rw [← hW0]
  clear hW0
  refine lx_plain [] (lasts_nil) ?_
  simp only [iX, Nat.reduceAdd]
  refine ja hB0 Tryd.underlying26 (by rfl) info_rat ?_
  refine jc (.bool true) (fun X hX hF => (fewQ n p q 40 X).mono fun e X' ⟨h1, h2⟩ => ⟨by rw [h1, few_t t1], h2⟩) ?_
  refine jm (.bool false) ?_
  refine jm (.bool false) ?_
  refine ja hB1 Tryd.underlying26 (by rfl) info_rat ?_
  refine jc (.bool false) (fun X hX hF => (fewQ n' p' q' 40 X).mono fun e X' ⟨h1, h2⟩ => ⟨by rw [h1, few_f t2], h2⟩) ?_
  refine jm (.bool true) ?_
  refine jm (.bool true) ?_
  refine jm (.bool true) ?_
  refine js ?_
  refine js ?_
  refine js ?_
  refine jm (.bool true) ?_
  refine jm (.bool true) ?_
  refine js ?_
  refine js ?_
  refine js ?_
  refine jm (.bool true) ?_
  refine jm (.bool true) ?_
  refine js ?_
  refine js ?_
  refine js ?_
  refine jm (.bool true) ?_
  refine lx_nil ?_
  intro X1 hX1 hF
  have hB0 := hB0.bel hX1
  have hB1 := hB1.bel hX1
  have hb := bel_next hb hX1
  clear hF hX1
  go_upto_region 2 with (fail)
  refine lx_plain [] (lasts_nil) ?_
  simp only [iX, Nat.reduceAdd]
  refine jc (.bool true) (fun X hX hF => sanityC X) ?_
  refine jm (.bool true) ?_
  refine lx_nil ?_
  intro X2 hX2 hF
  have hB0 := hB0.bel hX2
  have hB1 := hB1.bel hX2
  have hb := bel_next hb hX2
  clear hF hX2
  go_wp2
  go_ret
  exact ⟨rfl, hb⟩

theorem back2 (n : Bool) (p q : List UInt8) (n' : Bool) (p' q' : List UInt8) (s : List UInt8) (w : World) (hs : s.length ≤ 140737488351232) (t1 : tz p q 40) (t2 : tz p' q' 40) (u1 : vd n p q = false) : Calls Tryd.prog 6 #[.agg #[.bool n, .string ⟨p.toArray⟩, .string ⟨q.toArray⟩], .agg #[.bool n', .string ⟨p'.toArray⟩, .string ⟨q'.toArray⟩], .string ⟨s.toArray⟩] w fun e w' => e = .returned (.bool true) ∧ Since w w' := by
  go_enter Tryd.func6, Tryd.ntmps6
  go_upto_region 1 with (fail)
  obtain ⟨W0, hW0, hB0, hB1, hb⟩ := start2 w 26 26 [.bool n, .string ⟨p.toArray⟩, .string ⟨q.toArray⟩] [.bool n', .string ⟨p'.toArray⟩, .string ⟨q'.toArray⟩]
  rw [← hW0]
  clear hW0
  refine lx_plain [] (lasts_nil) ?_
  simp only [iX, Nat.reduceAdd]
  refine ja hB0 Tryd.underlying26 (by rfl) info_rat ?_
  refine jc (.bool true) (fun X hX hF => (fewQ n p q 40 X).mono fun e X' ⟨h1, h2⟩ => ⟨by rw [h1, few_t t1], h2⟩) ?_
  refine jm (.bool false) ?_
  refine jm (.bool false) ?_
  refine ja hB1 Tryd.underlying26 (by rfl) info_rat ?_
  refine jc (.bool true) (fun X hX hF => (fewQ n' p' q' 40 X).mono fun e X' ⟨h1, h2⟩ => ⟨by rw [h1, few_t t2], h2⟩) ?_
  refine jm (.bool false) ?_
  refine jm (.bool false) ?_
  refine jm (.bool false) ?_
  refine ja hB0 Tryd.underlying26 (by rfl) info_rat ?_
  refine jc (.bool false) (fun X hX hF => (rvQ5 n p q X (tz_big t1).1 (tz_big t1).2).mono fun e X' ⟨h1, h2⟩ => ⟨by rw [h1, u1], h2⟩) ?_
  refine jm (.bool true) ?_
  refine jm (.bool true) ?_
  refine jm (.bool true) ?_
  refine js ?_
  refine js ?_
  refine js ?_
  refine jm (.bool true) ?_
  refine jm (.bool true) ?_
  refine js ?_
  refine js ?_
  refine js ?_
  refine jm (.bool true) ?_
  refine lx_nil ?_
  intro X1 hX1 hF
  have hB0 := hB0.bel hX1
  have hB1 := hB1.bel hX1
  have hb := bel_next hb hX1
  clear hF hX1
  go_upto_region 2 with (fail)
  refine lx_plain [] (lasts_nil) ?_
  simp only [iX, Nat.reduceAdd]
  refine jc (.bool true) (fun X hX hF => sanityC X) ?_
  refine jm (.bool true) ?_
  refine lx_nil ?_
  intro X2 hX2 hF
  have hB0 := hB0.bel hX2
  have hB1 := hB1.bel hX2
  have hb := bel_next hb hX2
  clear hF hX2
  go_wp2
  go_ret
  exact ⟨rfl, hb⟩

theorem back3 (n : Bool) (p q : List UInt8) (n' : Bool) (p' q' : List UInt8) (s : List UInt8) (w : World) (hs : s.length ≤ 140737488351232) (t1 : tz p q 40) (t2 : tz p' q' 40) (u1 : vd n p q = true) (u2 : vd n' p' q' = false) : Calls Tryd.prog 6 #[.agg #[.bool n, .string ⟨p.toArray⟩, .string ⟨q.toArray⟩], .agg #[.bool n', .string ⟨p'.toArray⟩, .string ⟨q'.toArray⟩], .string ⟨s.toArray⟩] w fun e w' => e = .returned (.bool true) ∧ Since w w' := by
  go_enter Tryd.func6, Tryd.ntmps6
  go_upto_region 1 with (fail)
  obtain ⟨W0, hW0, hB0, hB1, hb⟩ := start2 w 26 26 [.bool n, .string ⟨p.toArray⟩, .string ⟨q.toArray⟩] [.bool n', .string ⟨p'.toArray⟩, .string ⟨q'.toArray⟩]
  rw [← hW0]
  clear hW0
  refine lx_plain [] (lasts_nil) ?_
  simp only [iX, Nat.reduceAdd]
  refine ja hB0 Tryd.underlying26 (by rfl) info_rat ?_
  refine jc (.bool true) (fun X hX hF => (fewQ n p q 40 X).mono fun e X' ⟨h1, h2⟩ => ⟨by rw [h1, few_t t1], h2⟩) ?_
  refine jm (.bool false) ?_
  refine jm (.bool false) ?_
  refine ja hB1 Tryd.underlying26 (by rfl) info_rat ?_
  refine jc (.bool true) (fun X hX hF => (fewQ n' p' q' 40 X).mono fun e X' ⟨h1, h2⟩ => ⟨by rw [h1, few_t t2], h2⟩) ?_
  refine jm (.bool false) ?_
  refine jm (.bool false) ?_
  refine jm (.bool false) ?_
  refine ja hB0 Tryd.underlying26 (by rfl) info_rat ?_
  refine jc (.bool true) (fun X hX hF => (rvQ5 n p q X (tz_big t1).1 (tz_big t1).2).mono fun e X' ⟨h1, h2⟩ => ⟨by rw [h1, u1], h2⟩) ?_
  refine jm (.bool false) ?_
  refine jm (.bool false) ?_
  refine jm (.bool false) ?_
  refine ja hB1 Tryd.underlying26 (by rfl) info_rat ?_
  refine jc (.bool false) (fun X hX hF => (rvQ5 n' p' q' X (tz_big t2).1 (tz_big t2).2).mono fun e X' ⟨h1, h2⟩ => ⟨by rw [h1, u2], h2⟩) ?_
  refine jm (.bool true) ?_
  refine jm (.bool true) ?_
  refine jm (.bool true) ?_
  refine js ?_
  refine js ?_
  refine js ?_
  refine jm (.bool true) ?_
  refine lx_nil ?_
  intro X1 hX1 hF
  have hB0 := hB0.bel hX1
  have hB1 := hB1.bel hX1
  have hb := bel_next hb hX1
  clear hF hX1
  go_upto_region 2 with (fail)
  refine lx_plain [] (lasts_nil) ?_
  simp only [iX, Nat.reduceAdd]
  refine jc (.bool true) (fun X hX hF => sanityC X) ?_
  refine jm (.bool true) ?_
  refine lx_nil ?_
  intro X2 hX2 hF
  have hB0 := hB0.bel hX2
  have hB1 := hB1.bel hX2
  have hb := bel_next hb hX2
  clear hF hX2
  go_wp2
  go_ret
  exact ⟨rfl, hb⟩

theorem back4 (n : Bool) (p q : List UInt8) (n' : Bool) (p' q' : List UInt8) (s : List UInt8) (w : World) (hs : s.length ≤ 140737488351232) (t1 : tz p q 40) (t2 : tz p' q' 40) (u1 : vd n p q = true) (u2 : vd n' p' q' = true) (hs1 : 400 < s.length) : Calls Tryd.prog 6 #[.agg #[.bool n, .string ⟨p.toArray⟩, .string ⟨q.toArray⟩], .agg #[.bool n', .string ⟨p'.toArray⟩, .string ⟨q'.toArray⟩], .string ⟨s.toArray⟩] w fun e w' => e = .returned (.bool true) ∧ Since w w' := by
  go_enter Tryd.func6, Tryd.ntmps6
  go_upto_region 1 with (fail)
  obtain ⟨W0, hW0, hB0, hB1, hb⟩ := start2 w 26 26 [.bool n, .string ⟨p.toArray⟩, .string ⟨q.toArray⟩] [.bool n', .string ⟨p'.toArray⟩, .string ⟨q'.toArray⟩]
  rw [← hW0]
  clear hW0
  refine lx_plain [] (lasts_nil) ?_
  simp only [iX, Nat.reduceAdd]
  refine ja hB0 Tryd.underlying26 (by rfl) info_rat ?_
  refine jc (.bool true) (fun X hX hF => (fewQ n p q 40 X).mono fun e X' ⟨h1, h2⟩ => ⟨by rw [h1, few_t t1], h2⟩) ?_
  refine jm (.bool false) ?_
  refine jm (.bool false) ?_
  refine ja hB1 Tryd.underlying26 (by rfl) info_rat ?_
  refine jc (.bool true) (fun X hX hF => (fewQ n' p' q' 40 X).mono fun e X' ⟨h1, h2⟩ => ⟨by rw [h1, few_t t2], h2⟩) ?_
  refine jm (.bool false) ?_
  refine jm (.bool false) ?_
  refine jm (.bool false) ?_
  refine ja hB0 Tryd.underlying26 (by rfl) info_rat ?_
  refine jc (.bool true) (fun X hX hF => (rvQ5 n p q X (tz_big t1).1 (tz_big t1).2).mono fun e X' ⟨h1, h2⟩ => ⟨by rw [h1, u1], h2⟩) ?_
  refine jm (.bool false) ?_
  refine jm (.bool false) ?_
  refine jm (.bool false) ?_
  refine ja hB1 Tryd.underlying26 (by rfl) info_rat ?_
  refine jc (.bool true) (fun X hX hF => (rvQ5 n' p' q' X (tz_big t2).1 (tz_big t2).2).mono fun e X' ⟨h1, h2⟩ => ⟨by rw [h1, u2], h2⟩) ?_
  refine jm (.bool false) ?_
  refine jm (.bool false) ?_
  refine jm (.bool false) ?_
  refine jm (.string ⟨s.toArray⟩) ?_
  refine jv (.int .i64 (s.length : Int)) (exec_lens Tryd.underlying9 _ (by rfl) s (by rfl) _ rfl) ?_
  refine jv (.bool true) (exec_gtr _ _ _ _ (by rfl) .i64 (s.length : Int) 400 (by rfl) (by rfl) true (decide_eq_true (by omega))) ?_
  refine jm (.bool true) ?_
  refine lx_nil ?_
  intro X1 hX1 hF
  have hB0 := hB0.bel hX1
  have hB1 := hB1.bel hX1
  have hb := bel_next hb hX1
  clear hF hX1
  go_upto_region 2 with (fail)
  refine lx_plain [] (lasts_nil) ?_
  simp only [iX, Nat.reduceAdd]
  refine jc (.bool true) (fun X hX hF => sanityC X) ?_
  refine jm (.bool true) ?_
  refine lx_nil ?_
  intro X2 hX2 hF
  have hB0 := hB0.bel hX2
  have hB1 := hB1.bel hX2
  have hb := bel_next hb hX2
  clear hF hX2
  go_wp2
  go_ret
  exact ⟨rfl, hb⟩

theorem backM1 (x y : Rat) (s : List UInt8) (w : World) (hs : s.length ≤ 400) (v : Rat) (HV : Hid (rtx v = s)) (sx : szR x 40) (t1 : tz (rP x) (rD x) 40) (sy : szR y 40) (t2 : tz (rP y) (rD y) 40) : Calls Tryd.prog 6 #[.agg #[.bool (rN x), .string ⟨(rP x).toArray⟩, .string ⟨(rD x).toArray⟩], .agg #[.bool (rN y), .string ⟨(rP y).toArray⟩, .string ⟨(rD y).toArray⟩], .string ⟨s.toArray⟩] w fun e w' => e = .returned (.bool true) ∧ Since w w' := by
  have hlx := rtx_len sx
  have sv9 := szR_text HV.out hs
  have LB0 : szR x 40 := ⟨sx.1, sx.2⟩
  have LB1 : szR y 40 := ⟨sy.1, sy.2⟩
  have LB2 : szR v 400 := sv9
  go_enter Tryd.func6, Tryd.ntmps6
  go_upto_region 1 with (fail)
  obtain ⟨W0, hW0, hB0, hB1, hb⟩ := start2 w 26 26 [.bool (rN x), .string ⟨(rP x).toArray⟩, .string ⟨(rD x).toArray⟩] [.bool (rN y), .string ⟨(rP y).toArray⟩, .string ⟨(rD y).toArray⟩]
  rw [← hW0]
  clear hW0
  refine lx_plain [] (lasts_nil) ?_
  simp only [iX, Nat.reduceAdd]
  refine ja hB0 Tryd.underlying26 (by rfl) info_rat ?_
  refine jc (.bool true) (fun X hX hF => (fewQ (rN x) (rP x) (rD x) 40 X).mono fun e X' ⟨h1, h2⟩ => ⟨by rw [h1, few_t t1], h2⟩) ?_
  refine jm (.bool false) ?_
  refine jm (.bool false) ?_
  refine ja hB1 Tryd.underlying26 (by rfl) info_rat ?_
  refine jc (.bool true) (fun X hX hF => (fewQ (rN y) (rP y) (rD y) 40 X).mono fun e X' ⟨h1, h2⟩ => ⟨by rw [h1, few_t t2], h2⟩) ?_
  refine jm (.bool false) ?_
  refine jm (.bool false) ?_
  refine jm (.bool false) ?_
  refine ja hB0 Tryd.underlying26 (by rfl) info_rat ?_
  refine jc (.bool true) (fun X hX hF => (rvQ5 (rN x) (rP x) (rD x) X (tz_big t1).1 (tz_big t1).2).mono fun e X' ⟨h1, h2⟩ => ⟨by rw [h1, vd_rb x], h2⟩) ?_
  refine jm (.bool false) ?_
  refine jm (.bool false) ?_
  refine jm (.bool false) ?_
  refine ja hB1 Tryd.underlying26 (by rfl) info_rat ?_
  refine jc (.bool true) (fun X hX hF => (rvQ5 (rN y) (rP y) (rD y) X (tz_big t2).1 (tz_big t2).2).mono fun e X' ⟨h1, h2⟩ => ⟨by rw [h1, vd_rb y], h2⟩) ?_
  refine jm (.bool false) ?_
  refine jm (.bool false) ?_
  refine jm (.bool false) ?_
  refine jm (.string ⟨s.toArray⟩) ?_
  refine jv (.int .i64 (s.length : Int)) (exec_lens Tryd.underlying9 _ (by rfl) s (by rfl) _ rfl) ?_
  refine jv (.bool false) (exec_gtr _ _ _ _ (by rfl) .i64 (s.length : Int) 400 (by rfl) (by rfl) false (decide_eq_false (by omega))) ?_
  refine jm (.bool false) ?_
  refine lx_nil ?_
  intro X1 hX1 hF
  have hB0 := hB0.bel hX1
  have hB1 := hB1.bel hX1
  have hb := bel_next hb hX1
  clear hF hX1
  go_upto_region 3 with (fail)
  refine lx_plain [] (lasts_nil) ?_
  simp only [iX, Nat.reduceAdd]
  refine ja hB0 Tryd.underlying26 (by rfl) info_rat ?_
  refine jc (.string ⟨(rtx x).toArray⟩) (fun X hX hF => textG (rN x) (rP x) (rD x) (rq_rb x) X (tzR LB0 (by omega))) ?_
  refine jm (.string ⟨(rtx x).toArray⟩) ?_
  refine lx_nil ?_
  intro X2 hX2 hF
  have hB0 := hB0.bel hX2
  have hB1 := hB1.bel hX2
  have hb := bel_next hb hX2
  clear hF hX2
  go_upto_region 4 with (fail)
  refine lx_plain_to 5 [] (lasts_nil) ?_
  simp only [its, List.take, List.drop, Nat.zero_add, Nat.reduceAdd]
  refine jm (.string ⟨(rtx x).toArray⟩) ?_
  refine jc (.tuple #[.agg #[.bool (rN x), .string ⟨(rP x).toArray⟩, .string ⟨(rD x).toArray⟩], .int .i64 0]) (fun X hX hF => (parseQ (rtx x) X (by omega)).mono fun e X' ⟨h1, h2⟩ => ⟨by rw [h1, parR, if_neg (by omega), parQ_some rfl], h2⟩) ?_
  refine jm (.tuple #[.agg #[.bool (rN x), .string ⟨(rP x).toArray⟩, .string ⟨(rD x).toArray⟩], .int .i64 0]) ?_
  refine jm (.agg #[.bool (rN x), .string ⟨(rP x).toArray⟩, .string ⟨(rD x).toArray⟩]) ?_
  refine jm (.int .i64 0) ?_
  refine lx_nil ?_
  intro X3 hX3 hF
  have hB0 := hB0.bel hX3
  have hB1 := hB1.bel hX3
  have hb := bel_next hb hX3
  clear hF hX3
  go_upto_region 5 with (refine op_store_new _ _ _ rfl 26 (.tmp 8) (.tmp 41) (by rfl) (by rfl) #[.bool (rN x), .string ⟨(rP x).toArray⟩, .string ⟨(rD x).toArray⟩] (by rfl) rfl (by intro u hu; simp only [List.mem_cons, List.not_mem_nil, or_false] at hu; rcases hu with rfl | rfl | rfl <;> rfl) info_rat ?_)
  have hD8 : Blk (X3.alloc (.cells #[.bool (rN x), .string ⟨(rP x).toArray⟩, .string ⟨(rD x).toArray⟩] 26)) X3.heap.size 26 [.bool (rN x), .string ⟨(rP x).toArray⟩, .string ⟨(rD x).toArray⟩] := Blk.new rfl
  have hgs8 := hb.size
  have hlt8x0 := hB0.lt
  have hlt8x1 := hB1.lt
  have hB0 := hB0.bel (since_alloc X3 (.cells #[.bool (rN x), .string ⟨(rP x).toArray⟩, .string ⟨(rD x).toArray⟩] 26))
  have hB1 := hB1.bel (since_alloc X3 (.cells #[.bool (rN x), .string ⟨(rP x).toArray⟩, .string ⟨(rD x).toArray⟩] 26))
  have hb := bel_alloc hb (.cells #[.bool (rN x), .string ⟨(rP x).toArray⟩, .string ⟨(rD x).toArray⟩] 26)
  generalize X3.alloc (.cells #[.bool (rN x), .string ⟨(rP x).toArray⟩, .string ⟨(rD x).toArray⟩] 26) = Y3 at *
  generalize X3.heap.size = g8 at *
  refine lx_plain_to 5 [] (lasts_nil) ?_
  simp only [its, List.take, List.drop, Nat.zero_add, Nat.reduceAdd]
  refine jm (.string ⟨s.toArray⟩) ?_
  refine jc (.tuple #[.agg #[.bool (rN v), .string ⟨(rP v).toArray⟩, .string ⟨(rD v).toArray⟩], .int .i64 0]) (fun X hX hF => (parseQ s X (by omega)).mono fun e X' ⟨h1, h2⟩ => ⟨by rw [h1, parR, if_neg (by omega), parQ_some HV.out], h2⟩) ?_
  refine jm (.tuple #[.agg #[.bool (rN v), .string ⟨(rP v).toArray⟩, .string ⟨(rD v).toArray⟩], .int .i64 0]) ?_
  refine jm (.agg #[.bool (rN v), .string ⟨(rP v).toArray⟩, .string ⟨(rD v).toArray⟩]) ?_
  refine jm (.int .i64 0) ?_
  refine lx_nil ?_
  intro X4 hX4 hF
  have hB0 := hB0.bel hX4
  have hB1 := hB1.bel hX4
  have hD8 := hD8.bel hX4
  have hb := bel_next hb hX4
  clear hF hX4
  go_upto_region 6 with (refine op_store_new _ _ _ rfl 26 (.tmp 10) (.tmp 46) (by rfl) (by rfl) #[.bool (rN v), .string ⟨(rP v).toArray⟩, .string ⟨(rD v).toArray⟩] (by rfl) rfl (by intro u hu; simp only [List.mem_cons, List.not_mem_nil, or_false] at hu; rcases hu with rfl | rfl | rfl <;> rfl) info_rat ?_)
  have hD10 : Blk (X4.alloc (.cells #[.bool (rN v), .string ⟨(rP v).toArray⟩, .string ⟨(rD v).toArray⟩] 26)) X4.heap.size 26 [.bool (rN v), .string ⟨(rP v).toArray⟩, .string ⟨(rD v).toArray⟩] := Blk.new rfl
  have hgs10 := hb.size
  have hlt10x0 := hB0.lt
  have hlt10x1 := hB1.lt
  have hlt10x2 := hD8.lt
  have hB0 := hB0.bel (since_alloc X4 (.cells #[.bool (rN v), .string ⟨(rP v).toArray⟩, .string ⟨(rD v).toArray⟩] 26))
  have hB1 := hB1.bel (since_alloc X4 (.cells #[.bool (rN v), .string ⟨(rP v).toArray⟩, .string ⟨(rD v).toArray⟩] 26))
  have hD8 := hD8.bel (since_alloc X4 (.cells #[.bool (rN v), .string ⟨(rP v).toArray⟩, .string ⟨(rD v).toArray⟩] 26))
  have hb := bel_alloc hb (.cells #[.bool (rN v), .string ⟨(rP v).toArray⟩, .string ⟨(rD v).toArray⟩] 26)
  generalize X4.alloc (.cells #[.bool (rN v), .string ⟨(rP v).toArray⟩, .string ⟨(rD v).toArray⟩] 26) = Y4 at *
  generalize X4.heap.size = g10 at *
  go_upto_region 6 with (fail)
  refine share [48, 49, 50, 51, 52, 53, 54, 55, 56, 57, 58, 59, 60, 61, 62, 63, 64] (fun f9 X => (f9 64 = .bool false ∧ True) ∧ Since Y4 X) ?_ ?_
  · by_cases h9 : x = y
    · have h9 : Hid (x = y) := h9
      refine lx_region [] (by kernel_rfl) (by kernel_rfl) (lasts_nil) ?_
      simp only [iX, Nat.reduceAdd]
      refine jm (.int .i64 0) ?_
      refine jv (.bool false) (exec_nei _ _ _ _ (by rfl) .i64 0 0 (by rfl) (by rfl) false (by rw [decide_eq_true (by omega)]; rfl)) ?_
      refine jm (.bool false) ?_
      refine ja hD8 Tryd.underlying26 (by rfl) info_rat ?_
      refine ja hB0 Tryd.underlying26 (by rfl) info_rat ?_
      refine jv (.bool false) (exec_ner _ _ (by rfl) (rN x) (rP x) (rD x) (rN x) (rP x) (rD x) (by rfl) (by rfl) false (rb_eqt rfl)) ?_
      refine jm (.bool false) ?_
      refine jm (.bool false) ?_
      refine jm (.string ⟨(rtx x).toArray⟩) ?_
      refine ja hB1 Tryd.underlying26 (by rfl) info_rat ?_
      refine jc (.string ⟨(rtx y).toArray⟩) (fun X hX hF => textG (rN y) (rP y) (rD y) (rq_rb y) X (tzR LB1 (by omega))) ?_
      refine jv (.bool true) (exec_eqsB _ _ _ _ (by rfl) (rtx x) (rtx y) (by rfl) (by rfl) true (eqs_t (congrArg rtx h9.out))) ?_
      refine ja hB0 Tryd.underlying26 (by rfl) info_rat ?_
      refine ja hB1 Tryd.underlying26 (by rfl) info_rat ?_
      refine jv (.bool true) (exec_eqr _ _ (by rfl) (rN x) (rP x) (rD x) (rN y) (rP y) (rD y) (by rfl) (by rfl) true (rb_eqt h9.out)) ?_
      refine jm (.bool false) ?_
      refine jm (.bool false) ?_
      exact lx_nil fun X hX _ => share_nil ⟨⟨rfl, trivial⟩, hX⟩
    · refine lx_region [] (by kernel_rfl) (by kernel_rfl) (lasts_nil) ?_
      simp only [iX, Nat.reduceAdd]
      refine jm (.int .i64 0) ?_
      refine jv (.bool false) (exec_nei _ _ _ _ (by rfl) .i64 0 0 (by rfl) (by rfl) false (by rw [decide_eq_true (by omega)]; rfl)) ?_
      refine jm (.bool false) ?_
      refine ja hD8 Tryd.underlying26 (by rfl) info_rat ?_
      refine ja hB0 Tryd.underlying26 (by rfl) info_rat ?_
      refine jv (.bool false) (exec_ner _ _ (by rfl) (rN x) (rP x) (rD x) (rN x) (rP x) (rD x) (by rfl) (by rfl) false (rb_eqt rfl)) ?_
      refine jm (.bool false) ?_
      refine jm (.bool false) ?_
      refine jm (.string ⟨(rtx x).toArray⟩) ?_
      refine ja hB1 Tryd.underlying26 (by rfl) info_rat ?_
      refine jc (.string ⟨(rtx y).toArray⟩) (fun X hX hF => textG (rN y) (rP y) (rD y) (rq_rb y) X (tzR LB1 (by omega))) ?_
      refine jv (.bool false) (exec_eqsB _ _ _ _ (by rfl) (rtx x) (rtx y) (by rfl) (by rfl) false (eqs_f (fun h8 => h9 (rtx_inj h8)))) ?_
      refine ja hB0 Tryd.underlying26 (by rfl) info_rat ?_
      refine ja hB1 Tryd.underlying26 (by rfl) info_rat ?_
      refine jv (.bool false) (exec_eqr _ _ (by rfl) (rN x) (rP x) (rD x) (rN y) (rP y) (rD y) (by rfl) (by rfl) false (rb_eqf h9)) ?_
      refine jm (.bool false) ?_
      refine jm (.bool false) ?_
      exact lx_nil fun X hX _ => share_nil ⟨⟨rfl, trivial⟩, hX⟩
  · intro f5 X5 hk9
    obtain ⟨⟨hk5_0, _⟩, hX5⟩ := hk9
    simp only [patch_cons, patch_nil, pX, hk5_0]
    clear hk5_0
    have hB0 := hB0.bel hX5
    have hB1 := hB1.bel hX5
    have hD8 := hD8.bel hX5
    have hD10 := hD10.bel hX5
    have hb := bel_next hb hX5
    clear hX5
    go_upto_region 8 with (fail)
    refine lx_plain [] (lasts_nil) ?_
    simp only [iX, Nat.reduceAdd]
    refine jm (.int .i64 0) ?_
    refine jv (.bool false) (exec_nei _ _ _ _ (by rfl) .i64 0 0 (by rfl) (by rfl) false (by rw [decide_eq_true (by omega)]; rfl)) ?_
    refine lx_nil ?_
    intro X6 hX6 hF
    have hB0 := hB0.bel hX6
    have hB1 := hB1.bel hX6
    have hD8 := hD8.bel hX6
    have hD10 := hD10.bel hX6
    have hb := bel_next hb hX6
    clear hF hX6
    go_upto_region 10 with (fail)
    refine lx_plain [] (lasts_nil) ?_
    simp only [iX, Nat.reduceAdd]
    refine jc (.bool true) (fun X hX hF => sanityC X) ?_
    refine jm (.bool true) ?_
    refine ja hD10 Tryd.underlying26 (by rfl) info_rat ?_
    refine jc (.string ⟨(rtx v).toArray⟩) (fun X hX hF => textG (rN v) (rP v) (rD v) (rq_rb v) X (tzR LB2 (by omega))) ?_
    refine jm (.string ⟨s.toArray⟩) ?_
    refine jv (.bool true) (exec_eqsB _ _ _ _ (by rfl) (rtx v) s (by rfl) (by rfl) true (eqs_t HV.out)) ?_
    refine jm (.bool true) ?_
    refine jm (.bool true) ?_
    refine ja hD10 Tryd.underlying26 (by rfl) info_rat ?_
    refine jc (.bool true) (fun X hX hF => (validG (rN v) (rP v) (rD v) X (tzR LB2 (by omega))).mono fun e X' ⟨h1, h2⟩ => ⟨by rw [h1, vd_rb v], h2⟩) ?_
    refine jm (.bool true) ?_
    refine jm (.bool true) ?_
    refine lx_nil ?_
    intro X7 hX7 hF
    have hB0 := hB0.bel hX7
    have hB1 := hB1.bel hX7
    have hD8 := hD8.bel hX7
    have hD10 := hD10.bel hX7
    have hb := bel_next hb hX7
    clear hF hX7
    go_wp2
    go_ret
    exact ⟨rfl, hb⟩

theorem backM0 (x y : Rat) (s : List UInt8) (w : World) (hs : s.length ≤ 400) (HV : Hid (∀ v, rtx v ≠ s)) (sx : szR x 40) (t1 : tz (rP x) (rD x) 40) (sy : szR y 40) (t2 : tz (rP y) (rD y) 40) : Calls Tryd.prog 6 #[.agg #[.bool (rN x), .string ⟨(rP x).toArray⟩, .string ⟨(rD x).toArray⟩], .agg #[.bool (rN y), .string ⟨(rP y).toArray⟩, .string ⟨(rD y).toArray⟩], .string ⟨s.toArray⟩] w fun e w' => e = .returned (.bool true) ∧ Since w w' := by
  have hlx := rtx_len sx
  have LB0 : szR x 40 := ⟨sx.1, sx.2⟩
  have LB1 : szR y 40 := ⟨sy.1, sy.2⟩
  go_enter Tryd.func6, Tryd.ntmps6
  go_upto_region 1 with (fail)
  obtain ⟨W0, hW0, hB0, hB1, hb⟩ := start2 w 26 26 [.bool (rN x), .string ⟨(rP x).toArray⟩, .string ⟨(rD x).toArray⟩] [.bool (rN y), .string ⟨(rP y).toArray⟩, .string ⟨(rD y).toArray⟩]
  rw [← hW0]
  clear hW0
  refine lx_plain [] (lasts_nil) ?_
  simp only [iX, Nat.reduceAdd]
  refine ja hB0 Tryd.underlying26 (by rfl) info_rat ?_
  refine jc (.bool true) (fun X hX hF => (fewQ (rN x) (rP x) (rD x) 40 X).mono fun e X' ⟨h1, h2⟩ => ⟨by rw [h1, few_t t1], h2⟩) ?_
  refine jm (.bool false) ?_
  refine jm (.bool false) ?_
  refine ja hB1 Tryd.underlying26 (by rfl) info_rat ?_
  refine jc (.bool true) (fun X hX hF => (fewQ (rN y) (rP y) (rD y) 40 X).mono fun e X' ⟨h1, h2⟩ => ⟨by rw [h1, few_t t2], h2⟩) ?_
  refine jm (.bool false) ?_
  refine jm (.bool false) ?_
  refine jm (.bool false) ?_
  refine ja hB0 Tryd.underlying26 (by rfl) info_rat ?_
  refine jc (.bool true) (fun X hX hF => (rvQ5 (rN x) (rP x) (rD x) X (tz_big t1).1 (tz_big t1).2).mono fun e X' ⟨h1, h2⟩ => ⟨by rw [h1, vd_rb x], h2⟩) ?_
  refine jm (.bool false) ?_
  refine jm (.bool false) ?_
  refine jm (.bool false) ?_
  refine ja hB1 Tryd.underlying26 (by rfl) info_rat ?_
  refine jc (.bool true) (fun X hX hF => (rvQ5 (rN y) (rP y) (rD y) X (tz_big t2).1 (tz_big t2).2).mono fun e X' ⟨h1, h2⟩ => ⟨by rw [h1, vd_rb y], h2⟩) ?_
  refine jm (.bool false) ?_
  refine jm (.bool false) ?_
  refine jm (.bool false) ?_
  refine jm (.string ⟨s.toArray⟩) ?_
  refine jv (.int .i64 (s.length : Int)) (exec_lens Tryd.underlying9 _ (by rfl) s (by rfl) _ rfl) ?_
  refine jv (.bool false) (exec_gtr _ _ _ _ (by rfl) .i64 (s.length : Int) 400 (by rfl) (by rfl) false (decide_eq_false (by omega))) ?_
  refine jm (.bool false) ?_
  refine lx_nil ?_
  intro X1 hX1 hF
  have hB0 := hB0.bel hX1
  have hB1 := hB1.bel hX1
  have hb := bel_next hb hX1
  clear hF hX1
  go_upto_region 3 with (fail)
  refine lx_plain [] (lasts_nil) ?_
  simp only [iX, Nat.reduceAdd]
  refine ja hB0 Tryd.underlying26 (by rfl) info_rat ?_
  refine jc (.string ⟨(rtx x).toArray⟩) (fun X hX hF => textG (rN x) (rP x) (rD x) (rq_rb x) X (tzR LB0 (by omega))) ?_
  refine jm (.string ⟨(rtx x).toArray⟩) ?_
  refine lx_nil ?_
  intro X2 hX2 hF
  have hB0 := hB0.bel hX2
  have hB1 := hB1.bel hX2
  have hb := bel_next hb hX2
  clear hF hX2
  go_upto_region 4 with (fail)
  refine lx_plain_to 5 [] (lasts_nil) ?_
  simp only [its, List.take, List.drop, Nat.zero_add, Nat.reduceAdd]
  refine jm (.string ⟨(rtx x).toArray⟩) ?_
  refine jc (.tuple #[.agg #[.bool (rN x), .string ⟨(rP x).toArray⟩, .string ⟨(rD x).toArray⟩], .int .i64 0]) (fun X hX hF => (parseQ (rtx x) X (by omega)).mono fun e X' ⟨h1, h2⟩ => ⟨by rw [h1, parR, if_neg (by omega), parQ_some rfl], h2⟩) ?_
  refine jm (.tuple #[.agg #[.bool (rN x), .string ⟨(rP x).toArray⟩, .string ⟨(rD x).toArray⟩], .int .i64 0]) ?_
  refine jm (.agg #[.bool (rN x), .string ⟨(rP x).toArray⟩, .string ⟨(rD x).toArray⟩]) ?_
  refine jm (.int .i64 0) ?_
  refine lx_nil ?_
  intro X3 hX3 hF
  have hB0 := hB0.bel hX3
  have hB1 := hB1.bel hX3
  have hb := bel_next hb hX3
  clear hF hX3
  go_upto_region 5 with (refine op_store_new _ _ _ rfl 26 (.tmp 8) (.tmp 41) (by rfl) (by rfl) #[.bool (rN x), .string ⟨(rP x).toArray⟩, .string ⟨(rD x).toArray⟩] (by rfl) rfl (by intro u hu; simp only [List.mem_cons, List.not_mem_nil, or_false] at hu; rcases hu with rfl | rfl | rfl <;> rfl) info_rat ?_)
  have hD8 : Blk (X3.alloc (.cells #[.bool (rN x), .string ⟨(rP x).toArray⟩, .string ⟨(rD x).toArray⟩] 26)) X3.heap.size 26 [.bool (rN x), .string ⟨(rP x).toArray⟩, .string ⟨(rD x).toArray⟩] := Blk.new rfl
  have hgs8 := hb.size
  have hlt8x0 := hB0.lt
  have hlt8x1 := hB1.lt
  have hB0 := hB0.bel (since_alloc X3 (.cells #[.bool (rN x), .string ⟨(rP x).toArray⟩, .string ⟨(rD x).toArray⟩] 26))
  have hB1 := hB1.bel (since_alloc X3 (.cells #[.bool (rN x), .string ⟨(rP x).toArray⟩, .string ⟨(rD x).toArray⟩] 26))
  have hb := bel_alloc hb (.cells #[.bool (rN x), .string ⟨(rP x).toArray⟩, .string ⟨(rD x).toArray⟩] 26)
  generalize X3.alloc (.cells #[.bool (rN x), .string ⟨(rP x).toArray⟩, .string ⟨(rD x).toArray⟩] 26) = Y3 at *
  generalize X3.heap.size = g8 at *
  refine lx_plain_to 5 [] (lasts_nil) ?_
  simp only [its, List.take, List.drop, Nat.zero_add, Nat.reduceAdd]
  refine jm (.string ⟨s.toArray⟩) ?_
  refine jc (.tuple #[.agg #[.bool false, .string ⟨#[]⟩, .string ⟨#[]⟩], .int .i64 27]) (fun X hX hF => (parseQ s X (by omega)).mono fun e X' ⟨h1, h2⟩ => ⟨by rw [h1, parR, if_neg (by omega), parQ_none HV.out], h2⟩) ?_
  refine jm (.tuple #[.agg #[.bool false, .string ⟨#[]⟩, .string ⟨#[]⟩], .int .i64 27]) ?_
  refine jm (.agg #[.bool false, .string ⟨#[]⟩, .string ⟨#[]⟩]) ?_
  refine jm (.int .i64 27) ?_
  refine lx_nil ?_
  intro X4 hX4 hF
  have hB0 := hB0.bel hX4
  have hB1 := hB1.bel hX4
  have hD8 := hD8.bel hX4
  have hb := bel_next hb hX4
  clear hF hX4
  go_upto_region 6 with (refine op_store_new _ _ _ rfl 26 (.tmp 10) (.tmp 46) (by rfl) (by rfl) #[.bool false, .string ⟨#[]⟩, .string ⟨#[]⟩] (by rfl) rfl (by intro u hu; simp only [List.mem_cons, List.not_mem_nil, or_false] at hu; rcases hu with rfl | rfl | rfl <;> rfl) info_rat ?_)
  have hD10 : Blk (X4.alloc (.cells #[.bool false, .string ⟨#[]⟩, .string ⟨#[]⟩] 26)) X4.heap.size 26 [.bool false, .string ⟨#[]⟩, .string ⟨#[]⟩] := Blk.new rfl
  have hgs10 := hb.size
  have hlt10x0 := hB0.lt
  have hlt10x1 := hB1.lt
  have hlt10x2 := hD8.lt
  have hB0 := hB0.bel (since_alloc X4 (.cells #[.bool false, .string ⟨#[]⟩, .string ⟨#[]⟩] 26))
  have hB1 := hB1.bel (since_alloc X4 (.cells #[.bool false, .string ⟨#[]⟩, .string ⟨#[]⟩] 26))
  have hD8 := hD8.bel (since_alloc X4 (.cells #[.bool false, .string ⟨#[]⟩, .string ⟨#[]⟩] 26))
  have hb := bel_alloc hb (.cells #[.bool false, .string ⟨#[]⟩, .string ⟨#[]⟩] 26)
  generalize X4.alloc (.cells #[.bool false, .string ⟨#[]⟩, .string ⟨#[]⟩] 26) = Y4 at *
  generalize X4.heap.size = g10 at *
  go_upto_region 6 with (fail)
  refine share [48, 49, 50, 51, 52, 53, 54, 55, 56, 57, 58, 59, 60, 61, 62, 63, 64] (fun f9 X => (f9 64 = .bool false ∧ True) ∧ Since Y4 X) ?_ ?_
  · by_cases h9 : x = y
    · have h9 : Hid (x = y) := h9
      refine lx_region [] (by kernel_rfl) (by kernel_rfl) (lasts_nil) ?_
      simp only [iX, Nat.reduceAdd]
      refine jm (.int .i64 0) ?_
      refine jv (.bool false) (exec_nei _ _ _ _ (by rfl) .i64 0 0 (by rfl) (by rfl) false (by rw [decide_eq_true (by omega)]; rfl)) ?_
      refine jm (.bool false) ?_
      refine ja hD8 Tryd.underlying26 (by rfl) info_rat ?_
      refine ja hB0 Tryd.underlying26 (by rfl) info_rat ?_
      refine jv (.bool false) (exec_ner _ _ (by rfl) (rN x) (rP x) (rD x) (rN x) (rP x) (rD x) (by rfl) (by rfl) false (rb_eqt rfl)) ?_
      refine jm (.bool false) ?_
      refine jm (.bool false) ?_
      refine jm (.string ⟨(rtx x).toArray⟩) ?_
      refine ja hB1 Tryd.underlying26 (by rfl) info_rat ?_
      refine jc (.string ⟨(rtx y).toArray⟩) (fun X hX hF => textG (rN y) (rP y) (rD y) (rq_rb y) X (tzR LB1 (by omega))) ?_
      refine jv (.bool true) (exec_eqsB _ _ _ _ (by rfl) (rtx x) (rtx y) (by rfl) (by rfl) true (eqs_t (congrArg rtx h9.out))) ?_
      refine ja hB0 Tryd.underlying26 (by rfl) info_rat ?_
      refine ja hB1 Tryd.underlying26 (by rfl) info_rat ?_
      refine jv (.bool true) (exec_eqr _ _ (by rfl) (rN x) (rP x) (rD x) (rN y) (rP y) (rD y) (by rfl) (by rfl) true (rb_eqt h9.out)) ?_
      refine jm (.bool false) ?_
      refine jm (.bool false) ?_
      exact lx_nil fun X hX _ => share_nil ⟨⟨rfl, trivial⟩, hX⟩
    · refine lx_region [] (by kernel_rfl) (by kernel_rfl) (lasts_nil) ?_
      simp only [iX, Nat.reduceAdd]
      refine jm (.int .i64 0) ?_
      refine jv (.bool false) (exec_nei _ _ _ _ (by rfl) .i64 0 0 (by rfl) (by rfl) false (by rw [decide_eq_true (by omega)]; rfl)) ?_
      refine jm (.bool false) ?_
      refine ja hD8 Tryd.underlying26 (by rfl) info_rat ?_
      refine ja hB0 Tryd.underlying26 (by rfl) info_rat ?_
      refine jv (.bool false) (exec_ner _ _ (by rfl) (rN x) (rP x) (rD x) (rN x) (rP x) (rD x) (by rfl) (by rfl) false (rb_eqt rfl)) ?_
      refine jm (.bool false) ?_
      refine jm (.bool false) ?_
      refine jm (.string ⟨(rtx x).toArray⟩) ?_
      refine ja hB1 Tryd.underlying26 (by rfl) info_rat ?_
      refine jc (.string ⟨(rtx y).toArray⟩) (fun X hX hF => textG (rN y) (rP y) (rD y) (rq_rb y) X (tzR LB1 (by omega))) ?_
      refine jv (.bool false) (exec_eqsB _ _ _ _ (by rfl) (rtx x) (rtx y) (by rfl) (by rfl) false (eqs_f (fun h8 => h9 (rtx_inj h8)))) ?_
      refine ja hB0 Tryd.underlying26 (by rfl) info_rat ?_
      refine ja hB1 Tryd.underlying26 (by rfl) info_rat ?_
      refine jv (.bool false) (exec_eqr _ _ (by rfl) (rN x) (rP x) (rD x) (rN y) (rP y) (rD y) (by rfl) (by rfl) false (rb_eqf h9)) ?_
      refine jm (.bool false) ?_
      refine jm (.bool false) ?_
      exact lx_nil fun X hX _ => share_nil ⟨⟨rfl, trivial⟩, hX⟩
  · intro f5 X5 hk9
    obtain ⟨⟨hk5_0, _⟩, hX5⟩ := hk9
    simp only [patch_cons, patch_nil, pX, hk5_0]
    clear hk5_0
    have hB0 := hB0.bel hX5
    have hB1 := hB1.bel hX5
    have hD8 := hD8.bel hX5
    have hD10 := hD10.bel hX5
    have hb := bel_next hb hX5
    clear hX5
    go_upto_region 8 with (fail)
    refine lx_plain [] (lasts_nil) ?_
    simp only [iX, Nat.reduceAdd]
    refine jm (.int .i64 27) ?_
    refine jv (.bool true) (exec_nei _ _ _ _ (by rfl) .i64 27 0 (by rfl) (by rfl) true (by rw [decide_eq_false (by omega)]; rfl)) ?_
    refine lx_nil ?_
    intro X6 hX6 hF
    have hB0 := hB0.bel hX6
    have hB1 := hB1.bel hX6
    have hD8 := hD8.bel hX6
    have hD10 := hD10.bel hX6
    have hb := bel_next hb hX6
    clear hF hX6
    go_upto_region 9 with (fail)
    refine lx_plain [] (lasts_nil) ?_
    simp only [iX, Nat.reduceAdd]
    refine jc (.bool true) (fun X hX hF => sanityC X) ?_
    refine jm (.bool true) ?_
    refine jm (.int .i64 27) ?_
    refine jv (.bool true) (exec_eqi _ _ _ _ (by rfl) .i64 27 27 (by rfl) (by rfl) true (decide_eq_true (by omega))) ?_
    refine jm (.bool true) ?_
    refine jm (.bool true) ?_
    refine ja hD10 Tryd.underlying26 (by rfl) info_rat ?_
    refine jn (.agg #[.bool false, .string ⟨#[]⟩, .string ⟨#[]⟩]) ?_
    refine jv (.bool true) (exec_eqr _ _ (by rfl) false [] [] false [] [] (by rfl) (by rfl) true rfl) ?_
    refine jm (.bool true) ?_
    refine jm (.bool true) ?_
    refine lx_nil ?_
    intro X7 hX7 hF
    have hB0 := hB0.bel hX7
    have hB1 := hB1.bel hX7
    have hD8 := hD8.bel hX7
    have hD10 := hD10.bel hX7
    have hb := bel_next hb hX7
    clear hF hX7
    go_wp2
    go_ret
    exact ⟨rfl, hb⟩

theorem backW (n : Bool) (p q : List UInt8) (n' : Bool) (p' q' : List UInt8) (s : List UInt8) (w : World) (hs : s.length ≤ 140737488351232) : Calls Tryd.prog 6 #[.agg #[.bool n, .string ⟨p.toArray⟩, .string ⟨q.toArray⟩], .agg #[.bool n', .string ⟨p'.toArray⟩, .string ⟨q'.toArray⟩], .string ⟨s.toArray⟩] w fun e w' => e = .returned (.bool true) ∧ Since w w' := by
  by_cases t1 : tz p q 40
  · by_cases t2 : tz p' q' 40
    · rcases u1 : vd n p q with _ | _
      · exact back2 n p q n' p' q' s w hs t1 t2 u1
      · rcases u2 : vd n' p' q' with _ | _
        · exact back3 n p q n' p' q' s w hs t1 t2 u1 u2
        · by_cases hs1 : 400 < s.length
          · exact back4 n p q n' p' q' s w hs t1 t2 u1 u2 hs1
          · have s1 := szR_tz rfl (n := n) t1
            have s2 := szR_tz rfl (n := n') t2
            obtain ⟨a1, a2, a3, _⟩ := vd_eq u1
            obtain ⟨b1, b2, b3, _⟩ := vd_eq u2
            generalize rq n p q = x at *
            generalize rq n' p' q' = y at *
            subst a1 a2 a3 b1 b2 b3
            by_cases hv : ∃ v, rtx v = s
            · obtain ⟨v, hv⟩ := hv
              exact backM1 x y s w (by omega) v hv s1 t1 s2 t2
            · exact backM0 x y s w (by omega) (fun v h => hv ⟨v, h⟩) s1 t1 s2 t2
    · exact back1 n p q n' p' q' s w hs t1 t2
  · exact back0 n p q n' p' q' s w hs t1

end Go.Proofs.YtchhlgcakjjncaaDoor
