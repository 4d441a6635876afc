/-
  rat: Min, Max, Floor, Ceil.
-/
import Derived.Test.YtchhlgcakjjncaaDoorQdv
set_option linter.unusedSimpArgs false
set_option linter.unusedVariables false
set_option maxRecDepth 100000
set_option maxHeartbeats 1600000
namespace Go.Proofs.YtchhlgcakjjncaaDoor
open Go.RowKit

/-- The lesser and the greater number. -/
def minR (x y : Rat) : Rat := if cmpR x y ≤ 0 then x else y
def maxR (x y : Rat) : Rat := if 0 ≤ cmpR x y then x else y
theorem minQ1 (n : Bool) (p q : List UInt8) (n' : Bool) (p' q' : List UInt8) (w : World) (hp : p.length ≤ 1000000) (hq : q.length ≤ 1000000) (hp' : p'.length ≤ 1000000) (hq' : q'.length ≤ 1000000) (h : cmpR (rq n p q) (rq n' p' q') ≤ 0) : Calls Tryd.prog 28 #[.agg #[.bool n, .string ⟨p.toArray⟩, .string ⟨q.toArray⟩], .agg #[.bool n', .string ⟨p'.toArray⟩, .string ⟨q'.toArray⟩]] w fun e w' => e = .returned (rbv (minR (rq n p q) (rq n' p' q'))) ∧ Since w w' := by
  have HM : Hid (minR (rq n p q) (rq n' p' q') = (rq n p q)) := by unfold minR; exact if_pos h
  go_enter Tryd.func28, Tryd.ntmps28
  go_upto_region 1 with (fail)
  obtain ⟨W0, hW0, hB0, hB1, hB2, hb⟩ := start3 w 26 26 26 [.bool n, .string ⟨p.toArray⟩, .string ⟨q.toArray⟩] [.bool n', .string ⟨p'.toArray⟩, .string ⟨q'.toArray⟩] [.bool false, .string ⟨#[]⟩, .string ⟨#[]⟩]
  rw [← hW0]
  clear hW0
  refine jp ?_
  refine ja hB0 Tryd.underlying26 (by rfl) info_rat ?_
  refine ja hB1 Tryd.underlying26 (by rfl) info_rat ?_
  refine jc (.int .i64 (cmpR (rq n p q) (rq n' p' q'))) (fun X hX hF => cmpQ n p q n' p' q' X hp hq hp' hq') ?_
  refine jv (.bool true) (exec_leq _ _ _ _ (by rfl) .i64 (cmpR (rq n p q) (rq n' p' q')) 0 (by rfl) (by rfl) true (decide_eq_true (by omega))) ?_
  refine jz fun X1 hX1 => ?_
  have hB0 := hB0.bel hX1
  have hB1 := hB1.bel hX1
  have hB2 := hB2.bel hX1
  have hb := bel_next hb hX1
  clear hX1
  go_upto_region 2 with (fail)
  refine jq 3 ?_
  refine ja hB0 Tryd.underlying26 (by rfl) info_rat ?_
  refine jc (rt (rN (rq n p q)) (be (rq n p q).num.natAbs) (be (rq n p q).den)) (fun X hX hF => ofQ n p q X (by omega) (by omega)) ?_
  refine jc (rt (rN (rq n p q)) (rP (rq n p q)) (rD (rq n p q))) (fun X hX hF => lowQ (rq n p q) 1000000 _ X (isF_of n p q hp hq (by omega) X) (by omega)) ?_
  refine jz fun X2 hX2 => ?_
  have hB0 := hB0.bel hX2
  have hB1 := hB1.bel hX2
  have hB2 := hB2.bel hX2
  have hb := bel_next hb hX2
  clear hX2
  refine osb 26 4 11 (w.heap.size + 2) 26 hB2 [.bool (rN (rq n p q)), .string ⟨(rP (rq n p q)).toArray⟩, .string ⟨(rD (rq n p q)).toArray⟩] info_rat ?_
  intro w9 hR9 hO9 hB9 hs9
  have hb9 := hB9 _ _ hb (by omega)
  clear hO9 hB9
  go_wp2
  refine post_cell rfl rfl (by rfl) Tryd.underlying26 rfl hR9 info_rat ⟨by rw [HM.out], hb9⟩

theorem minQ0 (n : Bool) (p q : List UInt8) (n' : Bool) (p' q' : List UInt8) (w : World) (hp : p.length ≤ 1000000) (hq : q.length ≤ 1000000) (hp' : p'.length ≤ 1000000) (hq' : q'.length ≤ 1000000) (h : ¬ cmpR (rq n p q) (rq n' p' q') ≤ 0) : Calls Tryd.prog 28 #[.agg #[.bool n, .string ⟨p.toArray⟩, .string ⟨q.toArray⟩], .agg #[.bool n', .string ⟨p'.toArray⟩, .string ⟨q'.toArray⟩]] w fun e w' => e = .returned (rbv (minR (rq n p q) (rq n' p' q'))) ∧ Since w w' := by
  have HM : Hid (minR (rq n p q) (rq n' p' q') = (rq n' p' q')) := by unfold minR; exact if_neg h
  go_enter Tryd.func28, Tryd.ntmps28
  go_upto_region 1 with (fail)
  obtain ⟨W0, hW0, hB0, hB1, hB2, hb⟩ := start3 w 26 26 26 [.bool n, .string ⟨p.toArray⟩, .string ⟨q.toArray⟩] [.bool n', .string ⟨p'.toArray⟩, .string ⟨q'.toArray⟩] [.bool false, .string ⟨#[]⟩, .string ⟨#[]⟩]
  rw [← hW0]
  clear hW0
  refine jp ?_
  refine ja hB0 Tryd.underlying26 (by rfl) info_rat ?_
  refine ja hB1 Tryd.underlying26 (by rfl) info_rat ?_
  refine jc (.int .i64 (cmpR (rq n p q) (rq n' p' q'))) (fun X hX hF => cmpQ n p q n' p' q' X hp hq hp' hq') ?_
  refine jv (.bool false) (exec_leq _ _ _ _ (by rfl) .i64 (cmpR (rq n p q) (rq n' p' q')) 0 (by rfl) (by rfl) false (decide_eq_false (by omega))) ?_
  refine jz fun X1 hX1 => ?_
  have hB0 := hB0.bel hX1
  have hB1 := hB1.bel hX1
  have hB2 := hB2.bel hX1
  have hb := bel_next hb hX1
  clear hX1
  go_upto_region 3 with (fail)
  refine jq 3 ?_
  refine ja hB1 Tryd.underlying26 (by rfl) info_rat ?_
  refine jc (rt (rN (rq (n') p' q')) (be (rq (n') p' q').num.natAbs) (be (rq (n') p' q').den)) (fun X hX hF => ofQ (n') p' q' X (by omega) (by omega)) ?_
  refine jc (rt (rN (rq n' p' q')) (rP (rq n' p' q')) (rD (rq n' p' q'))) (fun X hX hF => lowQ (rq n' p' q') 1000000 _ X (isF_of n' p' q' hp' hq' (by omega) X) (by omega)) ?_
  refine jz fun X2 hX2 => ?_
  have hB0 := hB0.bel hX2
  have hB1 := hB1.bel hX2
  have hB2 := hB2.bel hX2
  have hb := bel_next hb hX2
  clear hX2
  refine osb 26 4 14 (w.heap.size + 2) 26 hB2 [.bool (rN (rq n' p' q')), .string ⟨(rP (rq n' p' q')).toArray⟩, .string ⟨(rD (rq n' p' q')).toArray⟩] info_rat ?_
  intro w9 hR9 hO9 hB9 hs9
  have hb9 := hB9 _ _ hb (by omega)
  clear hO9 hB9
  go_wp2
  refine post_cell rfl rfl (by rfl) Tryd.underlying26 rfl hR9 info_rat ⟨by rw [HM.out], hb9⟩

theorem minQ (n : Bool) (p q : List UInt8) (n' : Bool) (p' q' : List UInt8) (w : World) (hp : p.length ≤ 1000000) (hq : q.length ≤ 1000000) (hp' : p'.length ≤ 1000000) (hq' : q'.length ≤ 1000000) : Calls Tryd.prog 28 #[.agg #[.bool n, .string ⟨p.toArray⟩, .string ⟨q.toArray⟩], .agg #[.bool n', .string ⟨p'.toArray⟩, .string ⟨q'.toArray⟩]] w fun e w' => e = .returned (rbv (minR (rq n p q) (rq n' p' q'))) ∧ Since w w' := by
  by_cases h : cmpR (rq n p q) (rq n' p' q') ≤ 0
  · exact minQ1 n p q n' p' q' w hp hq hp' hq' h
  · exact minQ0 n p q n' p' q' w hp hq hp' hq' h

theorem maxQ1 (n : Bool) (p q : List UInt8) (n' : Bool) (p' q' : List UInt8) (w : World) (hp : p.length ≤ 1000000) (hq : q.length ≤ 1000000) (hp' : p'.length ≤ 1000000) (hq' : q'.length ≤ 1000000) (h : 0 ≤ cmpR (rq n p q) (rq n' p' q')) : Calls Tryd.prog 29 #[.agg #[.bool n, .string ⟨p.toArray⟩, .string ⟨q.toArray⟩], .agg #[.bool n', .string ⟨p'.toArray⟩, .string ⟨q'.toArray⟩]] w fun e w' => e = .returned (rbv (maxR (rq n p q) (rq n' p' q'))) ∧ Since w w' := by
  have HM : Hid (maxR (rq n p q) (rq n' p' q') = (rq n p q)) := by unfold maxR; exact if_pos h
  go_enter Tryd.func29, Tryd.ntmps29
  go_upto_region 1 with (fail)
  obtain ⟨W0, hW0, hB0, hB1, hB2, hb⟩ := start3 w 26 26 26 [.bool n, .string ⟨p.toArray⟩, .string ⟨q.toArray⟩] [.bool n', .string ⟨p'.toArray⟩, .string ⟨q'.toArray⟩] [.bool false, .string ⟨#[]⟩, .string ⟨#[]⟩]
  rw [← hW0]
  clear hW0
  refine jp ?_
  refine ja hB0 Tryd.underlying26 (by rfl) info_rat ?_
  refine ja hB1 Tryd.underlying26 (by rfl) info_rat ?_
  refine jc (.int .i64 (cmpR (rq n p q) (rq n' p' q'))) (fun X hX hF => cmpQ n p q n' p' q' X hp hq hp' hq') ?_
  refine jv (.bool true) (exec_geq _ _ _ _ (by rfl) .i64 (cmpR (rq n p q) (rq n' p' q')) 0 (by rfl) (by rfl) true (decide_eq_true (by omega))) ?_
  refine jz fun X1 hX1 => ?_
  have hB0 := hB0.bel hX1
  have hB1 := hB1.bel hX1
  have hB2 := hB2.bel hX1
  have hb := bel_next hb hX1
  clear hX1
  go_upto_region 2 with (fail)
  refine jq 3 ?_
  refine ja hB0 Tryd.underlying26 (by rfl) info_rat ?_
  refine jc (rt (rN (rq n p q)) (be (rq n p q).num.natAbs) (be (rq n p q).den)) (fun X hX hF => ofQ n p q X (by omega) (by omega)) ?_
  refine jc (rt (rN (rq n p q)) (rP (rq n p q)) (rD (rq n p q))) (fun X hX hF => lowQ (rq n p q) 1000000 _ X (isF_of n p q hp hq (by omega) X) (by omega)) ?_
  refine jz fun X2 hX2 => ?_
  have hB0 := hB0.bel hX2
  have hB1 := hB1.bel hX2
  have hB2 := hB2.bel hX2
  have hb := bel_next hb hX2
  clear hX2
  refine osb 26 4 11 (w.heap.size + 2) 26 hB2 [.bool (rN (rq n p q)), .string ⟨(rP (rq n p q)).toArray⟩, .string ⟨(rD (rq n p q)).toArray⟩] info_rat ?_
  intro w9 hR9 hO9 hB9 hs9
  have hb9 := hB9 _ _ hb (by omega)
  clear hO9 hB9
  go_wp2
  refine post_cell rfl rfl (by rfl) Tryd.underlying26 rfl hR9 info_rat ⟨by rw [HM.out], hb9⟩

theorem maxQ0 (n : Bool) (p q : List UInt8) (n' : Bool) (p' q' : List UInt8) (w : World) (hp : p.length ≤ 1000000) (hq : q.length ≤ 1000000) (hp' : p'.length ≤ 1000000) (hq' : q'.length ≤ 1000000) (h : ¬ 0 ≤ cmpR (rq n p q) (rq n' p' q')) : Calls Tryd.prog 29 #[.agg #[.bool n, .string ⟨p.toArray⟩, .string ⟨q.toArray⟩], .agg #[.bool n', .string ⟨p'.toArray⟩, .string ⟨q'.toArray⟩]] w fun e w' => e = .returned (rbv (maxR (rq n p q) (rq n' p' q'))) ∧ Since w w' := by
  have HM : Hid (maxR (rq n p q) (rq n' p' q') = (rq n' p' q')) := by unfold maxR; exact if_neg h
  go_enter Tryd.func29, Tryd.ntmps29
  go_upto_region 1 with (fail)
  obtain ⟨W0, hW0, hB0, hB1, hB2, hb⟩ := start3 w 26 26 26 [.bool n, .string ⟨p.toArray⟩, .string ⟨q.toArray⟩] [.bool n', .string ⟨p'.toArray⟩, .string ⟨q'.toArray⟩] [.bool false, .string ⟨#[]⟩, .string ⟨#[]⟩]
  rw [← hW0]
  clear hW0
  refine jp ?_
  refine ja hB0 Tryd.underlying26 (by rfl) info_rat ?_
  refine ja hB1 Tryd.underlying26 (by rfl) info_rat ?_
  refine jc (.int .i64 (cmpR (rq n p q) (rq n' p' q'))) (fun X hX hF => cmpQ n p q n' p' q' X hp hq hp' hq') ?_
  refine jv (.bool false) (exec_geq _ _ _ _ (by rfl) .i64 (cmpR (rq n p q) (rq n' p' q')) 0 (by rfl) (by rfl) false (decide_eq_false (by omega))) ?_
  refine jz fun X1 hX1 => ?_
  have hB0 := hB0.bel hX1
  have hB1 := hB1.bel hX1
  have hB2 := hB2.bel hX1
  have hb := bel_next hb hX1
  clear hX1
  go_upto_region 3 with (fail)
  refine jq 3 ?_
  refine ja hB1 Tryd.underlying26 (by rfl) info_rat ?_
  refine jc (rt (rN (rq (n') p' q')) (be (rq (n') p' q').num.natAbs) (be (rq (n') p' q').den)) (fun X hX hF => ofQ (n') p' q' X (by omega) (by omega)) ?_
  refine jc (rt (rN (rq n' p' q')) (rP (rq n' p' q')) (rD (rq n' p' q'))) (fun X hX hF => lowQ (rq n' p' q') 1000000 _ X (isF_of n' p' q' hp' hq' (by omega) X) (by omega)) ?_
  refine jz fun X2 hX2 => ?_
  have hB0 := hB0.bel hX2
  have hB1 := hB1.bel hX2
  have hB2 := hB2.bel hX2
  have hb := bel_next hb hX2
  clear hX2
  refine osb 26 4 14 (w.heap.size + 2) 26 hB2 [.bool (rN (rq n' p' q')), .string ⟨(rP (rq n' p' q')).toArray⟩, .string ⟨(rD (rq n' p' q')).toArray⟩] info_rat ?_
  intro w9 hR9 hO9 hB9 hs9
  have hb9 := hB9 _ _ hb (by omega)
  clear hO9 hB9
  go_wp2
  refine post_cell rfl rfl (by rfl) Tryd.underlying26 rfl hR9 info_rat ⟨by rw [HM.out], hb9⟩

theorem maxQ (n : Bool) (p q : List UInt8) (n' : Bool) (p' q' : List UInt8) (w : World) (hp : p.length ≤ 1000000) (hq : q.length ≤ 1000000) (hp' : p'.length ≤ 1000000) (hq' : q'.length ≤ 1000000) : Calls Tryd.prog 29 #[.agg #[.bool n, .string ⟨p.toArray⟩, .string ⟨q.toArray⟩], .agg #[.bool n', .string ⟨p'.toArray⟩, .string ⟨q'.toArray⟩]] w fun e w' => e = .returned (rbv (maxR (rq n p q) (rq n' p' q'))) ∧ Since w w' := by
  by_cases h : 0 ≤ cmpR (rq n p q) (rq n' p' q')
  · exact maxQ1 n p q n' p' q' w hp hq hp' hq' h
  · exact maxQ0 n p q n' p' q' w hp hq hp' hq' h

theorem neg_bd {z : Nat} (h : z ≤ 999999999999999) : -9223372036854775808 ≤ -(z : Int) ∧ -(z : Int) ≤ 9223372036854775807 := by omega
/-- What Floor hands back. -/
def floN (x : Rat) : Int := if (flr x).natAbs ≤ 999999999999999 then flr x else 0
def floE (x : Rat) : Int := if (flr x).natAbs ≤ 999999999999999 then 0 else 3
theorem lenP (n : Bool) (p q : List UInt8) {B : Nat} (hp : p.length ≤ B) (hq : q.length ≤ B) (h1 : 1 ≤ B) : (be (rq n p q).num.natAbs).length ≤ B := by
  show (rP (rq n p q)).length ≤ B
  rcases hv : vd n p q with _ | _
  · rw [vd_not hv]
    exact Nat.zero_le _
  · rw [(vd_eq hv).2.1]
    exact hp
theorem lenD (n : Bool) (p q : List UInt8) {B : Nat} (hp : p.length ≤ B) (hq : q.length ≤ B) (h1 : 1 ≤ B) : (be (rq n p q).den).length ≤ B := by
  obtain ⟨s, t, u, h2, h3, h4, h5, h6⟩ := isF_of n p q hp hq h1 default
  injection h2 with h2
  have h7 := congrArg (fun a : Array Value => a.toList) h2
  simp only [List.cons.injEq, Value.string.injEq, ByteArray.mk.injEq, List.toArray_inj, and_true] at h7
  rw [show be (rq n p q).den = be u from congrArg Array.toList h7.2.2]
  exact h6
theorem flo_p_err (n : Bool) (p q : List UInt8) (w : World) (hp : p.length ≤ 1000000) (hq : q.length ≤ 1000000) (hneg : rN (rq n p q) = false) (ho : 9223372036854775808 ≤ ((rq n p q).num.natAbs / (rq n p q).den)) (hfin : floN (rq n p q) = 0 ∧ floE (rq n p q) = 3) : Calls Tryd.prog 30 #[.agg #[.bool n, .string ⟨p.toArray⟩, .string ⟨q.toArray⟩]] w fun e w' => e = .returned (.tuple #[.int .i64 (floN (rq n p q)), .int .i64 (floE (rq n p q))]) ∧ Since w w' := by
  have HN : Hid (rN (rq n p q) = false) := hneg
  have HDP : Hid (0 < (rq n p q).den) := Nat.pos_of_ne_zero (rq n p q).den_nz
  have lP := lenP n p q (B := 1000000) hp hq (by omega)
  have lD := lenD n p q (B := 1000000) hp hq (by omega)
  have lQ := be_leL (Nat.div_le_self (rq n p q).num.natAbs (rq n p q).den) lP
  have hV : 9223372036854775808 ≤ ((rq n p q).num.natAbs / (rq n p q).den) := ho
  have HF := Lib.hid hfin
  clear hneg hfin
  go_enter Tryd.func30, Tryd.ntmps30
  go_upto_region 1 with (fail)
  obtain ⟨W0, hW0, hB0, hb⟩ := start1 w 26 [.bool n, .string ⟨p.toArray⟩, .string ⟨q.toArray⟩]
  rw [← hW0]
  clear hW0
  refine jq 2 ?_
  refine ja hB0 Tryd.underlying26 (by rfl) info_rat ?_
  refine jc (rt false (be (rq n p q).num.natAbs) (be (rq n p q).den)) (fun X hX hF => mo (ofQ n p q X (by omega) (by omega)) (by rw [HN.out])) ?_
  refine jz fun X1 hX1 => ?_
  have hB0 := hB0.bel hX1
  have hb := bel_next hb hX1
  clear hX1
  go_upto_region 2 with (refine osn 78 4 11 #[.bool false, .string ⟨(be (rq n p q).num.natAbs).toArray⟩, .string ⟨(be (rq n p q).den).toArray⟩] info_fr ?_)
  obtain ⟨Y1, hY9, hD4, hS9⟩ := start1 X1 78 [.bool false, .string ⟨(be (rq n p q).num.natAbs).toArray⟩, .string ⟨(be (rq n p q).den).toArray⟩]
  rw [← hY9]
  clear hY9
  have hgs4 := hb.size
  have hlt4x0 := hB0.lt
  have hB0 := hB0.bel hS9
  have hb := bel_next hb hS9
  clear hS9
  generalize X1.heap.size = g4 at *
  go_upto_region 2 with (fail)
  refine jp ?_
  refine jn (.pointer (some ⟨g4, 1, none⟩)) ?_
  refine jf (st (be (rq n p q).num.natAbs)) hD4 1 load_str ?_
  refine jn (.pointer (some ⟨g4, 2, none⟩)) ?_
  refine jf (st (be (rq n p q).den)) hD4 2 load_str ?_
  refine jc (.tuple #[st (be ((rq n p q).num.natAbs / (rq n p q).den)), st (be ((rq n p q).num.natAbs % (rq n p q).den)), .int .i64 0]) (fun X hX hF => mo (ndivC (be (rq n p q).num.natAbs) (be (rq n p q).den) X (by omega) (by omega) (by rw [val_be]; exact HDP.out)) (by simp only [val_be])) ?_
  refine jm (.tuple #[st (be ((rq n p q).num.natAbs / (rq n p q).den)), st (be ((rq n p q).num.natAbs % (rq n p q).den)), .int .i64 0]) ?_
  refine jm (st (be ((rq n p q).num.natAbs / (rq n p q).den))) ?_
  refine jm (st (be ((rq n p q).num.natAbs % (rq n p q).den))) ?_
  refine jm (.int .i64 0) ?_
  refine jm (st (be ((rq n p q).num.natAbs / (rq n p q).den))) ?_
  refine jm (st (be ((rq n p q).num.natAbs % (rq n p q).den))) ?_
  refine jm (.int .i64 0) ?_
  refine jz fun X2 hX2 => ?_
  have hB0 := hB0.bel hX2
  have hD4 := hD4.bel hX2
  have hb := bel_next hb hX2
  clear hX2
  go_upto_region 3 with (fail)
  refine jp ?_
  refine jn (.pointer (some ⟨g4, 0, none⟩)) ?_
  refine jf (.bool false) hD4 0 load_bool ?_
  refine jm (.bool false) ?_
  refine js ?_
  refine js ?_
  refine jm (.bool false) ?_
  refine jz fun X3 hX3 => ?_
  have hB0 := hB0.bel hX3
  have hD4 := hD4.bel hX3
  have hb := bel_next hb hX3
  clear hX3
  go_upto_region 5 with (fail)
  refine jp ?_
  refine jm (st (be ((rq n p q).num.natAbs / (rq n p q).den))) ?_
  refine jc (.tuple #[.int .i64 0, .int .i64 3]) (fun X hX hF => mo (nvalE (be ((rq n p q).num.natAbs / (rq n p q).den)) X (by omega) (by rw [val_be]; exact hV)) (by rfl)) ?_
  refine jm (.tuple #[.int .i64 0, .int .i64 3]) ?_
  refine jm (.int .i64 0) ?_
  refine jm (.int .i64 3) ?_
  refine jm (.int .i64 0) ?_
  refine jm (.int .i64 3) ?_
  refine jz fun X4 hX4 => ?_
  have hB0 := hB0.bel hX4
  have hD4 := hD4.bel hX4
  have hb := bel_next hb hX4
  clear hX4
  go_upto_region 6 with (fail)
  refine jp ?_
  refine jm (.int .i64 3) ?_
  refine jv (.bool true) (exec_nei _ _ _ _ (by rfl) .i64 3 0 (by rfl) (by rfl) true (by rw [decide_eq_false (by omega)]; rfl)) ?_
  refine jm (.bool true) ?_
  refine js ?_
  refine js ?_
  refine jm (.bool true) ?_
  refine jz fun X5 hX5 => ?_
  have hB0 := hB0.bel hX5
  have hD4 := hD4.bel hX5
  have hb := bel_next hb hX5
  clear hX5
  go_wp2
  go_ret2
  exact ⟨by rw [HF.out.1, HF.out.2]; rfl, hb⟩

theorem flo_p_big (n : Bool) (p q : List UInt8) (w : World) (hp : p.length ≤ 1000000) (hq : q.length ≤ 1000000) (hneg : rN (rq n p q) = false) (ho1 : ((rq n p q).num.natAbs / (rq n p q).den) < 9223372036854775808) (ho2 : 999999999999999 < ((rq n p q).num.natAbs / (rq n p q).den)) (hfin : floN (rq n p q) = 0 ∧ floE (rq n p q) = 3) : Calls Tryd.prog 30 #[.agg #[.bool n, .string ⟨p.toArray⟩, .string ⟨q.toArray⟩]] w fun e w' => e = .returned (.tuple #[.int .i64 (floN (rq n p q)), .int .i64 (floE (rq n p q))]) ∧ Since w w' := by
  have HN : Hid (rN (rq n p q) = false) := hneg
  have HDP : Hid (0 < (rq n p q).den) := Nat.pos_of_ne_zero (rq n p q).den_nz
  have lP := lenP n p q (B := 1000000) hp hq (by omega)
  have lD := lenD n p q (B := 1000000) hp hq (by omega)
  have lQ := be_leL (Nat.div_le_self (rq n p q).num.natAbs (rq n p q).den) lP
  have hV : ((rq n p q).num.natAbs / (rq n p q).den) < 9223372036854775808 := ho1
  have hV2 : 999999999999999 < ((rq n p q).num.natAbs / (rq n p q).den) := ho2
  have HF := Lib.hid hfin
  clear hneg hfin
  go_enter Tryd.func30, Tryd.ntmps30
  go_upto_region 1 with (fail)
  obtain ⟨W0, hW0, hB0, hb⟩ := start1 w 26 [.bool n, .string ⟨p.toArray⟩, .string ⟨q.toArray⟩]
  rw [← hW0]
  clear hW0
  refine jq 2 ?_
  refine ja hB0 Tryd.underlying26 (by rfl) info_rat ?_
  refine jc (rt false (be (rq n p q).num.natAbs) (be (rq n p q).den)) (fun X hX hF => mo (ofQ n p q X (by omega) (by omega)) (by rw [HN.out])) ?_
  refine jz fun X1 hX1 => ?_
  have hB0 := hB0.bel hX1
  have hb := bel_next hb hX1
  clear hX1
  go_upto_region 2 with (refine osn 78 4 11 #[.bool false, .string ⟨(be (rq n p q).num.natAbs).toArray⟩, .string ⟨(be (rq n p q).den).toArray⟩] info_fr ?_)
  obtain ⟨Y1, hY9, hD4, hS9⟩ := start1 X1 78 [.bool false, .string ⟨(be (rq n p q).num.natAbs).toArray⟩, .string ⟨(be (rq n p q).den).toArray⟩]
  rw [← hY9]
  clear hY9
  have hgs4 := hb.size
  have hlt4x0 := hB0.lt
  have hB0 := hB0.bel hS9
  have hb := bel_next hb hS9
  clear hS9
  generalize X1.heap.size = g4 at *
  go_upto_region 2 with (fail)
  refine jp ?_
  refine jn (.pointer (some ⟨g4, 1, none⟩)) ?_
  refine jf (st (be (rq n p q).num.natAbs)) hD4 1 load_str ?_
  refine jn (.pointer (some ⟨g4, 2, none⟩)) ?_
  refine jf (st (be (rq n p q).den)) hD4 2 load_str ?_
  refine jc (.tuple #[st (be ((rq n p q).num.natAbs / (rq n p q).den)), st (be ((rq n p q).num.natAbs % (rq n p q).den)), .int .i64 0]) (fun X hX hF => mo (ndivC (be (rq n p q).num.natAbs) (be (rq n p q).den) X (by omega) (by omega) (by rw [val_be]; exact HDP.out)) (by simp only [val_be])) ?_
  refine jm (.tuple #[st (be ((rq n p q).num.natAbs / (rq n p q).den)), st (be ((rq n p q).num.natAbs % (rq n p q).den)), .int .i64 0]) ?_
  refine jm (st (be ((rq n p q).num.natAbs / (rq n p q).den))) ?_
  refine jm (st (be ((rq n p q).num.natAbs % (rq n p q).den))) ?_
  refine jm (.int .i64 0) ?_
  refine jm (st (be ((rq n p q).num.natAbs / (rq n p q).den))) ?_
  refine jm (st (be ((rq n p q).num.natAbs % (rq n p q).den))) ?_
  refine jm (.int .i64 0) ?_
  refine jz fun X2 hX2 => ?_
  have hB0 := hB0.bel hX2
  have hD4 := hD4.bel hX2
  have hb := bel_next hb hX2
  clear hX2
  go_upto_region 3 with (fail)
  refine jp ?_
  refine jn (.pointer (some ⟨g4, 0, none⟩)) ?_
  refine jf (.bool false) hD4 0 load_bool ?_
  refine jm (.bool false) ?_
  refine js ?_
  refine js ?_
  refine jm (.bool false) ?_
  refine jz fun X3 hX3 => ?_
  have hB0 := hB0.bel hX3
  have hD4 := hD4.bel hX3
  have hb := bel_next hb hX3
  clear hX3
  go_upto_region 5 with (fail)
  refine jp ?_
  refine jm (st (be ((rq n p q).num.natAbs / (rq n p q).den))) ?_
  refine jc (.tuple #[.int .i64 ((((rq n p q).num.natAbs / (rq n p q).den) : Nat) : Int), .int .i64 0]) (fun X hX hF => mo (nvalC (be ((rq n p q).num.natAbs / (rq n p q).den)) X (by omega) (by rw [val_be]; exact hV)) (by simp only [val_be])) ?_
  refine jm (.tuple #[.int .i64 ((((rq n p q).num.natAbs / (rq n p q).den) : Nat) : Int), .int .i64 0]) ?_
  refine jm (.int .i64 ((((rq n p q).num.natAbs / (rq n p q).den) : Nat) : Int)) ?_
  refine jm (.int .i64 0) ?_
  refine jm (.int .i64 ((((rq n p q).num.natAbs / (rq n p q).den) : Nat) : Int)) ?_
  refine jm (.int .i64 0) ?_
  refine jz fun X4 hX4 => ?_
  have hB0 := hB0.bel hX4
  have hD4 := hD4.bel hX4
  have hb := bel_next hb hX4
  clear hX4
  go_upto_region 6 with (fail)
  refine jp ?_
  refine jm (.int .i64 0) ?_
  refine jv (.bool false) (exec_nei _ _ _ _ (by rfl) .i64 0 0 (by rfl) (by rfl) false (by rw [decide_eq_true (by omega)]; rfl)) ?_
  refine jm (.bool false) ?_
  refine jm (.int .i64 ((((rq n p q).num.natAbs / (rq n p q).den) : Nat) : Int)) ?_
  refine jv (.bool true) (exec_gtr _ _ _ _ (by rfl) .i64 ((((rq n p q).num.natAbs / (rq n p q).den) : Nat) : Int) 999999999999999 (by rfl) (by rfl) true (decide_eq_true (by omega))) ?_
  refine jm (.bool true) ?_
  refine jz fun X5 hX5 => ?_
  have hB0 := hB0.bel hX5
  have hD4 := hD4.bel hX5
  have hb := bel_next hb hX5
  clear hX5
  go_wp2
  go_ret2
  exact ⟨by rw [HF.out.1, HF.out.2]; rfl, hb⟩

theorem flo_p_ok (n : Bool) (p q : List UInt8) (w : World) (hp : p.length ≤ 1000000) (hq : q.length ≤ 1000000) (hneg : rN (rq n p q) = false) (ho : ((rq n p q).num.natAbs / (rq n p q).den) ≤ 999999999999999) (hfin : floN (rq n p q) = ((((rq n p q).num.natAbs / (rq n p q).den) : Nat) : Int) ∧ floE (rq n p q) = 0) : Calls Tryd.prog 30 #[.agg #[.bool n, .string ⟨p.toArray⟩, .string ⟨q.toArray⟩]] w fun e w' => e = .returned (.tuple #[.int .i64 (floN (rq n p q)), .int .i64 (floE (rq n p q))]) ∧ Since w w' := by
  have HN : Hid (rN (rq n p q) = false) := hneg
  have HDP : Hid (0 < (rq n p q).den) := Nat.pos_of_ne_zero (rq n p q).den_nz
  have lP := lenP n p q (B := 1000000) hp hq (by omega)
  have lD := lenD n p q (B := 1000000) hp hq (by omega)
  have lQ := be_leL (Nat.div_le_self (rq n p q).num.natAbs (rq n p q).den) lP
  have hV2 : ((rq n p q).num.natAbs / (rq n p q).den) ≤ 999999999999999 := ho
  have hV : ((rq n p q).num.natAbs / (rq n p q).den) < 9223372036854775808 := by omega
  have HF := Lib.hid hfin
  clear hneg hfin
  go_enter Tryd.func30, Tryd.ntmps30
  go_upto_region 1 with (fail)
  obtain ⟨W0, hW0, hB0, hb⟩ := start1 w 26 [.bool n, .string ⟨p.toArray⟩, .string ⟨q.toArray⟩]
  rw [← hW0]
  clear hW0
  refine jq 2 ?_
  refine ja hB0 Tryd.underlying26 (by rfl) info_rat ?_
  refine jc (rt false (be (rq n p q).num.natAbs) (be (rq n p q).den)) (fun X hX hF => mo (ofQ n p q X (by omega) (by omega)) (by rw [HN.out])) ?_
  refine jz fun X1 hX1 => ?_
  have hB0 := hB0.bel hX1
  have hb := bel_next hb hX1
  clear hX1
  go_upto_region 2 with (refine osn 78 4 11 #[.bool false, .string ⟨(be (rq n p q).num.natAbs).toArray⟩, .string ⟨(be (rq n p q).den).toArray⟩] info_fr ?_)
  obtain ⟨Y1, hY9, hD4, hS9⟩ := start1 X1 78 [.bool false, .string ⟨(be (rq n p q).num.natAbs).toArray⟩, .string ⟨(be (rq n p q).den).toArray⟩]
  rw [← hY9]
  clear hY9
  have hgs4 := hb.size
  have hlt4x0 := hB0.lt
  have hB0 := hB0.bel hS9
  have hb := bel_next hb hS9
  clear hS9
  generalize X1.heap.size = g4 at *
  go_upto_region 2 with (fail)
  refine jp ?_
  refine jn (.pointer (some ⟨g4, 1, none⟩)) ?_
  refine jf (st (be (rq n p q).num.natAbs)) hD4 1 load_str ?_
  refine jn (.pointer (some ⟨g4, 2, none⟩)) ?_
  refine jf (st (be (rq n p q).den)) hD4 2 load_str ?_
  refine jc (.tuple #[st (be ((rq n p q).num.natAbs / (rq n p q).den)), st (be ((rq n p q).num.natAbs % (rq n p q).den)), .int .i64 0]) (fun X hX hF => mo (ndivC (be (rq n p q).num.natAbs) (be (rq n p q).den) X (by omega) (by omega) (by rw [val_be]; exact HDP.out)) (by simp only [val_be])) ?_
  refine jm (.tuple #[st (be ((rq n p q).num.natAbs / (rq n p q).den)), st (be ((rq n p q).num.natAbs % (rq n p q).den)), .int .i64 0]) ?_
  refine jm (st (be ((rq n p q).num.natAbs / (rq n p q).den))) ?_
  refine jm (st (be ((rq n p q).num.natAbs % (rq n p q).den))) ?_
  refine jm (.int .i64 0) ?_
  refine jm (st (be ((rq n p q).num.natAbs / (rq n p q).den))) ?_
  refine jm (st (be ((rq n p q).num.natAbs % (rq n p q).den))) ?_
  refine jm (.int .i64 0) ?_
  refine jz fun X2 hX2 => ?_
  have hB0 := hB0.bel hX2
  have hD4 := hD4.bel hX2
  have hb := bel_next hb hX2
  clear hX2
  go_upto_region 3 with (fail)
  refine jp ?_
  refine jn (.pointer (some ⟨g4, 0, none⟩)) ?_
  refine jf (.bool false) hD4 0 load_bool ?_
  refine jm (.bool false) ?_
  refine js ?_
  refine js ?_
  refine jm (.bool false) ?_
  refine jz fun X3 hX3 => ?_
  have hB0 := hB0.bel hX3
  have hD4 := hD4.bel hX3
  have hb := bel_next hb hX3
  clear hX3
  go_upto_region 5 with (fail)
  refine jp ?_
  refine jm (st (be ((rq n p q).num.natAbs / (rq n p q).den))) ?_
  refine jc (.tuple #[.int .i64 ((((rq n p q).num.natAbs / (rq n p q).den) : Nat) : Int), .int .i64 0]) (fun X hX hF => mo (nvalC (be ((rq n p q).num.natAbs / (rq n p q).den)) X (by omega) (by rw [val_be]; exact hV)) (by simp only [val_be])) ?_
  refine jm (.tuple #[.int .i64 ((((rq n p q).num.natAbs / (rq n p q).den) : Nat) : Int), .int .i64 0]) ?_
  refine jm (.int .i64 ((((rq n p q).num.natAbs / (rq n p q).den) : Nat) : Int)) ?_
  refine jm (.int .i64 0) ?_
  refine jm (.int .i64 ((((rq n p q).num.natAbs / (rq n p q).den) : Nat) : Int)) ?_
  refine jm (.int .i64 0) ?_
  refine jz fun X4 hX4 => ?_
  have hB0 := hB0.bel hX4
  have hD4 := hD4.bel hX4
  have hb := bel_next hb hX4
  clear hX4
  go_upto_region 6 with (fail)
  refine jp ?_
  refine jm (.int .i64 0) ?_
  refine jv (.bool false) (exec_nei _ _ _ _ (by rfl) .i64 0 0 (by rfl) (by rfl) false (by rw [decide_eq_true (by omega)]; rfl)) ?_
  refine jm (.bool false) ?_
  refine jm (.int .i64 ((((rq n p q).num.natAbs / (rq n p q).den) : Nat) : Int)) ?_
  refine jv (.bool false) (exec_gtr _ _ _ _ (by rfl) .i64 ((((rq n p q).num.natAbs / (rq n p q).den) : Nat) : Int) 999999999999999 (by rfl) (by rfl) false (decide_eq_false (by omega))) ?_
  refine jm (.bool false) ?_
  refine jz fun X5 hX5 => ?_
  have hB0 := hB0.bel hX5
  have hD4 := hD4.bel hX5
  have hb := bel_next hb hX5
  clear hX5
  go_upto_region 8 with (fail)
  refine jp ?_
  refine jn (.pointer (some ⟨g4, 0, none⟩)) ?_
  refine jf (.bool false) hD4 0 load_bool ?_
  refine jz fun X6 hX6 => ?_
  have hB0 := hB0.bel hX6
  have hD4 := hD4.bel hX6
  have hb := bel_next hb hX6
  clear hX6
  go_upto_region 10 with (fail)
  refine jp ?_
  refine jm (.int .i64 ((((rq n p q).num.natAbs / (rq n p q).den) : Nat) : Int)) ?_
  refine jm (.int .i64 ((((rq n p q).num.natAbs / (rq n p q).den) : Nat) : Int)) ?_
  refine jm (.int .i64 0) ?_
  refine jz fun X7 hX7 => ?_
  have hB0 := hB0.bel hX7
  have hD4 := hD4.bel hX7
  have hb := bel_next hb hX7
  clear hX7
  go_wp2
  go_ret2
  exact ⟨by rw [HF.out.1, HF.out.2]; rfl, hb⟩

theorem flo_z_err (n : Bool) (p q : List UInt8) (w : World) (hp : p.length ≤ 1000000) (hq : q.length ≤ 1000000) (hneg : rN (rq n p q) = true) (hr : (rq n p q).num.natAbs % (rq n p q).den = 0) (ho : 9223372036854775808 ≤ ((rq n p q).num.natAbs / (rq n p q).den)) (hfin : floN (rq n p q) = 0 ∧ floE (rq n p q) = 3) : Calls Tryd.prog 30 #[.agg #[.bool n, .string ⟨p.toArray⟩, .string ⟨q.toArray⟩]] w fun e w' => e = .returned (.tuple #[.int .i64 (floN (rq n p q)), .int .i64 (floE (rq n p q))]) ∧ Since w w' := by
  have HN : Hid (rN (rq n p q) = true) := hneg
  have HDP : Hid (0 < (rq n p q).den) := Nat.pos_of_ne_zero (rq n p q).den_nz
  have lP := lenP n p q (B := 1000000) hp hq (by omega)
  have lD := lenD n p q (B := 1000000) hp hq (by omega)
  have lQ := be_leL (Nat.div_le_self (rq n p q).num.natAbs (rq n p q).den) lP
  have hV : 9223372036854775808 ≤ ((rq n p q).num.natAbs / (rq n p q).den) := ho
  have HR : Hid (be ((rq n p q).num.natAbs % (rq n p q).den) = []) := be_nil.2 hr
  have HF := Lib.hid hfin
  clear hneg hfin hr
  go_enter Tryd.func30, Tryd.ntmps30
  go_upto_region 1 with (fail)
  obtain ⟨W0, hW0, hB0, hb⟩ := start1 w 26 [.bool n, .string ⟨p.toArray⟩, .string ⟨q.toArray⟩]
  rw [← hW0]
  clear hW0
  refine jq 2 ?_
  refine ja hB0 Tryd.underlying26 (by rfl) info_rat ?_
  refine jc (rt true (be (rq n p q).num.natAbs) (be (rq n p q).den)) (fun X hX hF => mo (ofQ n p q X (by omega) (by omega)) (by rw [HN.out])) ?_
  refine jz fun X1 hX1 => ?_
  have hB0 := hB0.bel hX1
  have hb := bel_next hb hX1
  clear hX1
  go_upto_region 2 with (refine osn 78 4 11 #[.bool true, .string ⟨(be (rq n p q).num.natAbs).toArray⟩, .string ⟨(be (rq n p q).den).toArray⟩] info_fr ?_)
  obtain ⟨Y1, hY9, hD4, hS9⟩ := start1 X1 78 [.bool true, .string ⟨(be (rq n p q).num.natAbs).toArray⟩, .string ⟨(be (rq n p q).den).toArray⟩]
  rw [← hY9]
  clear hY9
  have hgs4 := hb.size
  have hlt4x0 := hB0.lt
  have hB0 := hB0.bel hS9
  have hb := bel_next hb hS9
  clear hS9
  generalize X1.heap.size = g4 at *
  go_upto_region 2 with (fail)
  refine jp ?_
  refine jn (.pointer (some ⟨g4, 1, none⟩)) ?_
  refine jf (st (be (rq n p q).num.natAbs)) hD4 1 load_str ?_
  refine jn (.pointer (some ⟨g4, 2, none⟩)) ?_
  refine jf (st (be (rq n p q).den)) hD4 2 load_str ?_
  refine jc (.tuple #[st (be ((rq n p q).num.natAbs / (rq n p q).den)), st (be ((rq n p q).num.natAbs % (rq n p q).den)), .int .i64 0]) (fun X hX hF => mo (ndivC (be (rq n p q).num.natAbs) (be (rq n p q).den) X (by omega) (by omega) (by rw [val_be]; exact HDP.out)) (by simp only [val_be])) ?_
  refine jm (.tuple #[st (be ((rq n p q).num.natAbs / (rq n p q).den)), st (be ((rq n p q).num.natAbs % (rq n p q).den)), .int .i64 0]) ?_
  refine jm (st (be ((rq n p q).num.natAbs / (rq n p q).den))) ?_
  refine jm (st (be ((rq n p q).num.natAbs % (rq n p q).den))) ?_
  refine jm (.int .i64 0) ?_
  refine jm (st (be ((rq n p q).num.natAbs / (rq n p q).den))) ?_
  refine jm (st (be ((rq n p q).num.natAbs % (rq n p q).den))) ?_
  refine jm (.int .i64 0) ?_
  refine jz fun X2 hX2 => ?_
  have hB0 := hB0.bel hX2
  have hD4 := hD4.bel hX2
  have hb := bel_next hb hX2
  clear hX2
  go_upto_region 3 with (fail)
  refine jp ?_
  refine jn (.pointer (some ⟨g4, 0, none⟩)) ?_
  refine jf (.bool true) hD4 0 load_bool ?_
  refine jm (.bool true) ?_
  refine jm (st (be ((rq n p q).num.natAbs % (rq n p q).den))) ?_
  refine jv (.bool false) (exec_nesB _ _ _ _ (by rfl) (be ((rq n p q).num.natAbs % (rq n p q).den)) ([] : List UInt8) (by rfl) (by rfl) false (nes_f HR.out)) ?_
  refine jm (.bool false) ?_
  refine jz fun X3 hX3 => ?_
  have hB0 := hB0.bel hX3
  have hD4 := hD4.bel hX3
  have hb := bel_next hb hX3
  clear hX3
  go_upto_region 5 with (fail)
  refine jp ?_
  refine jm (st (be ((rq n p q).num.natAbs / (rq n p q).den))) ?_
  refine jc (.tuple #[.int .i64 0, .int .i64 3]) (fun X hX hF => mo (nvalE (be ((rq n p q).num.natAbs / (rq n p q).den)) X (by omega) (by rw [val_be]; exact hV)) (by rfl)) ?_
  refine jm (.tuple #[.int .i64 0, .int .i64 3]) ?_
  refine jm (.int .i64 0) ?_
  refine jm (.int .i64 3) ?_
  refine jm (.int .i64 0) ?_
  refine jm (.int .i64 3) ?_
  refine jz fun X4 hX4 => ?_
  have hB0 := hB0.bel hX4
  have hD4 := hD4.bel hX4
  have hb := bel_next hb hX4
  clear hX4
  go_upto_region 6 with (fail)
  refine jp ?_
  refine jm (.int .i64 3) ?_
  refine jv (.bool true) (exec_nei _ _ _ _ (by rfl) .i64 3 0 (by rfl) (by rfl) true (by rw [decide_eq_false (by omega)]; rfl)) ?_
  refine jm (.bool true) ?_
  refine js ?_
  refine js ?_
  refine jm (.bool true) ?_
  refine jz fun X5 hX5 => ?_
  have hB0 := hB0.bel hX5
  have hD4 := hD4.bel hX5
  have hb := bel_next hb hX5
  clear hX5
  go_wp2
  go_ret2
  exact ⟨by rw [HF.out.1, HF.out.2]; rfl, hb⟩

theorem flo_z_big (n : Bool) (p q : List UInt8) (w : World) (hp : p.length ≤ 1000000) (hq : q.length ≤ 1000000) (hneg : rN (rq n p q) = true) (hr : (rq n p q).num.natAbs % (rq n p q).den = 0) (ho1 : ((rq n p q).num.natAbs / (rq n p q).den) < 9223372036854775808) (ho2 : 999999999999999 < ((rq n p q).num.natAbs / (rq n p q).den)) (hfin : floN (rq n p q) = 0 ∧ floE (rq n p q) = 3) : Calls Tryd.prog 30 #[.agg #[.bool n, .string ⟨p.toArray⟩, .string ⟨q.toArray⟩]] w fun e w' => e = .returned (.tuple #[.int .i64 (floN (rq n p q)), .int .i64 (floE (rq n p q))]) ∧ Since w w' := by
  have HN : Hid (rN (rq n p q) = true) := hneg
  have HDP : Hid (0 < (rq n p q).den) := Nat.pos_of_ne_zero (rq n p q).den_nz
  have lP := lenP n p q (B := 1000000) hp hq (by omega)
  have lD := lenD n p q (B := 1000000) hp hq (by omega)
  have lQ := be_leL (Nat.div_le_self (rq n p q).num.natAbs (rq n p q).den) lP
  have hV : ((rq n p q).num.natAbs / (rq n p q).den) < 9223372036854775808 := ho1
  have hV2 : 999999999999999 < ((rq n p q).num.natAbs / (rq n p q).den) := ho2
  have HR : Hid (be ((rq n p q).num.natAbs % (rq n p q).den) = []) := be_nil.2 hr
  have HF := Lib.hid hfin
  clear hneg hfin hr
  go_enter Tryd.func30, Tryd.ntmps30
  go_upto_region 1 with (fail)
  obtain ⟨W0, hW0, hB0, hb⟩ := start1 w 26 [.bool n, .string ⟨p.toArray⟩, .string ⟨q.toArray⟩]
  rw [← hW0]
  clear hW0
  refine jq 2 ?_
  refine ja hB0 Tryd.underlying26 (by rfl) info_rat ?_
  refine jc (rt true (be (rq n p q).num.natAbs) (be (rq n p q).den)) (fun X hX hF => mo (ofQ n p q X (by omega) (by omega)) (by rw [HN.out])) ?_
  refine jz fun X1 hX1 => ?_
  have hB0 := hB0.bel hX1
  have hb := bel_next hb hX1
  clear hX1
  go_upto_region 2 with (refine osn 78 4 11 #[.bool true, .string ⟨(be (rq n p q).num.natAbs).toArray⟩, .string ⟨(be (rq n p q).den).toArray⟩] info_fr ?_)
  obtain ⟨Y1, hY9, hD4, hS9⟩ := start1 X1 78 [.bool true, .string ⟨(be (rq n p q).num.natAbs).toArray⟩, .string ⟨(be (rq n p q).den).toArray⟩]
  rw [← hY9]
  clear hY9
  have hgs4 := hb.size
  have hlt4x0 := hB0.lt
  have hB0 := hB0.bel hS9
  have hb := bel_next hb hS9
  clear hS9
  generalize X1.heap.size = g4 at *
  go_upto_region 2 with (fail)
  refine jp ?_
  refine jn (.pointer (some ⟨g4, 1, none⟩)) ?_
  refine jf (st (be (rq n p q).num.natAbs)) hD4 1 load_str ?_
  refine jn (.pointer (some ⟨g4, 2, none⟩)) ?_
  refine jf (st (be (rq n p q).den)) hD4 2 load_str ?_
  refine jc (.tuple #[st (be ((rq n p q).num.natAbs / (rq n p q).den)), st (be ((rq n p q).num.natAbs % (rq n p q).den)), .int .i64 0]) (fun X hX hF => mo (ndivC (be (rq n p q).num.natAbs) (be (rq n p q).den) X (by omega) (by omega) (by rw [val_be]; exact HDP.out)) (by simp only [val_be])) ?_
  refine jm (.tuple #[st (be ((rq n p q).num.natAbs / (rq n p q).den)), st (be ((rq n p q).num.natAbs % (rq n p q).den)), .int .i64 0]) ?_
  refine jm (st (be ((rq n p q).num.natAbs / (rq n p q).den))) ?_
  refine jm (st (be ((rq n p q).num.natAbs % (rq n p q).den))) ?_
  refine jm (.int .i64 0) ?_
  refine jm (st (be ((rq n p q).num.natAbs / (rq n p q).den))) ?_
  refine jm (st (be ((rq n p q).num.natAbs % (rq n p q).den))) ?_
  refine jm (.int .i64 0) ?_
  refine jz fun X2 hX2 => ?_
  have hB0 := hB0.bel hX2
  have hD4 := hD4.bel hX2
  have hb := bel_next hb hX2
  clear hX2
  go_upto_region 3 with (fail)
  refine jp ?_
  refine jn (.pointer (some ⟨g4, 0, none⟩)) ?_
  refine jf (.bool true) hD4 0 load_bool ?_
  refine jm (.bool true) ?_
  refine jm (st (be ((rq n p q).num.natAbs % (rq n p q).den))) ?_
  refine jv (.bool false) (exec_nesB _ _ _ _ (by rfl) (be ((rq n p q).num.natAbs % (rq n p q).den)) ([] : List UInt8) (by rfl) (by rfl) false (nes_f HR.out)) ?_
  refine jm (.bool false) ?_
  refine jz fun X3 hX3 => ?_
  have hB0 := hB0.bel hX3
  have hD4 := hD4.bel hX3
  have hb := bel_next hb hX3
  clear hX3
  go_upto_region 5 with (fail)
  refine jp ?_
  refine jm (st (be ((rq n p q).num.natAbs / (rq n p q).den))) ?_
  refine jc (.tuple #[.int .i64 ((((rq n p q).num.natAbs / (rq n p q).den) : Nat) : Int), .int .i64 0]) (fun X hX hF => mo (nvalC (be ((rq n p q).num.natAbs / (rq n p q).den)) X (by omega) (by rw [val_be]; exact hV)) (by simp only [val_be])) ?_
  refine jm (.tuple #[.int .i64 ((((rq n p q).num.natAbs / (rq n p q).den) : Nat) : Int), .int .i64 0]) ?_
  refine jm (.int .i64 ((((rq n p q).num.natAbs / (rq n p q).den) : Nat) : Int)) ?_
  refine jm (.int .i64 0) ?_
  refine jm (.int .i64 ((((rq n p q).num.natAbs / (rq n p q).den) : Nat) : Int)) ?_
  refine jm (.int .i64 0) ?_
  refine jz fun X4 hX4 => ?_
  have hB0 := hB0.bel hX4
  have hD4 := hD4.bel hX4
  have hb := bel_next hb hX4
  clear hX4
  go_upto_region 6 with (fail)
  refine jp ?_
  refine jm (.int .i64 0) ?_
  refine jv (.bool false) (exec_nei _ _ _ _ (by rfl) .i64 0 0 (by rfl) (by rfl) false (by rw [decide_eq_true (by omega)]; rfl)) ?_
  refine jm (.bool false) ?_
  refine jm (.int .i64 ((((rq n p q).num.natAbs / (rq n p q).den) : Nat) : Int)) ?_
  refine jv (.bool true) (exec_gtr _ _ _ _ (by rfl) .i64 ((((rq n p q).num.natAbs / (rq n p q).den) : Nat) : Int) 999999999999999 (by rfl) (by rfl) true (decide_eq_true (by omega))) ?_
  refine jm (.bool true) ?_
  refine jz fun X5 hX5 => ?_
  have hB0 := hB0.bel hX5
  have hD4 := hD4.bel hX5
  have hb := bel_next hb hX5
  clear hX5
  go_wp2
  go_ret2
  exact ⟨by rw [HF.out.1, HF.out.2]; rfl, hb⟩

theorem flo_z_ok (n : Bool) (p q : List UInt8) (w : World) (hp : p.length ≤ 1000000) (hq : q.length ≤ 1000000) (hneg : rN (rq n p q) = true) (hr : (rq n p q).num.natAbs % (rq n p q).den = 0) (ho : ((rq n p q).num.natAbs / (rq n p q).den) ≤ 999999999999999) (hfin : floN (rq n p q) = -((((rq n p q).num.natAbs / (rq n p q).den) : Nat) : Int) ∧ floE (rq n p q) = 0) : Calls Tryd.prog 30 #[.agg #[.bool n, .string ⟨p.toArray⟩, .string ⟨q.toArray⟩]] w fun e w' => e = .returned (.tuple #[.int .i64 (floN (rq n p q)), .int .i64 (floE (rq n p q))]) ∧ Since w w' := by
  have HN : Hid (rN (rq n p q) = true) := hneg
  have HDP : Hid (0 < (rq n p q).den) := Nat.pos_of_ne_zero (rq n p q).den_nz
  have lP := lenP n p q (B := 1000000) hp hq (by omega)
  have lD := lenD n p q (B := 1000000) hp hq (by omega)
  have lQ := be_leL (Nat.div_le_self (rq n p q).num.natAbs (rq n p q).den) lP
  have hV2 : ((rq n p q).num.natAbs / (rq n p q).den) ≤ 999999999999999 := ho
  have hV : ((rq n p q).num.natAbs / (rq n p q).den) < 9223372036854775808 := by omega
  have HR : Hid (be ((rq n p q).num.natAbs % (rq n p q).den) = []) := be_nil.2 hr
  have HF := Lib.hid hfin
  clear hneg hfin hr
  go_enter Tryd.func30, Tryd.ntmps30
  go_upto_region 1 with (fail)
  obtain ⟨W0, hW0, hB0, hb⟩ := start1 w 26 [.bool n, .string ⟨p.toArray⟩, .string ⟨q.toArray⟩]
  rw [← hW0]
  clear hW0
  refine jq 2 ?_
  refine ja hB0 Tryd.underlying26 (by rfl) info_rat ?_
  refine jc (rt true (be (rq n p q).num.natAbs) (be (rq n p q).den)) (fun X hX hF => mo (ofQ n p q X (by omega) (by omega)) (by rw [HN.out])) ?_
  refine jz fun X1 hX1 => ?_
  have hB0 := hB0.bel hX1
  have hb := bel_next hb hX1
  clear hX1
  go_upto_region 2 with (refine osn 78 4 11 #[.bool true, .string ⟨(be (rq n p q).num.natAbs).toArray⟩, .string ⟨(be (rq n p q).den).toArray⟩] info_fr ?_)
  obtain ⟨Y1, hY9, hD4, hS9⟩ := start1 X1 78 [.bool true, .string ⟨(be (rq n p q).num.natAbs).toArray⟩, .string ⟨(be (rq n p q).den).toArray⟩]
  rw [← hY9]
  clear hY9
  have hgs4 := hb.size
  have hlt4x0 := hB0.lt
  have hB0 := hB0.bel hS9
  have hb := bel_next hb hS9
  clear hS9
  generalize X1.heap.size = g4 at *
  go_upto_region 2 with (fail)
  refine jp ?_
  refine jn (.pointer (some ⟨g4, 1, none⟩)) ?_
  refine jf (st (be (rq n p q).num.natAbs)) hD4 1 load_str ?_
  refine jn (.pointer (some ⟨g4, 2, none⟩)) ?_
  refine jf (st (be (rq n p q).den)) hD4 2 load_str ?_
  refine jc (.tuple #[st (be ((rq n p q).num.natAbs / (rq n p q).den)), st (be ((rq n p q).num.natAbs % (rq n p q).den)), .int .i64 0]) (fun X hX hF => mo (ndivC (be (rq n p q).num.natAbs) (be (rq n p q).den) X (by omega) (by omega) (by rw [val_be]; exact HDP.out)) (by simp only [val_be])) ?_
  refine jm (.tuple #[st (be ((rq n p q).num.natAbs / (rq n p q).den)), st (be ((rq n p q).num.natAbs % (rq n p q).den)), .int .i64 0]) ?_
  refine jm (st (be ((rq n p q).num.natAbs / (rq n p q).den))) ?_
  refine jm (st (be ((rq n p q).num.natAbs % (rq n p q).den))) ?_
  refine jm (.int .i64 0) ?_
  refine jm (st (be ((rq n p q).num.natAbs / (rq n p q).den))) ?_
  refine jm (st (be ((rq n p q).num.natAbs % (rq n p q).den))) ?_
  refine jm (.int .i64 0) ?_
  refine jz fun X2 hX2 => ?_
  have hB0 := hB0.bel hX2
  have hD4 := hD4.bel hX2
  have hb := bel_next hb hX2
  clear hX2
  go_upto_region 3 with (fail)
  refine jp ?_
  refine jn (.pointer (some ⟨g4, 0, none⟩)) ?_
  refine jf (.bool true) hD4 0 load_bool ?_
  refine jm (.bool true) ?_
  refine jm (st (be ((rq n p q).num.natAbs % (rq n p q).den))) ?_
  refine jv (.bool false) (exec_nesB _ _ _ _ (by rfl) (be ((rq n p q).num.natAbs % (rq n p q).den)) ([] : List UInt8) (by rfl) (by rfl) false (nes_f HR.out)) ?_
  refine jm (.bool false) ?_
  refine jz fun X3 hX3 => ?_
  have hB0 := hB0.bel hX3
  have hD4 := hD4.bel hX3
  have hb := bel_next hb hX3
  clear hX3
  go_upto_region 5 with (fail)
  refine jp ?_
  refine jm (st (be ((rq n p q).num.natAbs / (rq n p q).den))) ?_
  refine jc (.tuple #[.int .i64 ((((rq n p q).num.natAbs / (rq n p q).den) : Nat) : Int), .int .i64 0]) (fun X hX hF => mo (nvalC (be ((rq n p q).num.natAbs / (rq n p q).den)) X (by omega) (by rw [val_be]; exact hV)) (by simp only [val_be])) ?_
  refine jm (.tuple #[.int .i64 ((((rq n p q).num.natAbs / (rq n p q).den) : Nat) : Int), .int .i64 0]) ?_
  refine jm (.int .i64 ((((rq n p q).num.natAbs / (rq n p q).den) : Nat) : Int)) ?_
  refine jm (.int .i64 0) ?_
  refine jm (.int .i64 ((((rq n p q).num.natAbs / (rq n p q).den) : Nat) : Int)) ?_
  refine jm (.int .i64 0) ?_
  refine jz fun X4 hX4 => ?_
  have hB0 := hB0.bel hX4
  have hD4 := hD4.bel hX4
  have hb := bel_next hb hX4
  clear hX4
  go_upto_region 6 with (fail)
  refine jp ?_
  refine jm (.int .i64 0) ?_
  refine jv (.bool false) (exec_nei _ _ _ _ (by rfl) .i64 0 0 (by rfl) (by rfl) false (by rw [decide_eq_true (by omega)]; rfl)) ?_
  refine jm (.bool false) ?_
  refine jm (.int .i64 ((((rq n p q).num.natAbs / (rq n p q).den) : Nat) : Int)) ?_
  refine jv (.bool false) (exec_gtr _ _ _ _ (by rfl) .i64 ((((rq n p q).num.natAbs / (rq n p q).den) : Nat) : Int) 999999999999999 (by rfl) (by rfl) false (decide_eq_false (by omega))) ?_
  refine jm (.bool false) ?_
  refine jz fun X5 hX5 => ?_
  have hB0 := hB0.bel hX5
  have hD4 := hD4.bel hX5
  have hb := bel_next hb hX5
  clear hX5
  go_upto_region 8 with (fail)
  refine jp ?_
  refine jn (.pointer (some ⟨g4, 0, none⟩)) ?_
  refine jf (.bool true) hD4 0 load_bool ?_
  refine jz fun X6 hX6 => ?_
  have hB0 := hB0.bel hX6
  have hD4 := hD4.bel hX6
  have hb := bel_next hb hX6
  clear hX6
  go_upto_region 9 with (fail)
  refine jp ?_
  refine jm (.int .i64 ((((rq n p q).num.natAbs / (rq n p q).den) : Nat) : Int)) ?_
  refine jv (.int .i64 (-((((rq n p q).num.natAbs / (rq n p q).den) : Nat) : Int))) (exec_neg _ _ (by rfl) ((((rq n p q).num.natAbs / (rq n p q).den) : Nat) : Int) (-((((rq n p q).num.natAbs / (rq n p q).den) : Nat) : Int)) (by rfl) rfl (neg_bd hV2).1 (neg_bd hV2).2) ?_
  refine jm (.int .i64 (-((((rq n p q).num.natAbs / (rq n p q).den) : Nat) : Int))) ?_
  refine jz fun X7 hX7 => ?_
  have hB0 := hB0.bel hX7
  have hD4 := hD4.bel hX7
  have hb := bel_next hb hX7
  clear hX7
  go_upto_region 10 with (fail)
  refine jp ?_
  refine jm (.int .i64 (-((((rq n p q).num.natAbs / (rq n p q).den) : Nat) : Int))) ?_
  refine jm (.int .i64 (-((((rq n p q).num.natAbs / (rq n p q).den) : Nat) : Int))) ?_
  refine jm (.int .i64 0) ?_
  refine jz fun X8 hX8 => ?_
  have hB0 := hB0.bel hX8
  have hD4 := hD4.bel hX8
  have hb := bel_next hb hX8
  clear hX8
  go_wp2
  go_ret2
  exact ⟨by rw [HF.out.1, HF.out.2]; rfl, hb⟩

theorem flo_r_err (n : Bool) (p q : List UInt8) (w : World) (hp : p.length ≤ 1000000) (hq : q.length ≤ 1000000) (hneg : rN (rq n p q) = true) (hr : ¬ (rq n p q).num.natAbs % (rq n p q).den = 0) (ho : 9223372036854775808 ≤ (((rq n p q).num.natAbs / (rq n p q).den) + 1)) (hfin : floN (rq n p q) = 0 ∧ floE (rq n p q) = 3) : Calls Tryd.prog 30 #[.agg #[.bool n, .string ⟨p.toArray⟩, .string ⟨q.toArray⟩]] w fun e w' => e = .returned (.tuple #[.int .i64 (floN (rq n p q)), .int .i64 (floE (rq n p q))]) ∧ Since w w' := by
  have HN : Hid (rN (rq n p q) = true) := hneg
  have HDP : Hid (0 < (rq n p q).den) := Nat.pos_of_ne_zero (rq n p q).den_nz
  have lP := lenP n p q (B := 1000000) hp hq (by omega)
  have lD := lenD n p q (B := 1000000) hp hq (by omega)
  have lQ := be_leL (Nat.div_le_self (rq n p q).num.natAbs (rq n p q).den) lP
  have hV : 9223372036854775808 ≤ (((rq n p q).num.natAbs / (rq n p q).den) + 1) := ho
  have HR : Hid (be ((rq n p q).num.natAbs % (rq n p q).den) ≠ []) := be_ne (Nat.pos_of_ne_zero hr)
  have HF := Lib.hid hfin
  clear hneg hfin hr
  go_enter Tryd.func30, Tryd.ntmps30
  go_upto_region 1 with (fail)
  obtain ⟨W0, hW0, hB0, hb⟩ := start1 w 26 [.bool n, .string ⟨p.toArray⟩, .string ⟨q.toArray⟩]
  rw [← hW0]
  clear hW0
  refine jq 2 ?_
  refine ja hB0 Tryd.underlying26 (by rfl) info_rat ?_
  refine jc (rt true (be (rq n p q).num.natAbs) (be (rq n p q).den)) (fun X hX hF => mo (ofQ n p q X (by omega) (by omega)) (by rw [HN.out])) ?_
  refine jz fun X1 hX1 => ?_
  have hB0 := hB0.bel hX1
  have hb := bel_next hb hX1
  clear hX1
  go_upto_region 2 with (refine osn 78 4 11 #[.bool true, .string ⟨(be (rq n p q).num.natAbs).toArray⟩, .string ⟨(be (rq n p q).den).toArray⟩] info_fr ?_)
  obtain ⟨Y1, hY9, hD4, hS9⟩ := start1 X1 78 [.bool true, .string ⟨(be (rq n p q).num.natAbs).toArray⟩, .string ⟨(be (rq n p q).den).toArray⟩]
  rw [← hY9]
  clear hY9
  have hgs4 := hb.size
  have hlt4x0 := hB0.lt
  have hB0 := hB0.bel hS9
  have hb := bel_next hb hS9
  clear hS9
  generalize X1.heap.size = g4 at *
  go_upto_region 2 with (fail)
  refine jp ?_
  refine jn (.pointer (some ⟨g4, 1, none⟩)) ?_
  refine jf (st (be (rq n p q).num.natAbs)) hD4 1 load_str ?_
  refine jn (.pointer (some ⟨g4, 2, none⟩)) ?_
  refine jf (st (be (rq n p q).den)) hD4 2 load_str ?_
  refine jc (.tuple #[st (be ((rq n p q).num.natAbs / (rq n p q).den)), st (be ((rq n p q).num.natAbs % (rq n p q).den)), .int .i64 0]) (fun X hX hF => mo (ndivC (be (rq n p q).num.natAbs) (be (rq n p q).den) X (by omega) (by omega) (by rw [val_be]; exact HDP.out)) (by simp only [val_be])) ?_
  refine jm (.tuple #[st (be ((rq n p q).num.natAbs / (rq n p q).den)), st (be ((rq n p q).num.natAbs % (rq n p q).den)), .int .i64 0]) ?_
  refine jm (st (be ((rq n p q).num.natAbs / (rq n p q).den))) ?_
  refine jm (st (be ((rq n p q).num.natAbs % (rq n p q).den))) ?_
  refine jm (.int .i64 0) ?_
  refine jm (st (be ((rq n p q).num.natAbs / (rq n p q).den))) ?_
  refine jm (st (be ((rq n p q).num.natAbs % (rq n p q).den))) ?_
  refine jm (.int .i64 0) ?_
  refine jz fun X2 hX2 => ?_
  have hB0 := hB0.bel hX2
  have hD4 := hD4.bel hX2
  have hb := bel_next hb hX2
  clear hX2
  go_upto_region 3 with (fail)
  refine jp ?_
  refine jn (.pointer (some ⟨g4, 0, none⟩)) ?_
  refine jf (.bool true) hD4 0 load_bool ?_
  refine jm (.bool true) ?_
  refine jm (st (be ((rq n p q).num.natAbs % (rq n p q).den))) ?_
  refine jv (.bool true) (exec_nesB _ _ _ _ (by rfl) (be ((rq n p q).num.natAbs % (rq n p q).den)) ([] : List UInt8) (by rfl) (by rfl) true (nes_t HR.out)) ?_
  refine jm (.bool true) ?_
  refine jz fun X3 hX3 => ?_
  have hB0 := hB0.bel hX3
  have hD4 := hD4.bel hX3
  have hb := bel_next hb hX3
  clear hX3
  go_upto_region 4 with (fail)
  refine jp ?_
  refine jm (st (be ((rq n p q).num.natAbs / (rq n p q).den))) ?_
  refine jc (st (be (((rq n p q).num.natAbs / (rq n p q).den) + 1))) (fun X hX hF => mo (naddC (be ((rq n p q).num.natAbs / (rq n p q).den)) [1] X (by omega) (by decide)) (by rw [val_be, show val [1] = 1 from rfl])) ?_
  refine jm (st (be (((rq n p q).num.natAbs / (rq n p q).den) + 1))) ?_
  refine jz fun X4 hX4 => ?_
  have hB0 := hB0.bel hX4
  have hD4 := hD4.bel hX4
  have hb := bel_next hb hX4
  clear hX4
  go_upto_region 5 with (fail)
  refine jp ?_
  refine jm (st (be (((rq n p q).num.natAbs / (rq n p q).den) + 1))) ?_
  refine jc (.tuple #[.int .i64 0, .int .i64 3]) (fun X hX hF => mo (nvalE (be (((rq n p q).num.natAbs / (rq n p q).den) + 1)) X (by have l9 := be_addL lQ (be_litL (k := 1) (n := 1) (by decide)); omega) (by rw [val_be]; exact hV)) (by rfl)) ?_
  refine jm (.tuple #[.int .i64 0, .int .i64 3]) ?_
  refine jm (.int .i64 0) ?_
  refine jm (.int .i64 3) ?_
  refine jm (.int .i64 0) ?_
  refine jm (.int .i64 3) ?_
  refine jz fun X5 hX5 => ?_
  have hB0 := hB0.bel hX5
  have hD4 := hD4.bel hX5
  have hb := bel_next hb hX5
  clear hX5
  go_upto_region 6 with (fail)
  refine jp ?_
  refine jm (.int .i64 3) ?_
  refine jv (.bool true) (exec_nei _ _ _ _ (by rfl) .i64 3 0 (by rfl) (by rfl) true (by rw [decide_eq_false (by omega)]; rfl)) ?_
  refine jm (.bool true) ?_
  refine js ?_
  refine js ?_
  refine jm (.bool true) ?_
  refine jz fun X6 hX6 => ?_
  have hB0 := hB0.bel hX6
  have hD4 := hD4.bel hX6
  have hb := bel_next hb hX6
  clear hX6
  go_wp2
  go_ret2
  exact ⟨by rw [HF.out.1, HF.out.2]; rfl, hb⟩

theorem flo_r_big (n : Bool) (p q : List UInt8) (w : World) (hp : p.length ≤ 1000000) (hq : q.length ≤ 1000000) (hneg : rN (rq n p q) = true) (hr : ¬ (rq n p q).num.natAbs % (rq n p q).den = 0) (ho1 : (((rq n p q).num.natAbs / (rq n p q).den) + 1) < 9223372036854775808) (ho2 : 999999999999999 < (((rq n p q).num.natAbs / (rq n p q).den) + 1)) (hfin : floN (rq n p q) = 0 ∧ floE (rq n p q) = 3) : Calls Tryd.prog 30 #[.agg #[.bool n, .string ⟨p.toArray⟩, .string ⟨q.toArray⟩]] w fun e w' => e = .returned (.tuple #[.int .i64 (floN (rq n p q)), .int .i64 (floE (rq n p q))]) ∧ Since w w' := by
  have HN : Hid (rN (rq n p q) = true) := hneg
  have HDP : Hid (0 < (rq n p q).den) := Nat.pos_of_ne_zero (rq n p q).den_nz
  have lP := lenP n p q (B := 1000000) hp hq (by omega)
  have lD := lenD n p q (B := 1000000) hp hq (by omega)
  have lQ := be_leL (Nat.div_le_self (rq n p q).num.natAbs (rq n p q).den) lP
  have hV : (((rq n p q).num.natAbs / (rq n p q).den) + 1) < 9223372036854775808 := ho1
  have hV2 : 999999999999999 < (((rq n p q).num.natAbs / (rq n p q).den) + 1) := ho2
  have HR : Hid (be ((rq n p q).num.natAbs % (rq n p q).den) ≠ []) := be_ne (Nat.pos_of_ne_zero hr)
  have HF := Lib.hid hfin
  clear hneg hfin hr
  go_enter Tryd.func30, Tryd.ntmps30
  go_upto_region 1 with (fail)
  obtain ⟨W0, hW0, hB0, hb⟩ := start1 w 26 [.bool n, .string ⟨p.toArray⟩, .string ⟨q.toArray⟩]
  rw [← hW0]
  clear hW0
  refine jq 2 ?_
  refine ja hB0 Tryd.underlying26 (by rfl) info_rat ?_
  refine jc (rt true (be (rq n p q).num.natAbs) (be (rq n p q).den)) (fun X hX hF => mo (ofQ n p q X (by omega) (by omega)) (by rw [HN.out])) ?_
  refine jz fun X1 hX1 => ?_
  have hB0 := hB0.bel hX1
  have hb := bel_next hb hX1
  clear hX1
  go_upto_region 2 with (refine osn 78 4 11 #[.bool true, .string ⟨(be (rq n p q).num.natAbs).toArray⟩, .string ⟨(be (rq n p q).den).toArray⟩] info_fr ?_)
  obtain ⟨Y1, hY9, hD4, hS9⟩ := start1 X1 78 [.bool true, .string ⟨(be (rq n p q).num.natAbs).toArray⟩, .string ⟨(be (rq n p q).den).toArray⟩]
  rw [← hY9]
  clear hY9
  have hgs4 := hb.size
  have hlt4x0 := hB0.lt
  have hB0 := hB0.bel hS9
  have hb := bel_next hb hS9
  clear hS9
  generalize X1.heap.size = g4 at *
  go_upto_region 2 with (fail)
  refine jp ?_
  refine jn (.pointer (some ⟨g4, 1, none⟩)) ?_
  refine jf (st (be (rq n p q).num.natAbs)) hD4 1 load_str ?_
  refine jn (.pointer (some ⟨g4, 2, none⟩)) ?_
  refine jf (st (be (rq n p q).den)) hD4 2 load_str ?_
  refine jc (.tuple #[st (be ((rq n p q).num.natAbs / (rq n p q).den)), st (be ((rq n p q).num.natAbs % (rq n p q).den)), .int .i64 0]) (fun X hX hF => mo (ndivC (be (rq n p q).num.natAbs) (be (rq n p q).den) X (by omega) (by omega) (by rw [val_be]; exact HDP.out)) (by simp only [val_be])) ?_
  refine jm (.tuple #[st (be ((rq n p q).num.natAbs / (rq n p q).den)), st (be ((rq n p q).num.natAbs % (rq n p q).den)), .int .i64 0]) ?_
  refine jm (st (be ((rq n p q).num.natAbs / (rq n p q).den))) ?_
  refine jm (st (be ((rq n p q).num.natAbs % (rq n p q).den))) ?_
  refine jm (.int .i64 0) ?_
  refine jm (st (be ((rq n p q).num.natAbs / (rq n p q).den))) ?_
  refine jm (st (be ((rq n p q).num.natAbs % (rq n p q).den))) ?_
  refine jm (.int .i64 0) ?_
  refine jz fun X2 hX2 => ?_
  have hB0 := hB0.bel hX2
  have hD4 := hD4.bel hX2
  have hb := bel_next hb hX2
  clear hX2
  go_upto_region 3 with (fail)
  refine jp ?_
  refine jn (.pointer (some ⟨g4, 0, none⟩)) ?_
  refine jf (.bool true) hD4 0 load_bool ?_
  refine jm (.bool true) ?_
  refine jm (st (be ((rq n p q).num.natAbs % (rq n p q).den))) ?_
  refine jv (.bool true) (exec_nesB _ _ _ _ (by rfl) (be ((rq n p q).num.natAbs % (rq n p q).den)) ([] : List UInt8) (by rfl) (by rfl) true (nes_t HR.out)) ?_
  refine jm (.bool true) ?_
  refine jz fun X3 hX3 => ?_
  have hB0 := hB0.bel hX3
  have hD4 := hD4.bel hX3
  have hb := bel_next hb hX3
  clear hX3
  go_upto_region 4 with (fail)
  refine jp ?_
  refine jm (st (be ((rq n p q).num.natAbs / (rq n p q).den))) ?_
  refine jc (st (be (((rq n p q).num.natAbs / (rq n p q).den) + 1))) (fun X hX hF => mo (naddC (be ((rq n p q).num.natAbs / (rq n p q).den)) [1] X (by omega) (by decide)) (by rw [val_be, show val [1] = 1 from rfl])) ?_
  refine jm (st (be (((rq n p q).num.natAbs / (rq n p q).den) + 1))) ?_
  refine jz fun X4 hX4 => ?_
  have hB0 := hB0.bel hX4
  have hD4 := hD4.bel hX4
  have hb := bel_next hb hX4
  clear hX4
  go_upto_region 5 with (fail)
  refine jp ?_
  refine jm (st (be (((rq n p q).num.natAbs / (rq n p q).den) + 1))) ?_
  refine jc (.tuple #[.int .i64 (((((rq n p q).num.natAbs / (rq n p q).den) + 1) : Nat) : Int), .int .i64 0]) (fun X hX hF => mo (nvalC (be (((rq n p q).num.natAbs / (rq n p q).den) + 1)) X (by have l9 := be_addL lQ (be_litL (k := 1) (n := 1) (by decide)); omega) (by rw [val_be]; exact hV)) (by simp only [val_be])) ?_
  refine jm (.tuple #[.int .i64 (((((rq n p q).num.natAbs / (rq n p q).den) + 1) : Nat) : Int), .int .i64 0]) ?_
  refine jm (.int .i64 (((((rq n p q).num.natAbs / (rq n p q).den) + 1) : Nat) : Int)) ?_
  refine jm (.int .i64 0) ?_
  refine jm (.int .i64 (((((rq n p q).num.natAbs / (rq n p q).den) + 1) : Nat) : Int)) ?_
  refine jm (.int .i64 0) ?_
  refine jz fun X5 hX5 => ?_
  have hB0 := hB0.bel hX5
  have hD4 := hD4.bel hX5
  have hb := bel_next hb hX5
  clear hX5
  go_upto_region 6 with (fail)
  refine jp ?_
  refine jm (.int .i64 0) ?_
  refine jv (.bool false) (exec_nei _ _ _ _ (by rfl) .i64 0 0 (by rfl) (by rfl) false (by rw [decide_eq_true (by omega)]; rfl)) ?_
  refine jm (.bool false) ?_
  refine jm (.int .i64 (((((rq n p q).num.natAbs / (rq n p q).den) + 1) : Nat) : Int)) ?_
  refine jv (.bool true) (exec_gtr _ _ _ _ (by rfl) .i64 (((((rq n p q).num.natAbs / (rq n p q).den) + 1) : Nat) : Int) 999999999999999 (by rfl) (by rfl) true (decide_eq_true (by omega))) ?_
  refine jm (.bool true) ?_
  refine jz fun X6 hX6 => ?_
  have hB0 := hB0.bel hX6
  have hD4 := hD4.bel hX6
  have hb := bel_next hb hX6
  clear hX6
  go_wp2
  go_ret2
  exact ⟨by rw [HF.out.1, HF.out.2]; rfl, hb⟩

theorem flo_r_ok (n : Bool) (p q : List UInt8) (w : World) (hp : p.length ≤ 1000000) (hq : q.length ≤ 1000000) (hneg : rN (rq n p q) = true) (hr : ¬ (rq n p q).num.natAbs % (rq n p q).den = 0) (ho : (((rq n p q).num.natAbs / (rq n p q).den) + 1) ≤ 999999999999999) (hfin : floN (rq n p q) = -(((((rq n p q).num.natAbs / (rq n p q).den) + 1) : Nat) : Int) ∧ floE (rq n p q) = 0) : Calls Tryd.prog 30 #[.agg #[.bool n, .string ⟨p.toArray⟩, .string ⟨q.toArray⟩]] w fun e w' => e = .returned (.tuple #[.int .i64 (floN (rq n p q)), .int .i64 (floE (rq n p q))]) ∧ Since w w' := by
  have HN : Hid (rN (rq n p q) = true) := hneg
  have HDP : Hid (0 < (rq n p q).den) := Nat.pos_of_ne_zero (rq n p q).den_nz
  have lP := lenP n p q (B := 1000000) hp hq (by omega)
  have lD := lenD n p q (B := 1000000) hp hq (by omega)
  have lQ := be_leL (Nat.div_le_self (rq n p q).num.natAbs (rq n p q).den) lP
  have hV2 : (((rq n p q).num.natAbs / (rq n p q).den) + 1) ≤ 999999999999999 := ho
  have hV : (((rq n p q).num.natAbs / (rq n p q).den) + 1) < 9223372036854775808 := by omega
  have HR : Hid (be ((rq n p q).num.natAbs % (rq n p q).den) ≠ []) := be_ne (Nat.pos_of_ne_zero hr)
  have HF := Lib.hid hfin
  clear hneg hfin hr
  go_enter Tryd.func30, Tryd.ntmps30
  go_upto_region 1 with (fail)
  obtain ⟨W0, hW0, hB0, hb⟩ := start1 w 26 [.bool n, .string ⟨p.toArray⟩, .string ⟨q.toArray⟩]
  rw [← hW0]
  clear hW0
  refine jq 2 ?_
  refine ja hB0 Tryd.underlying26 (by rfl) info_rat ?_
  refine jc (rt true (be (rq n p q).num.natAbs) (be (rq n p q).den)) (fun X hX hF => mo (ofQ n p q X (by omega) (by omega)) (by rw [HN.out])) ?_
  refine jz fun X1 hX1 => ?_
  have hB0 := hB0.bel hX1
  have hb := bel_next hb hX1
  clear hX1
  go_upto_region 2 with (refine osn 78 4 11 #[.bool true, .string ⟨(be (rq n p q).num.natAbs).toArray⟩, .string ⟨(be (rq n p q).den).toArray⟩] info_fr ?_)
  obtain ⟨Y1, hY9, hD4, hS9⟩ := start1 X1 78 [.bool true, .string ⟨(be (rq n p q).num.natAbs).toArray⟩, .string ⟨(be (rq n p q).den).toArray⟩]
  rw [← hY9]
  clear hY9
  have hgs4 := hb.size
  have hlt4x0 := hB0.lt
  have hB0 := hB0.bel hS9
  have hb := bel_next hb hS9
  clear hS9
  generalize X1.heap.size = g4 at *
  go_upto_region 2 with (fail)
  refine jp ?_
  refine jn (.pointer (some ⟨g4, 1, none⟩)) ?_
  refine jf (st (be (rq n p q).num.natAbs)) hD4 1 load_str ?_
  refine jn (.pointer (some ⟨g4, 2, none⟩)) ?_
  refine jf (st (be (rq n p q).den)) hD4 2 load_str ?_
  refine jc (.tuple #[st (be ((rq n p q).num.natAbs / (rq n p q).den)), st (be ((rq n p q).num.natAbs % (rq n p q).den)), .int .i64 0]) (fun X hX hF => mo (ndivC (be (rq n p q).num.natAbs) (be (rq n p q).den) X (by omega) (by omega) (by rw [val_be]; exact HDP.out)) (by simp only [val_be])) ?_
  refine jm (.tuple #[st (be ((rq n p q).num.natAbs / (rq n p q).den)), st (be ((rq n p q).num.natAbs % (rq n p q).den)), .int .i64 0]) ?_
  refine jm (st (be ((rq n p q).num.natAbs / (rq n p q).den))) ?_
  refine jm (st (be ((rq n p q).num.natAbs % (rq n p q).den))) ?_
  refine jm (.int .i64 0) ?_
  refine jm (st (be ((rq n p q).num.natAbs / (rq n p q).den))) ?_
  refine jm (st (be ((rq n p q).num.natAbs % (rq n p q).den))) ?_
  refine jm (.int .i64 0) ?_
  refine jz fun X2 hX2 => ?_
  have hB0 := hB0.bel hX2
  have hD4 := hD4.bel hX2
  have hb := bel_next hb hX2
  clear hX2
  go_upto_region 3 with (fail)
  refine jp ?_
  refine jn (.pointer (some ⟨g4, 0, none⟩)) ?_
  refine jf (.bool true) hD4 0 load_bool ?_
  refine jm (.bool true) ?_
  refine jm (st (be ((rq n p q).num.natAbs % (rq n p q).den))) ?_
  refine jv (.bool true) (exec_nesB _ _ _ _ (by rfl) (be ((rq n p q).num.natAbs % (rq n p q).den)) ([] : List UInt8) (by rfl) (by rfl) true (nes_t HR.out)) ?_
  refine jm (.bool true) ?_
  refine jz fun X3 hX3 => ?_
  have hB0 := hB0.bel hX3
  have hD4 := hD4.bel hX3
  have hb := bel_next hb hX3
  clear hX3
  go_upto_region 4 with (fail)
  refine jp ?_
  refine jm (st (be ((rq n p q).num.natAbs / (rq n p q).den))) ?_
  refine jc (st (be (((rq n p q).num.natAbs / (rq n p q).den) + 1))) (fun X hX hF => mo (naddC (be ((rq n p q).num.natAbs / (rq n p q).den)) [1] X (by omega) (by decide)) (by rw [val_be, show val [1] = 1 from rfl])) ?_
  refine jm (st (be (((rq n p q).num.natAbs / (rq n p q).den) + 1))) ?_
  refine jz fun X4 hX4 => ?_
  have hB0 := hB0.bel hX4
  have hD4 := hD4.bel hX4
  have hb := bel_next hb hX4
  clear hX4
  go_upto_region 5 with (fail)
  refine jp ?_
  refine jm (st (be (((rq n p q).num.natAbs / (rq n p q).den) + 1))) ?_
  refine jc (.tuple #[.int .i64 (((((rq n p q).num.natAbs / (rq n p q).den) + 1) : Nat) : Int), .int .i64 0]) (fun X hX hF => mo (nvalC (be (((rq n p q).num.natAbs / (rq n p q).den) + 1)) X (by have l9 := be_addL lQ (be_litL (k := 1) (n := 1) (by decide)); omega) (by rw [val_be]; exact hV)) (by simp only [val_be])) ?_
  refine jm (.tuple #[.int .i64 (((((rq n p q).num.natAbs / (rq n p q).den) + 1) : Nat) : Int), .int .i64 0]) ?_
  refine jm (.int .i64 (((((rq n p q).num.natAbs / (rq n p q).den) + 1) : Nat) : Int)) ?_
  refine jm (.int .i64 0) ?_
  refine jm (.int .i64 (((((rq n p q).num.natAbs / (rq n p q).den) + 1) : Nat) : Int)) ?_
  refine jm (.int .i64 0) ?_
  refine jz fun X5 hX5 => ?_
  have hB0 := hB0.bel hX5
  have hD4 := hD4.bel hX5
  have hb := bel_next hb hX5
  clear hX5
  go_upto_region 6 with (fail)
  refine jp ?_
  refine jm (.int .i64 0) ?_
  refine jv (.bool false) (exec_nei _ _ _ _ (by rfl) .i64 0 0 (by rfl) (by rfl) false (by rw [decide_eq_true (by omega)]; rfl)) ?_
  refine jm (.bool false) ?_
  refine jm (.int .i64 (((((rq n p q).num.natAbs / (rq n p q).den) + 1) : Nat) : Int)) ?_
  refine jv (.bool false) (exec_gtr _ _ _ _ (by rfl) .i64 (((((rq n p q).num.natAbs / (rq n p q).den) + 1) : Nat) : Int) 999999999999999 (by rfl) (by rfl) false (decide_eq_false (by omega))) ?_
  refine jm (.bool false) ?_
  refine jz fun X6 hX6 => ?_
  have hB0 := hB0.bel hX6
  have hD4 := hD4.bel hX6
  have hb := bel_next hb hX6
  clear hX6
  go_upto_region 8 with (fail)
  refine jp ?_
  refine jn (.pointer (some ⟨g4, 0, none⟩)) ?_
  refine jf (.bool true) hD4 0 load_bool ?_
  refine jz fun X7 hX7 => ?_
  have hB0 := hB0.bel hX7
  have hD4 := hD4.bel hX7
  have hb := bel_next hb hX7
  clear hX7
  go_upto_region 9 with (fail)
  refine jp ?_
  refine jm (.int .i64 (((((rq n p q).num.natAbs / (rq n p q).den) + 1) : Nat) : Int)) ?_
  refine jv (.int .i64 (-(((((rq n p q).num.natAbs / (rq n p q).den) + 1) : Nat) : Int))) (exec_neg _ _ (by rfl) (((((rq n p q).num.natAbs / (rq n p q).den) + 1) : Nat) : Int) (-(((((rq n p q).num.natAbs / (rq n p q).den) + 1) : Nat) : Int)) (by rfl) rfl (neg_bd hV2).1 (neg_bd hV2).2) ?_
  refine jm (.int .i64 (-(((((rq n p q).num.natAbs / (rq n p q).den) + 1) : Nat) : Int))) ?_
  refine jz fun X8 hX8 => ?_
  have hB0 := hB0.bel hX8
  have hD4 := hD4.bel hX8
  have hb := bel_next hb hX8
  clear hX8
  go_upto_region 10 with (fail)
  refine jp ?_
  refine jm (.int .i64 (-(((((rq n p q).num.natAbs / (rq n p q).den) + 1) : Nat) : Int))) ?_
  refine jm (.int .i64 (-(((((rq n p q).num.natAbs / (rq n p q).den) + 1) : Nat) : Int))) ?_
  refine jm (.int .i64 0) ?_
  refine jz fun X9 hX9 => ?_
  have hB0 := hB0.bel hX9
  have hD4 := hD4.bel hX9
  have hb := bel_next hb hX9
  clear hX9
  go_wp2
  go_ret2
  exact ⟨by rw [HF.out.1, HF.out.2]; rfl, hb⟩

theorem floQ (n : Bool) (p q : List UInt8) (w : World) (hp : p.length ≤ 1000000) (hq : q.length ≤ 1000000) : Calls Tryd.prog 30 #[.agg #[.bool n, .string ⟨p.toArray⟩, .string ⟨q.toArray⟩]] w fun e w' => e = .returned (.tuple #[.int .i64 (floN (rq n p q)), .int .i64 (floE (rq n p q))]) ∧ Since w w' := by
  have hf := flr_eq (rq n p q)
  have habs : (flr (rq n p q)).natAbs = flq (rN (rq n p q)) (rq n p q).num.natAbs (rq n p q).den := by rw [hf, sg_abs]
  have ok : ∀ v : Int, flq (rN (rq n p q)) (rq n p q).num.natAbs (rq n p q).den ≤ 999999999999999 → flr (rq n p q) = v → floN (rq n p q) = v ∧ floE (rq n p q) = 0 := fun v h1 h2 => by
    unfold floN floE
    rw [habs, if_pos h1, if_pos h1]
    exact ⟨h2, rfl⟩
  have bad : 999999999999999 < flq (rN (rq n p q)) (rq n p q).num.natAbs (rq n p q).den → floN (rq n p q) = 0 ∧ floE (rq n p q) = 3 := fun h1 => by
    unfold floN floE
    rw [habs, if_neg (by omega), if_neg (by omega)]
    exact ⟨rfl, rfl⟩
  rcases hn : rN (rq n p q) with _ | _
  · have hq0 : flq (rN (rq n p q)) (rq n p q).num.natAbs (rq n p q).den = (rq n p q).num.natAbs / (rq n p q).den := by unfold flq; rw [hn]; exact if_neg (by simp)
    rw [hq0] at ok bad hf
    rcases Nat.lt_or_ge 999999999999999 ((rq n p q).num.natAbs / (rq n p q).den) with h | h
    · rcases Nat.lt_or_ge ((rq n p q).num.natAbs / (rq n p q).den) 9223372036854775808 with h2 | h2
      · exact flo_p_big n p q w hp hq hn h2 h (bad h)
      · exact flo_p_err n p q w hp hq hn h2 (bad h)
    · exact flo_p_ok n p q w hp hq hn h (ok _ h (by rw [hf, hn]; rfl))
  · by_cases hr : (rq n p q).num.natAbs % (rq n p q).den = 0
    · have hq0 : flq (rN (rq n p q)) (rq n p q).num.natAbs (rq n p q).den = (rq n p q).num.natAbs / (rq n p q).den := by unfold flq; exact if_neg (by simp [hr])
      rw [hq0] at ok bad hf
      rcases Nat.lt_or_ge 999999999999999 ((rq n p q).num.natAbs / (rq n p q).den) with h | h
      · rcases Nat.lt_or_ge ((rq n p q).num.natAbs / (rq n p q).den) 9223372036854775808 with h2 | h2
        · exact flo_z_big n p q w hp hq hn hr h2 h (bad h)
        · exact flo_z_err n p q w hp hq hn hr h2 (bad h)
      · exact flo_z_ok n p q w hp hq hn hr h (ok _ h (by rw [hf, hn]; rfl))
    · have hq0 : flq (rN (rq n p q)) (rq n p q).num.natAbs (rq n p q).den = (rq n p q).num.natAbs / (rq n p q).den + 1 := by unfold flq; exact if_pos ⟨hn, hr⟩
      rw [hq0] at ok bad hf
      rcases Nat.lt_or_ge 999999999999999 ((rq n p q).num.natAbs / (rq n p q).den + 1) with h | h
      · rcases Nat.lt_or_ge ((rq n p q).num.natAbs / (rq n p q).den + 1) 9223372036854775808 with h2 | h2
        · exact flo_r_big n p q w hp hq hn hr h2 h (bad h)
        · exact flo_r_err n p q w hp hq hn hr h2 (bad h)
      · exact flo_r_ok n p q w hp hq hn hr h (ok _ h (by rw [hf, hn]; rfl))

end Go.Proofs.YtchhlgcakjjncaaDoor
