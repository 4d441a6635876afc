/-
  law 13: CurveFlowsAsSpecified.
-/
import Derived.Test.YtchhlgcakjjncaaGreatDoorRc3
set_option linter.unusedSimpArgs false
set_option linter.unusedVariables false
set_option maxRecDepth 100000
set_option maxHeartbeats 1600000
namespace Go.Proofs.YtchhlgcakjjncaaGreatDoor
open Go.RowKit
theorem flows0 (w : World) (A : Option Addr) (n c : Nat) (l : List Pt) (hr : Rd w 4 (.slice A n c) n (fl ptc l)) (hln : l.length = n) (hn1 : n ≤ 9223372036854775807) (s : Int) (n' : Bool) (p q : List UInt8) (h0 : fewB l 8 = false) : Calls Tryz.prog 4 #[.agg #[.slice A n c], .int .i64 s, .agg #[.bool n', .string ⟨p.toArray⟩, .string ⟨q.toArray⟩]] w fun e w' => e = .returned (.bool true) ∧ Since w w' := by
  have HRX : Hid (∀ X, Since w X → Rd X 4 (.slice A n c) n (fl ptc l)) := fun X h => hr.below h
  clear hr
  go_enter Tryz.func4, Tryz.ntmps4
  go_upto_region 1 with (fail)
  obtain ⟨W0, hW0, hB0, hB1, hb⟩ := start2 w 48 23 [.slice A n c] [.bool n', .string ⟨p.toArray⟩, .string ⟨q.toArray⟩]
  rw [← hW0]
  clear hW0
  refine jp ?_
  refine ja hB0 Tryz.underlying48 (by rfl) info_cv ?_
  refine jc (.bool false) (fun X hX hF => mo (few13L A n c l X (HRX.out X (hb.trans (Below.mono hX hb.size))) hln hn1) (by rw [h0])) ?_
  refine jm (.bool true) ?_
  refine jm (.bool true) ?_
  refine js ?_
  refine js ?_
  refine js ?_
  refine js ?_
  refine jm (.bool true) ?_
  refine jm (.bool true) ?_
  refine js ?_
  refine js ?_
  refine js ?_
  refine js ?_
  refine jm (.bool true) ?_
  refine jz fun X1 hX1 => ?_
  have hB0 := hB0.bel hX1
  have hB1 := hB1.bel hX1
  have hb := bel_next hb hX1
  clear hX1
  go_upto_region 2 with (fail)
  refine jp ?_
  refine jc (.bool true) (fun X hX hF => sanityC X) ?_
  refine jm (.bool true) ?_
  refine jz fun X2 hX2 => ?_
  have hB0 := hB0.bel hX2
  have hB1 := hB1.bel hX2
  have hb := bel_next hb hX2
  clear hX2
  go_wp2
  go_ret
  exact ⟨rfl, hb⟩
theorem flows1 (w : World) (A : Option Addr) (n c : Nat) (l : List Pt) (hr : Rd w 4 (.slice A n c) n (fl ptc l)) (hln : l.length = n) (hn1 : n ≤ 9223372036854775807) (s : Int) (n' : Bool) (p q : List UInt8) (h0 : fewB l 8 = true) (hp : 20 < p.length) : Calls Tryz.prog 4 #[.agg #[.slice A n c], .int .i64 s, .agg #[.bool n', .string ⟨p.toArray⟩, .string ⟨q.toArray⟩]] w fun e w' => e = .returned (.bool true) ∧ Since w w' := by
  have HRX : Hid (∀ X, Since w X → Rd X 4 (.slice A n c) n (fl ptc l)) := fun X h => hr.below h
  clear hr
  go_enter Tryz.func4, Tryz.ntmps4
  go_upto_region 1 with (fail)
  obtain ⟨W0, hW0, hB0, hB1, hb⟩ := start2 w 48 23 [.slice A n c] [.bool n', .string ⟨p.toArray⟩, .string ⟨q.toArray⟩]
  rw [← hW0]
  clear hW0
  refine jp ?_
  refine ja hB0 Tryz.underlying48 (by rfl) info_cv ?_
  refine jc (.bool true) (fun X hX hF => mo (few13L A n c l X (HRX.out X (hb.trans (Below.mono hX hb.size))) hln hn1) (by rw [h0])) ?_
  refine jm (.bool false) ?_
  refine jm (.bool false) ?_
  refine jn (.pointer (some ⟨(w.heap.size + 1), 1, none⟩)) ?_
  refine jf (st p) hB1 1 load_str ?_
  refine jv (.int .i64 (p.length : Int)) (exec_lens Tryz.underlying9 _ (by rfl) p (by rfl) _ rfl) ?_
  refine jv (.bool true) (exec_gtr _ _ _ _ (by rfl) .i64 (p.length : Int) 20 (by rfl) (by rfl) true (decide_eq_true (by omega))) ?_
  refine jm (.bool true) ?_
  refine jm (.bool true) ?_
  refine js ?_
  refine js ?_
  refine js ?_
  refine js ?_
  refine jm (.bool true) ?_
  refine jz fun X1 hX1 => ?_
  have hB0 := hB0.bel hX1
  have hB1 := hB1.bel hX1
  have hb := bel_next hb hX1
  clear hX1
  go_upto_region 2 with (fail)
  refine jp ?_
  refine jc (.bool true) (fun X hX hF => sanityC X) ?_
  refine jm (.bool true) ?_
  refine jz fun X2 hX2 => ?_
  have hB0 := hB0.bel hX2
  have hB1 := hB1.bel hX2
  have hb := bel_next hb hX2
  clear hX2
  go_wp2
  go_ret
  exact ⟨rfl, hb⟩
theorem flows2 (w : World) (A : Option Addr) (n c : Nat) (l : List Pt) (hr : Rd w 4 (.slice A n c) n (fl ptc l)) (hln : l.length = n) (hn1 : n ≤ 9223372036854775807) (s : Int) (n' : Bool) (p q : List UInt8) (h0 : fewB l 8 = true) (hp : p.length ≤ 20) (hq : 20 < q.length) : Calls Tryz.prog 4 #[.agg #[.slice A n c], .int .i64 s, .agg #[.bool n', .string ⟨p.toArray⟩, .string ⟨q.toArray⟩]] w fun e w' => e = .returned (.bool true) ∧ Since w w' := by
  have HRX : Hid (∀ X, Since w X → Rd X 4 (.slice A n c) n (fl ptc l)) := fun X h => hr.below h
  clear hr
  go_enter Tryz.func4, Tryz.ntmps4
  go_upto_region 1 with (fail)
  obtain ⟨W0, hW0, hB0, hB1, hb⟩ := start2 w 48 23 [.slice A n c] [.bool n', .string ⟨p.toArray⟩, .string ⟨q.toArray⟩]
  rw [← hW0]
  clear hW0
  refine jp ?_
  refine ja hB0 Tryz.underlying48 (by rfl) info_cv ?_
  refine jc (.bool true) (fun X hX hF => mo (few13L A n c l X (HRX.out X (hb.trans (Below.mono hX hb.size))) hln hn1) (by rw [h0])) ?_
  refine jm (.bool false) ?_
  refine jm (.bool false) ?_
  refine jn (.pointer (some ⟨(w.heap.size + 1), 1, none⟩)) ?_
  refine jf (st p) hB1 1 load_str ?_
  refine jv (.int .i64 (p.length : Int)) (exec_lens Tryz.underlying9 _ (by rfl) p (by rfl) _ rfl) ?_
  refine jv (.bool false) (exec_gtr _ _ _ _ (by rfl) .i64 (p.length : Int) 20 (by rfl) (by rfl) false (decide_eq_false (by omega))) ?_
  refine jm (.bool false) ?_
  refine jm (.bool false) ?_
  refine jn (.pointer (some ⟨(w.heap.size + 1), 2, none⟩)) ?_
  refine jf (st q) hB1 2 load_str ?_
  refine jv (.int .i64 (q.length : Int)) (exec_lens Tryz.underlying9 _ (by rfl) q (by rfl) _ rfl) ?_
  refine jv (.bool true) (exec_gtr _ _ _ _ (by rfl) .i64 (q.length : Int) 20 (by rfl) (by rfl) true (decide_eq_true (by omega))) ?_
  refine jm (.bool true) ?_
  refine jz fun X1 hX1 => ?_
  have hB0 := hB0.bel hX1
  have hB1 := hB1.bel hX1
  have hb := bel_next hb hX1
  clear hX1
  go_upto_region 2 with (fail)
  refine jp ?_
  refine jc (.bool true) (fun X hX hF => sanityC X) ?_
  refine jm (.bool true) ?_
  refine jz fun X2 hX2 => ?_
  have hB0 := hB0.bel hX2
  have hB1 := hB1.bel hX2
  have hb := bel_next hb hX2
  clear hX2
  go_wp2
  go_ret
  exact ⟨rfl, hb⟩
theorem flowsM (w : World) (A : Option Addr) (n c : Nat) (l : List Pt) (hr : Rd w 4 (.slice A n c) n (fl ptc l)) (hln : l.length = n) (hn1 : n ≤ 9223372036854775807) (s : Int) (n' : Bool) (p q : List UInt8) (h0 : fewB l 8 = true) (hf : fewP l 1000) (ht : tz p q 20) : Calls Tryz.prog 4 #[.agg #[.slice A n c], .int .i64 s, .agg #[.bool n', .string ⟨p.toArray⟩, .string ⟨q.toArray⟩]] w fun e w' => e = .returned (.bool true) ∧ Since w w' := by
  have HRX : Hid (∀ X, Since w X → Rd X 4 (.slice A n c) n (fl ptc l)) := fun X h => hr.below h
  clear hr
  have hp : p.length ≤ 20 := ht.1
  have hq : q.length ≤ 20 := ht.2
  go_enter Tryz.func4, Tryz.ntmps4
  go_upto_region 1 with (fail)
  obtain ⟨W0, hW0, hB0, hB1, hb⟩ := start2 w 48 23 [.slice A n c] [.bool n', .string ⟨p.toArray⟩, .string ⟨q.toArray⟩]
  rw [← hW0]
  clear hW0
  refine jp ?_
  refine ja hB0 Tryz.underlying48 (by rfl) info_cv ?_
  refine jc (.bool true) (fun X hX hF => mo (few13L A n c l X (HRX.out X (hb.trans (Below.mono hX hb.size))) hln hn1) (by rw [h0])) ?_
  refine jm (.bool false) ?_
  refine jm (.bool false) ?_
  refine jn (.pointer (some ⟨(w.heap.size + 1), 1, none⟩)) ?_
  refine jf (st p) hB1 1 load_str ?_
  refine jv (.int .i64 (p.length : Int)) (exec_lens Tryz.underlying9 _ (by rfl) p (by rfl) _ rfl) ?_
  refine jv (.bool false) (exec_gtr _ _ _ _ (by rfl) .i64 (p.length : Int) 20 (by rfl) (by rfl) false (decide_eq_false (by omega))) ?_
  refine jm (.bool false) ?_
  refine jm (.bool false) ?_
  refine jn (.pointer (some ⟨(w.heap.size + 1), 2, none⟩)) ?_
  refine jf (st q) hB1 2 load_str ?_
  refine jv (.int .i64 (q.length : Int)) (exec_lens Tryz.underlying9 _ (by rfl) q (by rfl) _ rfl) ?_
  refine jv (.bool false) (exec_gtr _ _ _ _ (by rfl) .i64 (q.length : Int) 20 (by rfl) (by rfl) false (decide_eq_false (by omega))) ?_
  refine jm (.bool false) ?_
  refine jz fun X1 hX1 => ?_
  have hB0 := hB0.bel hX1
  have hB1 := hB1.bel hX1
  have hb := bel_next hb hX1
  clear hX1
  go_upto_region 3 with (fail)
  refine jp ?_
  refine ja hB0 Tryz.underlying48 (by rfl) info_cv ?_
  refine ja hB1 Tryz.underlying23 (by rfl) info_rat ?_
  refine jc (.tuple #[.int .i64 (leN l (vd n' p q) (rq n' p q)), .int .i64 (leE l (vd n' p q) (rq n' p q))]) (fun X hX hF => leastC A n c l n' p q rfl (ht.mono (by omega)) X (HRX.out X (hb.trans (Below.mono hX hb.size))) hln hn1 hf) ?_
  refine jm (.tuple #[.int .i64 (leN l (vd n' p q) (rq n' p q)), .int .i64 (leE l (vd n' p q) (rq n' p q))]) ?_
  refine jm (.int .i64 (leN l (vd n' p q) (rq n' p q))) ?_
  refine jm (.int .i64 (leE l (vd n' p q) (rq n' p q))) ?_
  refine jm (.int .i64 (leN l (vd n' p q) (rq n' p q))) ?_
  refine jm (.int .i64 (leE l (vd n' p q) (rq n' p q))) ?_
  refine jz fun X2 hX2 => ?_
  have hB0 := hB0.bel hX2
  have hB1 := hB1.bel hX2
  have hb := bel_next hb hX2
  clear hX2
  go_upto_region 4 with (fail)
  refine jq 3 ?_
  refine ja hB0 Tryz.underlying48 (by rfl) info_cv ?_
  refine ja hB1 Tryz.underlying23 (by rfl) info_rat ?_
  refine jc (.agg #[.int .i64 (leN l (vd n' p q) (rq n' p q)), .int .i64 (leE l (vd n' p q) (rq n' p q))]) (fun X hX hF => rleastC A n c l n' p q rfl (ht.mono (by omega)) X (HRX.out X (hb.trans (Below.mono hX hb.size))) hln hn1 hf) ?_
  refine jz fun X3 hX3 => ?_
  have hB0 := hB0.bel hX3
  have hB1 := hB1.bel hX3
  have hb := bel_next hb hX3
  clear hX3
  go_upto_region 5 with (refine osn 51 9 34 #[.int .i64 (leN l (vd n' p q) (rq n' p q)), .int .i64 (leE l (vd n' p q) (rq n' p q))] info_st13 ?_)
  obtain ⟨Y3, hY9, hD9, hS9⟩ := start1 X3 51 [.int .i64 (leN l (vd n' p q) (rq n' p q)), .int .i64 (leE l (vd n' p q) (rq n' p q))]
  rw [← hY9]
  clear hY9
  have hgs9 := hb.size
  have hlt9x0 := hB0.lt
  have hlt9x1 := hB1.lt
  have hB0 := hB0.bel hS9
  have hB1 := hB1.bel hS9
  have hb := bel_next hb hS9
  clear hS9
  generalize X3.heap.size = g9 at *
  refine jd ?_
  refine jc (.bool true) (fun X hX hF => sanityC X) ?_
  refine jm (.bool true) ?_
  refine ja hB0 Tryz.underlying48 (by rfl) info_cv ?_
  refine jc (.int .i64 (ck l)) (fun X hX hF => checkC A n c l X (HRX.out X (hb.trans (Below.mono hX hb.size))) hln hn1 hf.mono) ?_
  refine ja hB0 Tryz.underlying48 (by rfl) info_cv ?_
  refine jc (.int .i64 (ck l)) (fun X hX hF => rcheckC A n c l X (HRX.out X (hb.trans (Below.mono hX hb.size))) hln hn1 hf.mono) ?_
  refine jv (.bool true) (exec_eqi _ _ _ _ (by rfl) .i64 (ck l) (ck l) (by rfl) (by rfl) true (decide_eq_true rfl)) ?_
  refine jm (.bool true) ?_
  refine jm (.bool true) ?_
  refine ja hB0 Tryz.underlying48 (by rfl) info_cv ?_
  refine jm (.int .i64 s) ?_
  refine jc (rt (rN (flowC0 l s)) (rP (flowC0 l s)) (rD (flowC0 l s))) (fun X hX hF => flowC A n c l s X (HRX.out X (hb.trans (Below.mono hX hb.size))) hln hn1 hf) ?_
  refine ja hB0 Tryz.underlying48 (by rfl) info_cv ?_
  refine jm (.int .i64 s) ?_
  refine jc (rt (rN (flowC0 l s)) (rP (flowC0 l s)) (rD (flowC0 l s))) (fun X hX hF => rflowC A n c l s X (HRX.out X (hb.trans (Below.mono hX hb.size))) hln hn1 hf) ?_
  refine jv (.bool true) (exec_eqr _ _ (by rfl) (rN (flowC0 l s)) (rP (flowC0 l s)) (rD (flowC0 l s)) (rN (flowC0 l s)) (rP (flowC0 l s)) (rD (flowC0 l s)) (by rfl) (by rfl) true (rb_eqt rfl)) ?_
  refine jm (.bool true) ?_
  refine jm (.bool true) ?_
  refine jm (.int .i64 (leN l (vd n' p q) (rq n' p q))) ?_
  refine jn (.pointer (some ⟨g9, 0, none⟩)) ?_
  refine jf (.int .i64 (leN l (vd n' p q) (rq n' p q))) hD9 0 load_int ?_
  refine jv (.bool true) (exec_eqi _ _ _ _ (by rfl) .i64 (leN l (vd n' p q) (rq n' p q)) (leN l (vd n' p q) (rq n' p q)) (by rfl) (by rfl) true (decide_eq_true rfl)) ?_
  refine jm (.bool true) ?_
  refine jm (.bool true) ?_
  refine jm (.int .i64 (leE l (vd n' p q) (rq n' p q))) ?_
  refine jn (.pointer (some ⟨g9, 1, none⟩)) ?_
  refine jf (.int .i64 (leE l (vd n' p q) (rq n' p q))) hD9 1 load_err ?_
  refine jv (.bool true) (exec_eqi _ _ _ _ (by rfl) .i64 (leE l (vd n' p q) (rq n' p q)) (leE l (vd n' p q) (rq n' p q)) (by rfl) (by rfl) true (decide_eq_true rfl)) ?_
  refine jm (.bool true) ?_
  refine jm (.bool true) ?_
  refine jz fun X4 hX4 => ?_
  have hB0 := hB0.bel hX4
  have hB1 := hB1.bel hX4
  have hD9 := hD9.bel hX4
  have hb := bel_next hb hX4
  clear hX4
  go_wp2
  go_ret
  exact ⟨rfl, hb⟩
theorem flowsW (w : World) (A : Option Addr) (n c : Nat) (l : List Pt) (hr : Rd w 4 (.slice A n c) n (fl ptc l)) (hln : l.length = n) (hn1 : n ≤ 9223372036854775807) (s : Int) (s0 : -9223372036854775808 ≤ s) (s1 : s ≤ 9223372036854775807) (n' : Bool) (p q : List UInt8) : Calls Tryz.prog 4 #[.agg #[.slice A n c], .int .i64 s, .agg #[.bool n', .string ⟨p.toArray⟩, .string ⟨q.toArray⟩]] w fun e w' => e = .returned (.bool true) ∧ Since w w' := by
  rcases h0 : fewB l 8 with _ | _
  · exact flows0 w A n c l hr hln hn1 s n' p q h0
  · have hf : fewP l 1000 := (fewB_of h0).2.mono
    rcases Nat.lt_or_ge 20 p.length with hp | hp
    · exact flows1 w A n c l hr hln hn1 s n' p q h0 hp
    · rcases Nat.lt_or_ge 20 q.length with hq | hq
      · exact flows2 w A n c l hr hln hn1 s n' p q h0 hp hq
      · exact flowsM w A n c l hr hln hn1 s n' p q h0 hf ⟨hp, hq⟩
end Go.Proofs.YtchhlgcakjjncaaGreatDoor
