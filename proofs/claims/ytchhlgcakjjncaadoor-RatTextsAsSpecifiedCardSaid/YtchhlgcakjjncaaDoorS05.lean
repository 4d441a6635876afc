/-
  law 05: sanity.
-/
import Derived.Test.YtchhlgcakjjncaaDoorL5a
import Derived.Test.YtchhlgcakjjncaaDoorPl05o
import Derived.Test.YtchhlgcakjjncaaDoorMI
import Derived.Test.YtchhlgcakjjncaaDoorPl05f
set_option linter.unusedSimpArgs false
set_option linter.unusedVariables false
set_option maxRecDepth 100000
set_option maxHeartbeats 1600000
namespace Go.Proofs.YtchhlgcakjjncaaDoor
open Go.RowKit

theorem few_t {p q : List UInt8} {m : Nat} (h : tz p q m) : few p q m = true := by unfold few; rw [decide_eq_true h.1, decide_eq_true h.2]; rfl
theorem few_f {p q : List UInt8} {m : Nat} (h : ¬ tz p q m) : few p q m = false := by
  unfold few
  by_cases h1 : p.length ≤ m
  · rw [decide_eq_false (fun h2 => h ⟨h1, h2⟩), Bool.and_false]
  · rw [decide_eq_false h1, Bool.false_and]
/-- A quotient of integers, an integer: as they stand in the examples. -/
def rk (m n : Int) : Rat := (m : Rat) / (n : Rat)
def ri (n : Int) : Rat := (n : Rat)
theorem szR_rk (m n : Int) (hm : insB m = true) (hn : insB n = true) : szR (rk m n) 14 := szR_div (szR_int hm) (szR_int hn)
/-- A slice of numbers that reads as a list. -/
def Rl (l : List Tr) (v : Value) (X : World) : Prop := Rd X 3 v l.length (fl trc l)
theorem Rl.lasts (l : List Tr) : Lasts (Rl l) := fun _ _ _ h hS => Rd.below h hS
theorem sumG (v : Value) (l : List Tr) (B : Nat) (w : World) (h : Rl l v w) (h1 : 1 ≤ B) (hlb : ∀ t ∈ l, t.2.1.length ≤ B ∧ t.2.2.length ≤ B) (hn : l.length * (B + 1) + 1 ≤ 1000000) (hB : B ≤ 1000000) : Calls Tryd.prog 17 #[v] w fun e w' => e = .returned (rbv (sumR l)) ∧ Since w w' := by
  obtain ⟨A, c, rfl, _⟩ := Rd.form h
  exact sumQ A _ c l B w h h1 hlb hn hB
abbrev tr (x : Rat) : Tr := (rN x, rP x, rD x)
theorem trq_tr (x : Rat) : trq (tr x) = x := rq_rb x
theorem rb_lit {x : Rat} {n : Bool} {p q : List UInt8} (hv : vd n p q = true) (hx : rq n p q = x) : (rN x == n && rP x == p && rD x == q) = true := by
  obtain ⟨h1, h2, h3, _⟩ := vd_eq hv
  rw [← hx, h1, h2, h3]
  simp
theorem exec_bsR3 {f : Operand → Value} {o : Oper} (x y z : Operand) (ho : o.op = .buildSlice 22 3 #[(0, x), (1, y), (2, z)]) (a b c : Rat) (hx : f x = rbv a) (hy : f y = rbv b) (hz : f z = rbv c) (X : World) :
    ∃ v X', (execOp f o).run Tryd.prog X = .ok (.value v) X' ∧ Rl [tr a, tr b, tr c] v X' ∧ Since X X' := by
  refine ⟨.slice (some ⟨X.heap.size, 0, none⟩) 3 3, X.alloc (.cells (trc (tr a) ++ trc (tr b) ++ trc (tr c)).toArray 26), ?_, ?_, since_alloc X _⟩
  · unfold execOp
    simp only [ho]
    go_simp
    rfl
  · refine ⟨by rfl, _, _, rfl, Nat.le_refl _, (by show 3 ≤ maxLen; unfold maxLen; omega), (fun h => by cases h), fun _ => ⟨_, 0, rfl, by simp, fun j u hj => ?_⟩⟩
    have h9 : Blk (X.alloc (.cells (trc (tr a) ++ trc (tr b) ++ trc (tr c)).toArray 26)) X.heap.size 26 (trc (tr a) ++ trc (tr b) ++ trc (tr c)) := Blk.new rfl
    rw [Nat.zero_add]
    exact h9.cell hj
theorem failsC (s : List UInt8) (w : World) (hs : s.length ≤ 400) (h : ∀ y, rtx y ≠ s) : Calls Tryd.prog 43 #[.string ⟨s.toArray⟩] w fun e w' => e = .returned (.bool true) ∧ Since w w' := by
  have HN := Lib.hid (parQ_none h)
  clear h
  go_enter Tryd.func43, Tryd.ntmps43
  go_upto_region 1 with (fail)
  refine jq 5 ?_
  refine jm (st s) ?_
  refine jc (.tuple #[rz, .int .i64 27]) (fun X hX hF => mo (parseQ s X (by omega)) (by rw [parR, if_neg (by omega), HN.out])) ?_
  refine jm (.tuple #[rz, .int .i64 27]) ?_
  refine jm (rz) ?_
  refine jm (.int .i64 27) ?_
  refine jz fun X1 hX1 => ?_
  have hb : Below w.heap.size w X1 := hX1
  clear hX1
  go_upto_region 2 with (refine osn 26 3 8 #[.bool false, .string ⟨#[]⟩, .string ⟨#[]⟩] info_rat ?_)
  obtain ⟨Y1, hY9, hD3, hS9⟩ := start1 X1 26 [.bool false, .string ⟨#[]⟩, .string ⟨#[]⟩]
  rw [← hY9]
  clear hY9
  have hgs3 := hb.size
  have hb := bel_next hb hS9
  clear hS9
  generalize X1.heap.size = g3 at *
  refine jp ?_
  refine ja hD3 Tryd.underlying26 (by rfl) info_rat ?_
  refine jn (rz) ?_
  refine jv (.bool true) (exec_eqr _ _ (by rfl) false [] [] false [] [] (by rfl) (by rfl) true rfl) ?_
  refine jm (.bool true) ?_
  refine jm (.int .i64 27) ?_
  refine jv (.bool true) (exec_eqi _ _ _ _ (by rfl) .i64 27 27 (by rfl) (by rfl) true (decide_eq_true (by omega))) ?_
  refine jm (.bool true) ?_
  refine jm (.bool true) ?_
  refine jz fun X2 hX2 => ?_
  have hD3 := hD3.bel hX2
  have hb := bel_next hb hX2
  clear hX2
  go_wp2
  go_ret
  exact ⟨rfl, hb⟩

theorem tz_24 : tz [2] [4] 1 := ⟨by decide, by decide⟩
theorem sanityC (w : World) : Calls Tryd.prog 11 #[] w fun e w' => e = .returned (.bool true) ∧ Since w w' := by
  have LB0 : szR (rk 1 2) 14 := szR_rk 1 2 (by decide) (by decide)
  have LB1 : szR (rk 1 3) 14 := szR_rk 1 3 (by decide) (by decide)
  have LB2 : szR (rk (-3) 2) 14 := szR_rk (-3) 2 (by decide) (by decide)
  have LB3 : szR (rk 4 1) 14 := szR_rk 4 1 (by decide) (by decide)
  have LB4 : szR (rk 300 (-7)) 14 := szR_rk 300 (-7) (by decide) (by decide)
  have LB5 : szR (rk (-5) 6) 14 := szR_rk (-5) 6 (by decide) (by decide)
  have LB6 : szR (rk (-1) 2) 14 := szR_rk (-1) 2 (by decide) (by decide)
  have LB7 : szR (rk (-1) 3) 14 := szR_rk (-1) 3 (by decide) (by decide)
  have LB8 : szR (ri 1) 7 := szR_int (n := 1) (by decide)
  have HTX : Hid (rtx (rk 300 (-7)) = [45, 51, 48, 48, 47, 55]) := by show _ = _; exact rtx_300
  have HTZ : Hid (rtx 0 = [48]) := rtx_00
  have HZ0 : Hid (rq true [3] [2] = (rk 6 (-4))) := by show _ = _; exact rq_32
  have HL3 : Hid (∀ t ∈ [tr (rk 1 2), tr (rk 1 3), tr (rk (-5) 6)], t.2.1.length ≤ 14 ∧ t.2.2.length ≤ 14) := by
    intro t ht
    simp only [List.mem_cons, List.not_mem_nil, or_false] at ht
    rcases ht with rfl | rfl | rfl
    · exact tzR LB0 (Nat.le_refl _)
    · exact tzR LB1 (Nat.le_refl _)
    · exact tzR LB5 (Nat.le_refl _)
  have HS3 : Hid (sumR [tr (rk 1 2), tr (rk 1 3), tr (rk (-5) 6)] = 0) := by
    show _ = _
    simp only [sumR, List.foldl, trq_tr]
    decide +kernel
  go_enter Tryd.func11, Tryd.ntmps11
  go_upto_region 1 with (fail)
  refine jq 4 ?_
  refine jc (.tuple #[rt (rN (rk 6 (-4))) (rP (rk 6 (-4))) (rD (rk 6 (-4))), .int .i64 0]) (fun X hX hF => makeC 6 (-4) X (by decide) (by decide) (by decide)) ?_
  refine jm (.tuple #[rt (rN (rk 6 (-4))) (rP (rk 6 (-4))) (rD (rk 6 (-4))), .int .i64 0]) ?_
  refine jm (rt (rN (rk 6 (-4))) (rP (rk 6 (-4))) (rD (rk 6 (-4)))) ?_
  refine jm (.int .i64 0) ?_
  refine jz fun X1 hX1 => ?_
  have hb : Below w.heap.size w X1 := hX1
  clear hX1
  go_upto_region 2 with (refine osn 26 1 31 #[.bool (rN (rk 6 (-4))), .string ⟨(rP (rk 6 (-4))).toArray⟩, .string ⟨(rD (rk 6 (-4))).toArray⟩] info_rat ?_)
  obtain ⟨Y1, hY9, hD1, hS9⟩ := start1 X1 26 [.bool (rN (rk 6 (-4))), .string ⟨(rP (rk 6 (-4))).toArray⟩, .string ⟨(rD (rk 6 (-4))).toArray⟩]
  rw [← hY9]
  clear hY9
  have hgs1 := hb.size
  have hb := bel_next hb hS9
  clear hS9
  generalize X1.heap.size = g1 at *
  refine jq 4 ?_
  refine jc (.tuple #[rz, .int .i64 1]) (fun X hX hF => makeA 1 0 X (by decide) (by decide) (by decide)) ?_
  refine jm (.tuple #[rz, .int .i64 1]) ?_
  refine jm (rz) ?_
  refine jm (.int .i64 1) ?_
  refine jz fun X2 hX2 => ?_
  have hD1 := hD1.bel hX2
  have hb := bel_next hb hX2
  clear hX2
  go_upto_region 3 with (refine osn 26 3 35 #[.bool false, .string ⟨#[]⟩, .string ⟨#[]⟩] info_rat ?_)
  obtain ⟨Y2, hY9, hD3, hS9⟩ := start1 X2 26 [.bool false, .string ⟨#[]⟩, .string ⟨#[]⟩]
  rw [← hY9]
  clear hY9
  have hgs3 := hb.size
  have hlt3x0 := hD1.lt
  have hD1 := hD1.bel hS9
  have hb := bel_next hb hS9
  clear hS9
  generalize X2.heap.size = g3 at *
  refine jq 4 ?_
  refine jc (.tuple #[rz, .int .i64 3]) (fun X hX hF => makeR1 1000000000000000 1 X (by decide)) ?_
  refine jm (.tuple #[rz, .int .i64 3]) ?_
  refine jm (rz) ?_
  refine jm (.int .i64 3) ?_
  refine jz fun X3 hX3 => ?_
  have hD1 := hD1.bel hX3
  have hD3 := hD3.bel hX3
  have hb := bel_next hb hX3
  clear hX3
  go_upto_region 4 with (refine osn 26 5 39 #[.bool false, .string ⟨#[]⟩, .string ⟨#[]⟩] info_rat ?_)
  obtain ⟨Y3, hY9, hD5, hS9⟩ := start1 X3 26 [.bool false, .string ⟨#[]⟩, .string ⟨#[]⟩]
  rw [← hY9]
  clear hY9
  have hgs5 := hb.size
  have hlt5x0 := hD1.lt
  have hlt5x1 := hD3.lt
  have hD1 := hD1.bel hS9
  have hD3 := hD3.bel hS9
  have hb := bel_next hb hS9
  clear hS9
  generalize X3.heap.size = g5 at *
  refine lh_plain (fun i => if i = 2 then ⟨26, [.bool false, .string ⟨#[]⟩, .string ⟨#[]⟩], [.bool (rN (rk 1 2)), .string ⟨(rP (rk 1 2)).toArray⟩, .string ⟨(rD (rk 1 2)).toArray⟩]⟩ else if i = 3 then ⟨26, [.bool false, .string ⟨#[]⟩, .string ⟨#[]⟩], [.bool (rN (rk 1 3)), .string ⟨(rP (rk 1 3)).toArray⟩, .string ⟨(rD (rk 1 3)).toArray⟩]⟩ else ⟨0, [], []⟩) [none, none, some (Gat _ _ 2), some (Gat _ _ 3), some (fun u X => Gst _ 2 undef X), some (fun u X => Gst _ 3 undef X)] (lh_none (lh_none (lh_some (Gat.lasts) (lh_some (Gat.lasts) (lh_some ((fun _ _ _ h hR => Gst.lasts _ _ _ h hR)) (lh_some ((fun _ _ _ h hR => Gst.lasts _ _ _ h hR)) (lh_nil))))))) ?_
  simp only [iG, Nat.reduceAdd]
  refine kc (rt (rN (rk 1 2)) (rP (rk 1 2)) (rD (rk 1 2))) (fun X hX hF => ofLQ (1) (2) X (by decide) (by decide) (by decide)) ?_
  refine kc (rt (rN (rk 1 3)) (rP (rk 1 3)) (rD (rk 1 3))) (fun X hX hF => ofLQ (1) (3) X (by decide) (by decide) (by decide)) ?_
  refine kl (fun X => exec_alloc_rat (by rfl) X) ?_
  intro v7
  refine kl (fun X => exec_alloc_rat (by rfl) X) ?_
  intro v8
  refine kt 2 2 v7 (List.mem_cons_of_mem _ List.mem_cons_self) info_rat ?_
  refine kt 3 3 v8 (List.mem_cons_of_mem _ List.mem_cons_self) info_rat ?_
  refine kz ?_
  intro X4 s9 hX4 hF
  obtain ⟨g7, e7, hge7, hD7, tg7⟩ := Gst.at (hF _ _ (List.mem_cons_of_mem _ (List.mem_cons_of_mem _ (List.mem_cons_of_mem _ List.mem_cons_self)))) (hF _ _ (List.mem_cons_of_mem _ List.mem_cons_self))
  subst e7
  obtain ⟨g8, e8, hge8, hD8, tg8⟩ := Gst.at (hF _ _ (List.mem_cons_of_mem _ (List.mem_cons_of_mem _ List.mem_cons_self))) (hF _ _ List.mem_cons_self)
  subst e8
  have hne7_8 := gh_ne tg7 tg8 (by decide)
  have hD1 := hD1.bel hX4
  have hD3 := hD3.bel hX4
  have hD5 := hD5.bel hX4
  have hgs7 := hge7
  have hgs8 := hge8
  have hb := bel_next hb hX4
  clear hF tg7 tg8 s9 hX4
  change Blk X4 g7 26 [.bool (rN (rk 1 2)), .string ⟨(rP (rk 1 2)).toArray⟩, .string ⟨(rD (rk 1 2)).toArray⟩] at hD7
  change Blk X4 g8 26 [.bool (rN (rk 1 3)), .string ⟨(rP (rk 1 3)).toArray⟩, .string ⟨(rD (rk 1 3)).toArray⟩] at hD8
  go_upto_region 5 with (fail)
  refine jq 6 ?_
  refine ja hD7 Tryd.underlying26 (by rfl) info_rat ?_
  refine ja hD8 Tryd.underlying26 (by rfl) info_rat ?_
  refine jc (.tuple #[rt (rN ((rk 1 2) / (rk 1 3))) (rP ((rk 1 2) / (rk 1 3))) (rD ((rk 1 2) / (rk 1 3))), .int .i64 0]) (fun X hX hF => divG (rN (rk 1 2)) (rP (rk 1 2)) (rD (rk 1 2)) (rN (rk 1 3)) (rP (rk 1 3)) (rD (rk 1 3)) (rq_rb (rk 1 2)) (rq_rb (rk 1 3)) X (tzR LB0 (by omega)) (tzR LB1 (by omega)) (by decide +kernel)) ?_
  refine jm (.tuple #[rt (rN ((rk 1 2) / (rk 1 3))) (rP ((rk 1 2) / (rk 1 3))) (rD ((rk 1 2) / (rk 1 3))), .int .i64 0]) ?_
  refine jm (rt (rN ((rk 1 2) / (rk 1 3))) (rP ((rk 1 2) / (rk 1 3))) (rD ((rk 1 2) / (rk 1 3)))) ?_
  refine jm (.int .i64 0) ?_
  refine jz fun X5 hX5 => ?_
  have hD1 := hD1.bel hX5
  have hD3 := hD3.bel hX5
  have hD5 := hD5.bel hX5
  have hD7 := hD7.bel hX5
  have hD8 := hD8.bel hX5
  have hb := bel_next hb hX5
  clear hX5
  go_upto_region 6 with (refine osn 26 9 47 #[.bool (rN ((rk 1 2) / (rk 1 3))), .string ⟨(rP ((rk 1 2) / (rk 1 3))).toArray⟩, .string ⟨(rD ((rk 1 2) / (rk 1 3))).toArray⟩] info_rat ?_)
  obtain ⟨Y5, hY9, hD9, hS9⟩ := start1 X5 26 [.bool (rN ((rk 1 2) / (rk 1 3))), .string ⟨(rP ((rk 1 2) / (rk 1 3))).toArray⟩, .string ⟨(rD ((rk 1 2) / (rk 1 3))).toArray⟩]
  rw [← hY9]
  clear hY9
  have hgs9 := hb.size
  have hlt9x0 := hD1.lt
  have hlt9x1 := hD3.lt
  have hlt9x2 := hD5.lt
  have hlt9x3 := hD7.lt
  have hlt9x4 := hD8.lt
  have hD1 := hD1.bel hS9
  have hD3 := hD3.bel hS9
  have hD5 := hD5.bel hS9
  have hD7 := hD7.bel hS9
  have hD8 := hD8.bel hS9
  have hb := bel_next hb hS9
  clear hS9
  generalize X5.heap.size = g9 at *
  refine jq 6 ?_
  refine ja hD7 Tryd.underlying26 (by rfl) info_rat ?_
  refine jn (rz) ?_
  refine jc (.tuple #[rz, .int .i64 1]) (fun X hX hF => divG0 (rN (rk 1 2)) (rP (rk 1 2)) (rD (rk 1 2)) false [] [] (rq_rb (rk 1 2)) rq_zero X (tzR LB0 (by omega)) tz_nil rfl) ?_
  refine jm (.tuple #[rz, .int .i64 1]) ?_
  refine jm (rz) ?_
  refine jm (.int .i64 1) ?_
  refine jz fun X6 hX6 => ?_
  have hD1 := hD1.bel hX6
  have hD3 := hD3.bel hX6
  have hD5 := hD5.bel hX6
  have hD7 := hD7.bel hX6
  have hD8 := hD8.bel hX6
  have hD9 := hD9.bel hX6
  have hb := bel_next hb hX6
  clear hX6
  go_upto_region 7 with (refine osn 26 11 53 #[.bool false, .string ⟨#[]⟩, .string ⟨#[]⟩] info_rat ?_)
  obtain ⟨Y6, hY9, hD11, hS9⟩ := start1 X6 26 [.bool false, .string ⟨#[]⟩, .string ⟨#[]⟩]
  rw [← hY9]
  clear hY9
  have hgs11 := hb.size
  have hlt11x0 := hD1.lt
  have hlt11x1 := hD3.lt
  have hlt11x2 := hD5.lt
  have hlt11x3 := hD7.lt
  have hlt11x4 := hD8.lt
  have hlt11x5 := hD9.lt
  have hD1 := hD1.bel hS9
  have hD3 := hD3.bel hS9
  have hD5 := hD5.bel hS9
  have hD7 := hD7.bel hS9
  have hD8 := hD8.bel hS9
  have hD9 := hD9.bel hS9
  have hb := bel_next hb hS9
  clear hS9
  generalize X6.heap.size = g11 at *
  refine jp ?_
  refine jc (rt (rN (rk (-3) 2)) (rP (rk (-3) 2)) (rD (rk (-3) 2))) (fun X hX hF => ofLQ (-3) (2) X (by decide) (by decide) (by decide)) ?_
  refine jc (.tuple #[.int .i64 (-2), .int .i64 0]) (fun X hX hF => mo (floG (rN (rk (-3) 2)) (rP (rk (-3) 2)) (rD (rk (-3) 2)) (rq_rb (rk (-3) 2)) X (tzR LB2 (by omega))) (by rw [show floN (rk (-3) 2) = -2 from by decide +kernel, show floE (rk (-3) 2) = 0 from by decide +kernel])) ?_
  refine jm (.tuple #[.int .i64 (-2), .int .i64 0]) ?_
  refine jm (.int .i64 (-2)) ?_
  refine jm (.int .i64 0) ?_
  refine jm (.int .i64 (-2)) ?_
  refine jm (.int .i64 0) ?_
  refine jz fun X7 hX7 => ?_
  have hD1 := hD1.bel hX7
  have hD3 := hD3.bel hX7
  have hD5 := hD5.bel hX7
  have hD7 := hD7.bel hX7
  have hD8 := hD8.bel hX7
  have hD9 := hD9.bel hX7
  have hD11 := hD11.bel hX7
  have hb := bel_next hb hX7
  clear hX7
  go_upto_region 8 with (fail)
  refine jp ?_
  refine jc (rt (rN (rk (-3) 2)) (rP (rk (-3) 2)) (rD (rk (-3) 2))) (fun X hX hF => ofLQ (-3) (2) X (by decide) (by decide) (by decide)) ?_
  refine jc (.tuple #[.int .i64 (-1), .int .i64 0]) (fun X hX hF => mo (ceiG (rN (rk (-3) 2)) (rP (rk (-3) 2)) (rD (rk (-3) 2)) (rq_rb (rk (-3) 2)) X (tzR LB2 (by omega))) (by rw [show -floN (-(rk (-3) 2)) = -1 from by decide +kernel, show floE (-(rk (-3) 2)) = 0 from by decide +kernel])) ?_
  refine jm (.tuple #[.int .i64 (-1), .int .i64 0]) ?_
  refine jm (.int .i64 (-1)) ?_
  refine jm (.int .i64 0) ?_
  refine jm (.int .i64 (-1)) ?_
  refine jm (.int .i64 0) ?_
  refine jz fun X8 hX8 => ?_
  have hD1 := hD1.bel hX8
  have hD3 := hD3.bel hX8
  have hD5 := hD5.bel hX8
  have hD7 := hD7.bel hX8
  have hD8 := hD8.bel hX8
  have hD9 := hD9.bel hX8
  have hD11 := hD11.bel hX8
  have hb := bel_next hb hX8
  clear hX8
  go_upto_region 9 with (fail)
  refine jp ?_
  refine jc (rt (rN (rk 4 1)) (rP (rk 4 1)) (rD (rk 4 1))) (fun X hX hF => ofLQ (4) (1) X (by decide) (by decide) (by decide)) ?_
  refine jc (.tuple #[.int .i64 4, .int .i64 0]) (fun X hX hF => mo (floG (rN (rk 4 1)) (rP (rk 4 1)) (rD (rk 4 1)) (rq_rb (rk 4 1)) X (tzR LB3 (by omega))) (by rw [show floN (rk 4 1) = 4 from by decide +kernel, show floE (rk 4 1) = 0 from by decide +kernel])) ?_
  refine jm (.tuple #[.int .i64 4, .int .i64 0]) ?_
  refine jm (.int .i64 4) ?_
  refine jm (.int .i64 0) ?_
  refine jm (.int .i64 4) ?_
  refine jm (.int .i64 0) ?_
  refine jz fun X9 hX9 => ?_
  have hD1 := hD1.bel hX9
  have hD3 := hD3.bel hX9
  have hD5 := hD5.bel hX9
  have hD7 := hD7.bel hX9
  have hD8 := hD8.bel hX9
  have hD9 := hD9.bel hX9
  have hD11 := hD11.bel hX9
  have hb := bel_next hb hX9
  clear hX9
  go_upto_region 10 with (fail)
  refine jp ?_
  refine jc (rt (rN (rk 4 1)) (rP (rk 4 1)) (rD (rk 4 1))) (fun X hX hF => ofLQ (4) (1) X (by decide) (by decide) (by decide)) ?_
  refine jc (.tuple #[.int .i64 4, .int .i64 0]) (fun X hX hF => mo (ceiG (rN (rk 4 1)) (rP (rk 4 1)) (rD (rk 4 1)) (rq_rb (rk 4 1)) X (tzR LB3 (by omega))) (by rw [show -floN (-(rk 4 1)) = 4 from by decide +kernel, show floE (-(rk 4 1)) = 0 from by decide +kernel])) ?_
  refine jm (.tuple #[.int .i64 4, .int .i64 0]) ?_
  refine jm (.int .i64 4) ?_
  refine jm (.int .i64 0) ?_
  refine jm (.int .i64 4) ?_
  refine jm (.int .i64 0) ?_
  refine jz fun X10 hX10 => ?_
  have hD1 := hD1.bel hX10
  have hD3 := hD3.bel hX10
  have hD5 := hD5.bel hX10
  have hD7 := hD7.bel hX10
  have hD8 := hD8.bel hX10
  have hD9 := hD9.bel hX10
  have hD11 := hD11.bel hX10
  have hb := bel_next hb hX10
  clear hX10
  go_upto_region 11 with (fail)
  refine jp ?_
  refine jc (rt (rN (rk 300 (-7))) (rP (rk 300 (-7))) (rD (rk 300 (-7)))) (fun X hX hF => ofLQ (300) (-7) X (by decide) (by decide) (by decide)) ?_
  refine jc (st ([45, 51, 48, 48, 47, 55] : List UInt8)) (fun X hX hF => mo (textG (rN (rk 300 (-7))) (rP (rk 300 (-7))) (rD (rk 300 (-7))) (rq_rb (rk 300 (-7))) X (tzR LB4 (by omega))) (by rw [HTX.out])) ?_
  refine jm (st ([45, 51, 48, 48, 47, 55] : List UInt8)) ?_
  refine jz fun X11 hX11 => ?_
  have hD1 := hD1.bel hX11
  have hD3 := hD3.bel hX11
  have hD5 := hD5.bel hX11
  have hD7 := hD7.bel hX11
  have hD8 := hD8.bel hX11
  have hD9 := hD9.bel hX11
  have hD11 := hD11.bel hX11
  have hb := bel_next hb hX11
  clear hX11
  go_upto_region 12 with (fail)
  refine jq 5 ?_
  refine jm (st ([45, 51, 48, 48, 47, 55] : List UInt8)) ?_
  refine jc (.tuple #[rt (rN (rk 300 (-7))) (rP (rk 300 (-7))) (rD (rk 300 (-7))), .int .i64 0]) (fun X hX hF => mo (parseQ [45, 51, 48, 48, 47, 55] X (by decide)) (by rw [parR, if_neg (by decide), parQ_some HTX.out])) ?_
  refine jm (.tuple #[rt (rN (rk 300 (-7))) (rP (rk 300 (-7))) (rD (rk 300 (-7))), .int .i64 0]) ?_
  refine jm (rt (rN (rk 300 (-7))) (rP (rk 300 (-7))) (rD (rk 300 (-7)))) ?_
  refine jm (.int .i64 0) ?_
  refine jz fun X12 hX12 => ?_
  have hD1 := hD1.bel hX12
  have hD3 := hD3.bel hX12
  have hD5 := hD5.bel hX12
  have hD7 := hD7.bel hX12
  have hD8 := hD8.bel hX12
  have hD9 := hD9.bel hX12
  have hD11 := hD11.bel hX12
  have hb := bel_next hb hX12
  clear hX12
  go_upto_region 13 with (refine osn 26 22 80 #[.bool (rN (rk 300 (-7))), .string ⟨(rP (rk 300 (-7))).toArray⟩, .string ⟨(rD (rk 300 (-7))).toArray⟩] info_rat ?_)
  obtain ⟨Y12, hY9, hD22, hS9⟩ := start1 X12 26 [.bool (rN (rk 300 (-7))), .string ⟨(rP (rk 300 (-7))).toArray⟩, .string ⟨(rD (rk 300 (-7))).toArray⟩]
  rw [← hY9]
  clear hY9
  have hgs22 := hb.size
  have hlt22x0 := hD1.lt
  have hlt22x1 := hD3.lt
  have hlt22x2 := hD5.lt
  have hlt22x3 := hD7.lt
  have hlt22x4 := hD8.lt
  have hlt22x5 := hD9.lt
  have hlt22x6 := hD11.lt
  have hD1 := hD1.bel hS9
  have hD3 := hD3.bel hS9
  have hD5 := hD5.bel hS9
  have hD7 := hD7.bel hS9
  have hD8 := hD8.bel hS9
  have hD9 := hD9.bel hS9
  have hD11 := hD11.bel hS9
  have hb := bel_next hb hS9
  clear hS9
  generalize X12.heap.size = g22 at *
  refine jp ?_
  refine jm (.int .i64 0) ?_
  refine jv (.bool true) (exec_eqi _ _ _ _ (by rfl) .i64 0 0 (by rfl) (by rfl) true (decide_eq_true (by omega))) ?_
  refine jm (.bool true) ?_
  refine jm (.int .i64 1) ?_
  refine jv (.bool true) (exec_eqi _ _ _ _ (by rfl) .i64 1 1 (by rfl) (by rfl) true (decide_eq_true (by omega))) ?_
  refine jm (.bool true) ?_
  refine jm (.bool true) ?_
  refine jm (.int .i64 3) ?_
  refine jv (.bool true) (exec_eqi _ _ _ _ (by rfl) .i64 3 3 (by rfl) (by rfl) true (decide_eq_true (by omega))) ?_
  refine jm (.bool true) ?_
  refine jm (.bool true) ?_
  refine jm (.int .i64 0) ?_
  refine jv (.bool true) (exec_eqi _ _ _ _ (by rfl) .i64 0 0 (by rfl) (by rfl) true (decide_eq_true (by omega))) ?_
  refine jm (.bool true) ?_
  refine jm (.bool true) ?_
  refine jm (.int .i64 1) ?_
  refine jv (.bool true) (exec_eqi _ _ _ _ (by rfl) .i64 1 1 (by rfl) (by rfl) true (decide_eq_true (by omega))) ?_
  refine jm (.bool true) ?_
  refine jm (.bool true) ?_
  refine jm (.int .i64 0) ?_
  refine jv (.bool true) (exec_eqi _ _ _ _ (by rfl) .i64 0 0 (by rfl) (by rfl) true (decide_eq_true (by omega))) ?_
  refine jm (.bool true) ?_
  refine jm (.bool true) ?_
  refine jm (.int .i64 0) ?_
  refine jv (.bool true) (exec_eqi _ _ _ _ (by rfl) .i64 0 0 (by rfl) (by rfl) true (decide_eq_true (by omega))) ?_
  refine jm (.bool true) ?_
  refine jm (.bool true) ?_
  refine jm (.int .i64 0) ?_
  refine jv (.bool true) (exec_eqi _ _ _ _ (by rfl) .i64 0 0 (by rfl) (by rfl) true (decide_eq_true (by omega))) ?_
  refine jm (.bool true) ?_
  refine jm (.bool true) ?_
  refine jm (.int .i64 0) ?_
  refine jv (.bool true) (exec_eqi _ _ _ _ (by rfl) .i64 0 0 (by rfl) (by rfl) true (decide_eq_true (by omega))) ?_
  refine jm (.bool true) ?_
  refine jm (.bool true) ?_
  refine jm (.int .i64 0) ?_
  refine jv (.bool true) (exec_eqi _ _ _ _ (by rfl) .i64 0 0 (by rfl) (by rfl) true (decide_eq_true (by omega))) ?_
  refine jm (.bool true) ?_
  refine jm (.bool true) ?_
  refine jz fun X13 hX13 => ?_
  have hD1 := hD1.bel hX13
  have hD3 := hD3.bel hX13
  have hD5 := hD5.bel hX13
  have hD7 := hD7.bel hX13
  have hD8 := hD8.bel hX13
  have hD9 := hD9.bel hX13
  have hD11 := hD11.bel hX13
  have hD22 := hD22.bel hX13
  have hb := bel_next hb hX13
  clear hX13
  go_upto_region 14 with (fail)
  refine lx_region [none, none, none, none, none, none, none, none, none, none, none, none, none, none, none, none, none, none, none, none, none, none, none, none, none, none, none, none, none, none, none, none, none, some (Rl [tr (rk 1 2), tr (rk 1 3), tr (rk (-5) 6)])] (by kernel_rfl) (by kernel_rfl) (lasts_none (lasts_none (lasts_none (lasts_none (lasts_none (lasts_none (lasts_none (lasts_none (lasts_none (lasts_none (lasts_none (lasts_none (lasts_none (lasts_none (lasts_none (lasts_none (lasts_none (lasts_none (lasts_none (lasts_none (lasts_none (lasts_none (lasts_none (lasts_none (lasts_none (lasts_none (lasts_none (lasts_none (lasts_none (lasts_none (lasts_none (lasts_none (lasts_none (lasts_some (Rl.lasts _) (lasts_nil))))))))))))))))))))))))))))))))))) ?_
  simp only [iX, Nat.reduceAdd]
  refine ja hD1 Tryd.underlying26 (by rfl) info_rat ?_
  refine jn (rt true ([3] : List UInt8) ([2] : List UInt8)) ?_
  refine jv (.bool true) (exec_eqr _ _ (by rfl) (rN (rk 6 (-4))) (rP (rk 6 (-4))) (rD (rk 6 (-4))) true ([3] : List UInt8) ([2] : List UInt8) (by rfl) (by rfl) true (rb_lit vd_32 (show rq true [3] [2] = (rk 6 (-4)) from HZ0.out))) ?_
  refine jm (.bool true) ?_
  refine ja hD7 Tryd.underlying26 (by rfl) info_rat ?_
  refine ja hD8 Tryd.underlying26 (by rfl) info_rat ?_
  refine jc (rt (rN ((rk 1 2) + (rk 1 3))) (rP ((rk 1 2) + (rk 1 3))) (rD ((rk 1 2) + (rk 1 3)))) (fun X hX hF => addG (rN (rk 1 2)) (rP (rk 1 2)) (rD (rk 1 2)) (rN (rk 1 3)) (rP (rk 1 3)) (rD (rk 1 3)) (rq_rb (rk 1 2)) (rq_rb (rk 1 3)) X (tzR LB0 (by omega)) (tzR LB1 (by omega))) ?_
  refine jc (rt (rN (rk 5 6)) (rP (rk 5 6)) (rD (rk 5 6))) (fun X hX hF => ofLQ (5) (6) X (by decide) (by decide) (by decide)) ?_
  refine jv (.bool true) (exec_eqr _ _ (by rfl) (rN ((rk 1 2) + (rk 1 3))) (rP ((rk 1 2) + (rk 1 3))) (rD ((rk 1 2) + (rk 1 3))) (rN (rk 5 6)) (rP (rk 5 6)) (rD (rk 5 6)) (by rfl) (by rfl) true (rb_eqt (by decide +kernel))) ?_
  refine jm (.bool true) ?_
  refine jm (.bool true) ?_
  refine ja hD7 Tryd.underlying26 (by rfl) info_rat ?_
  refine ja hD8 Tryd.underlying26 (by rfl) info_rat ?_
  refine jc (rt (rN ((rk 1 2) - (rk 1 3))) (rP ((rk 1 2) - (rk 1 3))) (rD ((rk 1 2) - (rk 1 3)))) (fun X hX hF => subG (rN (rk 1 2)) (rP (rk 1 2)) (rD (rk 1 2)) (rN (rk 1 3)) (rP (rk 1 3)) (rD (rk 1 3)) (rq_rb (rk 1 2)) (rq_rb (rk 1 3)) X (tzR LB0 (by omega)) (tzR LB1 (by omega))) ?_
  refine jc (rt (rN (rk 1 6)) (rP (rk 1 6)) (rD (rk 1 6))) (fun X hX hF => ofLQ (1) (6) X (by decide) (by decide) (by decide)) ?_
  refine jv (.bool true) (exec_eqr _ _ (by rfl) (rN ((rk 1 2) - (rk 1 3))) (rP ((rk 1 2) - (rk 1 3))) (rD ((rk 1 2) - (rk 1 3))) (rN (rk 1 6)) (rP (rk 1 6)) (rD (rk 1 6)) (by rfl) (by rfl) true (rb_eqt (by decide +kernel))) ?_
  refine jm (.bool true) ?_
  refine jm (.bool true) ?_
  refine ja hD7 Tryd.underlying26 (by rfl) info_rat ?_
  refine ja hD8 Tryd.underlying26 (by rfl) info_rat ?_
  refine jc (rt (rN ((rk 1 2) * (rk 1 3))) (rP ((rk 1 2) * (rk 1 3))) (rD ((rk 1 2) * (rk 1 3)))) (fun X hX hF => mulG (rN (rk 1 2)) (rP (rk 1 2)) (rD (rk 1 2)) (rN (rk 1 3)) (rP (rk 1 3)) (rD (rk 1 3)) (rq_rb (rk 1 2)) (rq_rb (rk 1 3)) X (tzR LB0 (by omega)) (tzR LB1 (by omega))) ?_
  refine jc (rt (rN (rk 1 6)) (rP (rk 1 6)) (rD (rk 1 6))) (fun X hX hF => ofLQ (1) (6) X (by decide) (by decide) (by decide)) ?_
  refine jv (.bool true) (exec_eqr _ _ (by rfl) (rN ((rk 1 2) * (rk 1 3))) (rP ((rk 1 2) * (rk 1 3))) (rD ((rk 1 2) * (rk 1 3))) (rN (rk 1 6)) (rP (rk 1 6)) (rD (rk 1 6)) (by rfl) (by rfl) true (rb_eqt (by decide +kernel))) ?_
  refine jm (.bool true) ?_
  refine jm (.bool true) ?_
  refine ja hD9 Tryd.underlying26 (by rfl) info_rat ?_
  refine jc (rt (rN (rk 3 2)) (rP (rk 3 2)) (rD (rk 3 2))) (fun X hX hF => ofLQ (3) (2) X (by decide) (by decide) (by decide)) ?_
  refine jv (.bool true) (exec_eqr _ _ (by rfl) (rN ((rk 1 2) / (rk 1 3))) (rP ((rk 1 2) / (rk 1 3))) (rD ((rk 1 2) / (rk 1 3))) (rN (rk 3 2)) (rP (rk 3 2)) (rD (rk 3 2)) (by rfl) (by rfl) true (rb_eqt (by decide +kernel))) ?_
  refine jm (.bool true) ?_
  refine jm (.bool true) ?_
  refine ja hD7 Tryd.underlying26 (by rfl) info_rat ?_
  refine ja hD8 Tryd.underlying26 (by rfl) info_rat ?_
  refine jc (rt (rN (rk (-5) 6)) (rP (rk (-5) 6)) (rD (rk (-5) 6))) (fun X hX hF => ofLQ (-5) (6) X (by decide) (by decide) (by decide)) ?_
  refine lx_new (by rfl) (fun X hX hF => exec_bsR3 _ _ _ (by rfl) (rk 1 2) (rk 1 3) (rk (-5) 6) (by rfl) (by rfl) (by rfl) X) ?_
  intro v153
  simp only [pX]
  refine jc (rt (rN 0) (rP 0) (rD 0)) (fun X hX hF => mo (sumG v153 [tr (rk 1 2), tr (rk 1 3), tr (rk (-5) 6)] 14 X (hF _ _ List.mem_cons_self rfl) (by omega) HL3.out (by decide) (by omega)) (by rw [HS3.out])) ?_
  refine jn (rz) ?_
  refine jv (.bool true) (exec_eqr _ _ (by rfl) (rN 0) (rP 0) (rD 0) false [] [] (by rfl) (by rfl) true rfl) ?_
  refine jm (.bool true) ?_
  refine jm (.bool true) ?_
  refine lx_nil ?_
  intro X14 hX14 hF
  have hv153 := hF _ _ List.mem_cons_self
  have hD1 := hD1.bel hX14
  have hD3 := hD3.bel hX14
  have hD5 := hD5.bel hX14
  have hD7 := hD7.bel hX14
  have hD8 := hD8.bel hX14
  have hD9 := hD9.bel hX14
  have hD11 := hD11.bel hX14
  have hD22 := hD22.bel hX14
  have hb := bel_next hb hX14
  clear hF hX14
  clear hv153
  go_upto_region 15 with (fail)
  refine jd ?_
  refine jc (rt (rN (rk (-1) 2)) (rP (rk (-1) 2)) (rD (rk (-1) 2))) (fun X hX hF => ofLQ (-1) (2) X (by decide) (by decide) (by decide)) ?_
  refine jc (rt (rN (rk (-1) 3)) (rP (rk (-1) 3)) (rD (rk (-1) 3))) (fun X hX hF => ofLQ (-1) (3) X (by decide) (by decide) (by decide)) ?_
  refine jc (.int .i64 (-1)) (fun X hX hF => mo (rcmpG (rN (rk (-1) 2)) (rP (rk (-1) 2)) (rD (rk (-1) 2)) (rN (rk (-1) 3)) (rP (rk (-1) 3)) (rD (rk (-1) 3)) (rq_rb (rk (-1) 2)) (rq_rb (rk (-1) 3)) X (tzR LB6 (by omega)) (tzR LB7 (by omega))) (by rw [show cmpR (rk (-1) 2) (rk (-1) 3) = -1 from by decide +kernel])) ?_
  refine jv (.bool true) (exec_eqi _ _ _ _ (by rfl) .i64 (-1) (-1) (by rfl) (by rfl) true (decide_eq_true (by omega))) ?_
  refine jm (.bool true) ?_
  refine jm (.int .i64 (-2)) ?_
  refine jv (.bool true) (exec_eqi _ _ _ _ (by rfl) .i64 (-2) (-2) (by rfl) (by rfl) true (decide_eq_true (by omega))) ?_
  refine jm (.bool true) ?_
  refine jm (.bool true) ?_
  refine jm (.int .i64 (-1)) ?_
  refine jv (.bool true) (exec_eqi _ _ _ _ (by rfl) .i64 (-1) (-1) (by rfl) (by rfl) true (decide_eq_true (by omega))) ?_
  refine jm (.bool true) ?_
  refine jm (.bool true) ?_
  refine jm (.int .i64 4) ?_
  refine jv (.bool true) (exec_eqi _ _ _ _ (by rfl) .i64 4 4 (by rfl) (by rfl) true (decide_eq_true (by omega))) ?_
  refine jm (.bool true) ?_
  refine jm (.bool true) ?_
  refine jm (.int .i64 4) ?_
  refine jv (.bool true) (exec_eqi _ _ _ _ (by rfl) .i64 4 4 (by rfl) (by rfl) true (decide_eq_true (by omega))) ?_
  refine jm (.bool true) ?_
  refine jm (.bool true) ?_
  refine ja hD7 Tryd.underlying26 (by rfl) info_rat ?_
  refine ja hD8 Tryd.underlying26 (by rfl) info_rat ?_
  refine jc (rt (rN (minR (rk 1 2) (rk 1 3))) (rP (minR (rk 1 2) (rk 1 3))) (rD (minR (rk 1 2) (rk 1 3)))) (fun X hX hF => minG (rN (rk 1 2)) (rP (rk 1 2)) (rD (rk 1 2)) (rN (rk 1 3)) (rP (rk 1 3)) (rD (rk 1 3)) (rq_rb (rk 1 2)) (rq_rb (rk 1 3)) X (tzR LB0 (by omega)) (tzR LB1 (by omega))) ?_
  refine ja hD8 Tryd.underlying26 (by rfl) info_rat ?_
  refine jv (.bool true) (exec_eqr _ _ (by rfl) (rN (minR (rk 1 2) (rk 1 3))) (rP (minR (rk 1 2) (rk 1 3))) (rD (minR (rk 1 2) (rk 1 3))) (rN (rk 1 3)) (rP (rk 1 3)) (rD (rk 1 3)) (by rfl) (by rfl) true (rb_eqt (by decide +kernel))) ?_
  refine jm (.bool true) ?_
  refine jm (.bool true) ?_
  refine ja hD7 Tryd.underlying26 (by rfl) info_rat ?_
  refine ja hD8 Tryd.underlying26 (by rfl) info_rat ?_
  refine jc (rt (rN (maxR (rk 1 2) (rk 1 3))) (rP (maxR (rk 1 2) (rk 1 3))) (rD (maxR (rk 1 2) (rk 1 3)))) (fun X hX hF => maxG (rN (rk 1 2)) (rP (rk 1 2)) (rD (rk 1 2)) (rN (rk 1 3)) (rP (rk 1 3)) (rD (rk 1 3)) (rq_rb (rk 1 2)) (rq_rb (rk 1 3)) X (tzR LB0 (by omega)) (tzR LB1 (by omega))) ?_
  refine ja hD7 Tryd.underlying26 (by rfl) info_rat ?_
  refine jv (.bool true) (exec_eqr _ _ (by rfl) (rN (maxR (rk 1 2) (rk 1 3))) (rP (maxR (rk 1 2) (rk 1 3))) (rD (maxR (rk 1 2) (rk 1 3))) (rN (rk 1 2)) (rP (rk 1 2)) (rD (rk 1 2)) (by rfl) (by rfl) true (rb_eqt (by decide +kernel))) ?_
  refine jm (.bool true) ?_
  refine jm (.bool true) ?_
  refine jz fun X15 hX15 => ?_
  have hD1 := hD1.bel hX15
  have hD3 := hD3.bel hX15
  have hD5 := hD5.bel hX15
  have hD7 := hD7.bel hX15
  have hD8 := hD8.bel hX15
  have hD9 := hD9.bel hX15
  have hD11 := hD11.bel hX15
  have hD22 := hD22.bel hX15
  have hb := bel_next hb hX15
  clear hX15
  go_upto_region 16 with (fail)
  refine jd ?_
  refine jm (st ([45, 51, 48, 48, 47, 55] : List UInt8)) ?_
  refine jv (.bool true) (exec_eqsB _ _ _ _ (by rfl) ([45, 51, 48, 48, 47, 55] : List UInt8) ([45, 51, 48, 48, 47, 55] : List UInt8) (by rfl) (by rfl) true (eqs_t rfl)) ?_
  refine jm (.bool true) ?_
  refine ja hD22 Tryd.underlying26 (by rfl) info_rat ?_
  refine jc (rt (rN (rk (-300) 7)) (rP (rk (-300) 7)) (rD (rk (-300) 7))) (fun X hX hF => ofLQ (-300) (7) X (by decide) (by decide) (by decide)) ?_
  refine jv (.bool true) (exec_eqr _ _ (by rfl) (rN (rk 300 (-7))) (rP (rk 300 (-7))) (rD (rk 300 (-7))) (rN (rk (-300) 7)) (rP (rk (-300) 7)) (rD (rk (-300) 7)) (by rfl) (by rfl) true (rb_eqt (by decide +kernel))) ?_
  refine jm (.bool true) ?_
  refine jm (.bool true) ?_
  refine jc (.bool true) (fun X hX hF => failsC [50, 47, 52] X (by decide) nt_24) ?_
  refine jm (.bool true) ?_
  refine jm (.bool true) ?_
  refine jc (.bool true) (fun X hX hF => failsC [51, 47, 49] X (by decide) nt_31) ?_
  refine jm (.bool true) ?_
  refine jm (.bool true) ?_
  refine jc (.bool true) (fun X hX hF => failsC [45, 48] X (by decide) nt_m0) ?_
  refine jm (.bool true) ?_
  refine jm (.bool true) ?_
  refine jn (rz) ?_
  refine jc (st ([48] : List UInt8)) (fun X hX hF => mo (textG false [] [] rq_zero X tz_nil) (by rw [HTZ.out])) ?_
  refine jv (.bool true) (exec_eqsB _ _ _ _ (by rfl) ([48] : List UInt8) ([48] : List UInt8) (by rfl) (by rfl) true (eqs_t rfl)) ?_
  refine jm (.bool true) ?_
  refine jm (.bool true) ?_
  refine jz fun X16 hX16 => ?_
  have hD1 := hD1.bel hX16
  have hD3 := hD3.bel hX16
  have hD5 := hD5.bel hX16
  have hD7 := hD7.bel hX16
  have hD8 := hD8.bel hX16
  have hD9 := hD9.bel hX16
  have hD11 := hD11.bel hX16
  have hD22 := hD22.bel hX16
  have hb := bel_next hb hX16
  clear hX16
  go_upto_region 17 with (fail)
  refine jq 1 ?_
  refine jn (rt false ([2] : List UInt8) ([4] : List UInt8)) ?_
  refine jz fun X17 hX17 => ?_
  have hD1 := hD1.bel hX17
  have hD3 := hD3.bel hX17
  have hD5 := hD5.bel hX17
  have hD7 := hD7.bel hX17
  have hD8 := hD8.bel hX17
  have hD9 := hD9.bel hX17
  have hD11 := hD11.bel hX17
  have hD22 := hD22.bel hX17
  have hb := bel_next hb hX17
  clear hX17
  go_upto_region 18 with (refine osn 26 28 213 #[.bool false, .string ⟨([2] : List UInt8).toArray⟩, .string ⟨([4] : List UInt8).toArray⟩] info_rat ?_)
  obtain ⟨Y17, hY9, hD28, hS9⟩ := start1 X17 26 [.bool false, .string ⟨([2] : List UInt8).toArray⟩, .string ⟨([4] : List UInt8).toArray⟩]
  rw [← hY9]
  clear hY9
  have hgs28 := hb.size
  have hlt28x0 := hD1.lt
  have hlt28x1 := hD3.lt
  have hlt28x2 := hD5.lt
  have hlt28x3 := hD7.lt
  have hlt28x4 := hD8.lt
  have hlt28x5 := hD9.lt
  have hlt28x6 := hD11.lt
  have hlt28x7 := hD22.lt
  have hD1 := hD1.bel hS9
  have hD3 := hD3.bel hS9
  have hD5 := hD5.bel hS9
  have hD7 := hD7.bel hS9
  have hD8 := hD8.bel hS9
  have hD9 := hD9.bel hS9
  have hD11 := hD11.bel hS9
  have hD22 := hD22.bel hS9
  have hb := bel_next hb hS9
  clear hS9
  generalize X17.heap.size = g28 at *
  refine jd ?_
  refine jm (.bool true) ?_
  refine jm (.bool true) ?_
  refine jm (.bool true) ?_
  refine jm (.bool true) ?_
  refine jm (.bool true) ?_
  refine jm (.bool true) ?_
  refine jm (.bool true) ?_
  refine jm (.bool true) ?_
  refine jm (.bool true) ?_
  refine jm (.bool true) ?_
  refine jm (.bool true) ?_
  refine ja hD28 Tryd.underlying26 (by rfl) info_rat ?_
  refine jc (.bool false) (fun X hX hF => mo (validG false [2] [4] X (tz_24.mono (by omega))) (by rw [vd_24])) ?_
  refine jm (.bool true) ?_
  refine jm (.bool true) ?_
  refine jm (.bool true) ?_
  refine jn (.agg #[.bool true, .string ⟨#[]⟩, .string ⟨#[]⟩]) ?_
  refine jc (.bool false) (fun X hX hF => mo (validG true [] [] X tz_nil) (by rfl)) ?_
  refine jm (.bool true) ?_
  refine jm (.bool true) ?_
  refine jm (.bool true) ?_
  refine ja hD28 Tryd.underlying26 (by rfl) info_rat ?_
  refine jc (rt (rN (ri 1)) (rP (ri 1)) (rD (ri 1))) (fun X hX hF => rintQ (1) X (by decide)) ?_
  refine jc (rt (rN (0 + (ri 1))) (rP (0 + (ri 1))) (rD (0 + (ri 1)))) (fun X hX hF => addG false ([2] : List UInt8) ([4] : List UInt8) (rN (ri 1)) (rP (ri 1)) (rD (ri 1)) rq_24 (rq_rb (ri 1)) X (tz_24.mono (by omega)) (tzR LB8 (by omega))) ?_
  refine jc (rt (rN (ri 1)) (rP (ri 1)) (rD (ri 1))) (fun X hX hF => rintQ (1) X (by decide)) ?_
  refine jv (.bool true) (exec_eqr _ _ (by rfl) (rN (0 + (ri 1))) (rP (0 + (ri 1))) (rD (0 + (ri 1))) (rN (ri 1)) (rP (ri 1)) (rD (ri 1)) (by rfl) (by rfl) true (rb_eqt (by decide +kernel))) ?_
  refine jm (.bool true) ?_
  refine jm (.bool true) ?_
  refine jz fun X18 hX18 => ?_
  have hD1 := hD1.bel hX18
  have hD3 := hD3.bel hX18
  have hD5 := hD5.bel hX18
  have hD7 := hD7.bel hX18
  have hD8 := hD8.bel hX18
  have hD9 := hD9.bel hX18
  have hD11 := hD11.bel hX18
  have hD22 := hD22.bel hX18
  have hD28 := hD28.bel hX18
  have hb := bel_next hb hX18
  clear hX18
  go_wp2
  go_ret
  exact ⟨rfl, hb⟩

end Go.Proofs.YtchhlgcakjjncaaDoor
