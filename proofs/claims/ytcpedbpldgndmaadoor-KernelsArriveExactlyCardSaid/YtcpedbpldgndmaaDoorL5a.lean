/-
  law 05: words.
-/
import Derived.Test.YtcpedbpldgndmaaDoorQsu
import Derived.Test.YtcpedbpldgndmaaDoorMH
set_option linter.unusedSimpArgs false
set_option linter.unusedVariables false
set_option maxRecDepth 100000
set_option maxHeartbeats 1600000
namespace Go.Proofs.YtcpedbpldgndmaaDoor
open Go.RowKit
theorem run_ne_rat (w : World) (n n' : Bool) (p q p' q' : List UInt8) : (binOp .neq 38 (rtv n p q) (rtv n' p' q')).run Tryd.prog w = .ok (.bool (!(n == n' && p == p' && q == q'))) w := by
 have h1 : (p == p') = decide (p = p') := by rw [Bool.eq_iff_iff]; simp
 have h2 : (q == q') = decide (q = q') := by rw [Bool.eq_iff_iff]; simp
 rw [h1, h2]
 go_simp
 by_cases e1 : n = n' <;> by_cases e2 : p = p' <;> by_cases e3 : q = q' <;> simp [e1, e2, e3]
theorem exec_eqr {f : Operand → Value} {o : Oper} (x y : Operand) (ho : o.op = .binOp .eql 38 x y 38) (n : Bool) (p q : List UInt8) (n' : Bool) (p' q' : List UInt8) (hx : f x = rtv n p q) (hy : f y = rtv n' p' q') (b : Bool) (hb : (n == n' && p == p' && q == q') = b) (X : World) : (execOp f o).run Tryd.prog X = .ok (.value (.bool b)) X :=
 exec_cmp_agg .eql _ _ x y ho _ _ hx hy eqm_rat _ X ((run_eq_rat X n n' p q p' q').trans (by rw [hb]))
theorem exec_ner {f : Operand → Value} {o : Oper} (x y : Operand) (ho : o.op = .binOp .neq 38 x y 38) (n : Bool) (p q : List UInt8) (n' : Bool) (p' q' : List UInt8) (hx : f x = rtv n p q) (hy : f y = rtv n' p' q') (b : Bool) (hb : (n == n' && p == p' && q == q') = !b) (X : World) : (execOp f o).run Tryd.prog X = .ok (.value (.bool b)) X :=
 exec_cmp_agg .neq _ _ x y ho _ _ hx hy eqm_rat _ X ((run_ne_rat X n n' p q p' q').trans (by rw [hb, Bool.not_not]))
theorem rb_eq {x y : Rat} (b : Bool) (h : x = y ↔ b = true) : (rN x == rN y && rP x == rP y && rD x == rD y) = b := by
 rw [Bool.eq_iff_iff, ← h];simp only [Bool.and_eq_true, beq_iff_eq];exact ⟨fun ⟨⟨h1, h2⟩, h3⟩ => rb_inj h1 h2 h3, fun h => by rw [h]; exact ⟨⟨rfl, rfl⟩, rfl⟩⟩
theorem rb_eqt {x y : Rat} (h : x = y) : (rN x == rN y && rP x == rP y && rD x == rD y) = true := rb_eq true ⟨fun _ => rfl, fun _ => h⟩
theorem rb_eqf {x y : Rat} (h : x ≠ y) : (rN x == rN y && rP x == rP y && rD x == rD y) = false := rb_eq false ⟨fun h9 => absurd h9 h, fun h9 => by cases h9⟩
theorem rb_zf {x : Rat} (h : x ≠ 0) : (rN x == false && rP x == [] && rD x == []) = false := rb_eqf (y := 0) h
/-- Whether the parts have at most so many bytes. -/
def few (p q : List UInt8) (m : Nat) : Bool := decide (p.length ≤ m) && decide (q.length ≤ m)
theorem few0 (n : Bool) (p q : List UInt8) (m : Nat) (w : World) (h : ¬ p.length ≤ m) : Calls Tryd.prog 37 #[.agg #[.bool n, .string ⟨p.toArray⟩, .string ⟨q.toArray⟩], .int .i64 (m : Int)] w fun e w' => e = .returned (.bool (few p q m)) ∧ Since w w' := by
 have HV : Hid (few p q m = false) := by show _ = _; unfold few; simp only [h, decide_true, decide_false, Bool.true_and, Bool.false_and]
 go_enter Tryd.func37, Tryd.ntmps37
 go_upto_region 1 with fail;obtain ⟨W0, hW0, hB0, hb⟩ := start1 w 38 [.bool n, .string ⟨p.toArray⟩, .string ⟨q.toArray⟩];rw [← hW0];clear hW0;refine jp ?_;refine jn (.pointer (some ⟨w.heap.size, 1, none⟩)) ?_;refine jf (st p) hB0 1 load_str ?_;refine jv (.int .i64 (p.length : Int)) (exec_lens Tryd.underlying9 _ (by rfl) p (by rfl) _ rfl) ?_;refine jm (.int .i64 (m : Int)) ?_;refine jv (.bool false) (exec_leq _ _ _ _ (by rfl) .i64 (p.length : Int) (m : Int) (by rfl) (by rfl) false (decide_eq_false (by omega))) ?_;refine jm (.bool false) ?_;refine js ?_;refine js ?_;refine js ?_;refine js ?_;refine js ?_;refine jm (.bool false) ?_;refine jm (.bool false) ?_;refine jzb hb fun X1 hX1 hb => ?_;have hB0 := hB0.bel hX1;clear hX1
 go_wp2
 go_ret
 exact ⟨by rw [HV.out]; rfl, hb⟩
theorem few1 (n : Bool) (p q : List UInt8) (m : Nat) (w : World) (h : p.length ≤ m) (h2 : ¬ q.length ≤ m) : Calls Tryd.prog 37 #[.agg #[.bool n, .string ⟨p.toArray⟩, .string ⟨q.toArray⟩], .int .i64 (m : Int)] w fun e w' => e = .returned (.bool (few p q m)) ∧ Since w w' := by
 have HV : Hid (few p q m = false) := by show _ = _; unfold few; simp only [h, h2, decide_true, decide_false, Bool.true_and, Bool.false_and]
 go_enter Tryd.func37, Tryd.ntmps37
 go_upto_region 1 with fail;obtain ⟨W0, hW0, hB0, hb⟩ := start1 w 38 [.bool n, .string ⟨p.toArray⟩, .string ⟨q.toArray⟩];rw [← hW0];clear hW0;refine jp ?_;refine jn (.pointer (some ⟨w.heap.size, 1, none⟩)) ?_;refine jf (st p) hB0 1 load_str ?_;refine jv (.int .i64 (p.length : Int)) (exec_lens Tryd.underlying9 _ (by rfl) p (by rfl) _ rfl) ?_;refine jm (.int .i64 (m : Int)) ?_;refine jv (.bool true) (exec_leq _ _ _ _ (by rfl) .i64 (p.length : Int) (m : Int) (by rfl) (by rfl) true (decide_eq_true (by omega))) ?_;refine jm (.bool true) ?_;refine jn (.pointer (some ⟨w.heap.size, 2, none⟩)) ?_;refine jf (st q) hB0 2 load_str ?_;refine jv (.int .i64 (q.length : Int)) (exec_lens Tryd.underlying9 _ (by rfl) q (by rfl) _ rfl) ?_;refine jm (.int .i64 (m : Int)) ?_;refine jv (.bool false) (exec_leq _ _ _ _ (by rfl) .i64 (q.length : Int) (m : Int) (by rfl) (by rfl) false (decide_eq_false (by omega))) ?_;refine jm (.bool false) ?_;refine jm (.bool false) ?_;refine jzb hb fun X1 hX1 hb => ?_;have hB0 := hB0.bel hX1;clear hX1
 go_wp2
 go_ret
 exact ⟨by rw [HV.out]; rfl, hb⟩
theorem few2 (n : Bool) (p q : List UInt8) (m : Nat) (w : World) (h : p.length ≤ m) (h2 : q.length ≤ m) : Calls Tryd.prog 37 #[.agg #[.bool n, .string ⟨p.toArray⟩, .string ⟨q.toArray⟩], .int .i64 (m : Int)] w fun e w' => e = .returned (.bool (few p q m)) ∧ Since w w' := by
 have HV : Hid (few p q m = true) := by show _ = _; unfold few; simp only [h, h2, decide_true, decide_false, Bool.true_and, Bool.false_and]
 go_enter Tryd.func37, Tryd.ntmps37
 go_upto_region 1 with fail;obtain ⟨W0, hW0, hB0, hb⟩ := start1 w 38 [.bool n, .string ⟨p.toArray⟩, .string ⟨q.toArray⟩];rw [← hW0];clear hW0;refine jp ?_;refine jn (.pointer (some ⟨w.heap.size, 1, none⟩)) ?_;refine jf (st p) hB0 1 load_str ?_;refine jv (.int .i64 (p.length : Int)) (exec_lens Tryd.underlying9 _ (by rfl) p (by rfl) _ rfl) ?_;refine jm (.int .i64 (m : Int)) ?_;refine jv (.bool true) (exec_leq _ _ _ _ (by rfl) .i64 (p.length : Int) (m : Int) (by rfl) (by rfl) true (decide_eq_true (by omega))) ?_;refine jm (.bool true) ?_;refine jn (.pointer (some ⟨w.heap.size, 2, none⟩)) ?_;refine jf (st q) hB0 2 load_str ?_;refine jv (.int .i64 (q.length : Int)) (exec_lens Tryd.underlying9 _ (by rfl) q (by rfl) _ rfl) ?_;refine jm (.int .i64 (m : Int)) ?_;refine jv (.bool true) (exec_leq _ _ _ _ (by rfl) .i64 (q.length : Int) (m : Int) (by rfl) (by rfl) true (decide_eq_true (by omega))) ?_;refine jm (.bool true) ?_;refine jm (.bool true) ?_;refine jzb hb fun X1 hX1 hb => ?_;have hB0 := hB0.bel hX1;clear hX1
 go_wp2
 go_ret
 exact ⟨by rw [HV.out]; rfl, hb⟩
theorem fewQ (n : Bool) (p q : List UInt8) (m : Nat) (w : World) : Calls Tryd.prog 37 #[.agg #[.bool n, .string ⟨p.toArray⟩, .string ⟨q.toArray⟩], .int .i64 (m : Int)] w fun e w' => e = .returned (.bool (few p q m)) ∧ Since w w' := by
 by_cases h : p.length ≤ m
 ·by_cases h2 : q.length ≤ m
  ·exact few2 n p q m w h h2
  ·exact few1 n p q m w h h2
 ·exact few0 n p q m w h
end Go.Proofs.YtcpedbpldgndmaaDoor
