/-
  law 13: CurvesCompareAsSpecified.
-/
import Derived.Test.YtchhlgcakjjncaaGreatDoorRc6
set_option linter.unusedSimpArgs false
set_option linter.unusedVariables false
set_option maxRecDepth 100000
set_option maxHeartbeats 1600000
namespace Go.Proofs.YtchhlgcakjjncaaGreatDoor
open Go.RowKit
theorem run_ne_bt (w : World) (x y : Int × Int) : (binOp .neq 73 (.agg #[.int .i64 x.1, .int .i64 x.2]) (.agg #[.int .i64 y.1, .int .i64 y.2])).run Tryz.prog w = .ok (.bool (decide (x ≠ y))) w := by
  obtain ⟨s, n⟩ := x
  obtain ⟨s', n'⟩ := y
  go_simp
  by_cases e0 : s = s' <;> by_cases e1 : n = n' <;> simp [e0, e1]
theorem eqm_bt : Tryz.prog.eqGuardType Tryz.prog.depth 73 = false := by kernel_rfl
theorem exec_neb {f : Operand → Value} {o : Oper} (a b : Operand) (ho : o.op = .binOp .neq 73 a b 73) (x y : Int × Int) (hx : f a = .agg #[.int .i64 x.1, .int .i64 x.2]) (hy : f b = .agg #[.int .i64 y.1, .int .i64 y.2]) (c : Bool) (hc : decide (x ≠ y) = c) (X : World) : (execOp f o).run Tryz.prog X = .ok (.value (.bool c)) X :=
  exec_cmp_agg .neq _ _ a b ho _ _ hx hy eqm_bt _ X ((run_ne_bt X x y).trans (by rw [hc]))
theorem load_bts (b k : Nat) (X : World) (v : Value) (h : X.cell? ⟨b, k, none⟩ = some v) : (loadVar 61 ⟨b, k, none⟩).run Tryz.prog X = .ok v X := by
  go_simp
/-- What the reference's Shift and Scale hand back; what its Differ does. -/
def Mdv (E : Int) (l : List Pt) (v : Value) (X : World) : Prop := ∃ A n c, v = .agg #[.slice A n c, .int .i64 E] ∧ Rd X 4 (.slice A n c) n (fl ptc l) ∧ l.length = n ∧ n ≤ 9223372036854775807
theorem Mdv.lasts (E : Int) (l : List Pt) : Lasts (Mdv E l) := fun _ _ _ ⟨A, n, c, h1, h2, h3⟩ hS => ⟨A, n, c, h1, h2.below hS, h3⟩
def Ptv (E : Int) (l : List (Int × Int)) (v : Value) (X : World) : Prop := ∃ A n c, v = .agg #[.slice A n c, .int .i64 E] ∧ Rd X 2 (.slice A n c) n (fl btc l) ∧ l.length = n
theorem Ptv.lasts (E : Int) (l : List (Int × Int)) : Lasts (Ptv E l) := fun _ _ _ ⟨A, n, c, h1, h2, h3⟩ hS => ⟨A, n, c, h1, h2.below hS, h3⟩
theorem rshiftV (l : List Pt) (v : Value) (d : Int) (w : World) (h : Cvl l v w) (hf : fewP l 1000) : Calls Tryz.prog 45 #[v, .int .i64 d] w fun e w' => ∃ u, e = .returned u ∧ Mdv (shE l d) (shL l d) u w' ∧ Since w w' := by
  obtain ⟨A, n, c, rfl, h1, h2, h3⟩ := h
  refine (rshiftC A n c l d w h1 h2 h3 hf).mono fun e X ⟨A', m, c', L, he, g1, g2, g3, g4⟩ => ⟨_, he, ⟨A', m, c', rfl, ?_, ?_, ?_⟩, g4⟩
  · rw [← g3]; exact g1
  · rw [← g3]; exact g2
  · have := shL_len l d
    rw [← g3] at this
    omega
theorem rscaleV (l : List Pt) (v : Value) (n' : Bool) (p q : List UInt8) (ht : tz p q 1000000) (w : World) (h : Cvl l v w) (hf : fewP l 1000) : Calls Tryz.prog 46 #[v, rtv n' p q] w fun e w' => ∃ u, e = .returned u ∧ Mdv (scE l (n', p, q)) (scL l (n', p, q)) u w' ∧ Since w w' := by
  obtain ⟨A, n, c, rfl, h1, h2, h3⟩ := h
  refine (rscaleC A n c l n' p q ht w h1 h2 h3 hf).mono fun e X ⟨A', m, c', L, he, g1, g2, g3, g4⟩ => ⟨_, he, ⟨A', m, c', rfl, ?_, ?_, ?_⟩, g4⟩
  · rw [← g3]; exact g1
  · rw [← g3]; exact g2
  · have := scL_len l (n', p, q)
    rw [← g3] at this
    omega
theorem rdifferV (l m : List Pt) (u v : Value) (w : World) (h : Cvl l u w) (h' : Cvl m v w) (hf : fewP l 1000) (hf' : fewP m 1000) : Calls Tryz.prog 47 #[u, v] w fun e w' => ∃ x, e = .returned x ∧ Ptv (dfE l m) (dfL l m) x w' ∧ Since w w' := by
  obtain ⟨A, n, c, rfl, h1, h2, h3⟩ := h
  obtain ⟨A', n', c', rfl, h1', h2', h3'⟩ := h'
  exact (rdifferC A n c l A' n' c' m w h1 h1' h2 h2' h3 h3' hf hf').mono fun e X ⟨A9, m9, c9, he, g1, g2, g4⟩ => ⟨_, he, ⟨A9, m9, c9, rfl, g1, g2⟩, g4⟩
theorem comp0 (w : World) (A : Option Addr) (n c : Nat) (l : List Pt) (hr : Rd w 4 (.slice A n c) n (fl ptc l)) (hln : l.length = n) (hn1 : n ≤ 9223372036854775807) (A' : Option Addr) (n' c' : Nat) (m : List Pt) (hr' : Rd w 4 (.slice A' n' c') n' (fl ptc m)) (hlm : m.length = n') (hn2 : n' ≤ 9223372036854775807) (d : Int) (s9 : Bool) (p q : List UInt8) (h0 : fewB l 8 = false) : Calls Tryz.prog 5 #[.agg #[.slice A n c], .agg #[.slice A' n' c'], .agg #[.int .i64 d, .bool s9, .string ⟨p.toArray⟩, .string ⟨q.toArray⟩]] w fun e w' => e = .returned (.bool true) ∧ Since w w' := by
  have HRX : Hid (∀ X, Since w X → Rd X 4 (.slice A n c) n (fl ptc l)) := fun X h => hr.below h
  have HRY : Hid (∀ X, Since w X → Rd X 4 (.slice A' n' c') n' (fl ptc m)) := fun X h => hr'.below h
  clear hr hr'
  go_enter Tryz.func5, Tryz.ntmps5
  go_upto_region 1 with (fail)
  obtain ⟨W0, hW0, hB0, hB1, hB2, hb⟩ := start3 w 48 48 57 [.slice A n c] [.slice A' n' c'] [.int .i64 d, .bool s9, .string ⟨p.toArray⟩, .string ⟨q.toArray⟩]
  rw [← hW0]
  clear hW0
  refine jp ?_
  refine ja hB0 Tryz.underlying48 (by rfl) info_cv ?_
  refine jc (.bool false) (fun X hX hF => mo (few13L A n c l X (HRX.out X (hb.trans (Below.mono hX hb.size))) hln hn1) (by rw [h0])) ?_
  refine jm (.bool true) ?_
  refine jm (.bool true) ?_
  refine js ?_
  refine js ?_
  refine js ?_
  refine jm (.bool true) ?_
  refine jm (.bool true) ?_
  refine js ?_
  refine js ?_
  refine js ?_
  refine js ?_
  refine js ?_
  refine jm (.bool true) ?_
  refine jm (.bool true) ?_
  refine js ?_
  refine js ?_
  refine js ?_
  refine js ?_
  refine js ?_
  refine jm (.bool true) ?_
  refine jz fun X1 hX1 => ?_
  have hB0 := hB0.bel hX1
  have hB1 := hB1.bel hX1
  have hB2 := hB2.bel hX1
  have hb := bel_next hb hX1
  clear hX1
  go_upto_region 2 with (fail)
  refine jp ?_
  refine jc (.bool true) (fun X hX hF => sanityC X) ?_
  refine jm (.bool true) ?_
  refine jz fun X2 hX2 => ?_
  have hB0 := hB0.bel hX2
  have hB1 := hB1.bel hX2
  have hB2 := hB2.bel hX2
  have hb := bel_next hb hX2
  clear hX2
  go_wp2
  go_ret
  exact ⟨rfl, hb⟩
theorem comp1 (w : World) (A : Option Addr) (n c : Nat) (l : List Pt) (hr : Rd w 4 (.slice A n c) n (fl ptc l)) (hln : l.length = n) (hn1 : n ≤ 9223372036854775807) (A' : Option Addr) (n' c' : Nat) (m : List Pt) (hr' : Rd w 4 (.slice A' n' c') n' (fl ptc m)) (hlm : m.length = n') (hn2 : n' ≤ 9223372036854775807) (d : Int) (s9 : Bool) (p q : List UInt8) (h0 : fewB l 8 = true) (g0 : fewB m 8 = false) : Calls Tryz.prog 5 #[.agg #[.slice A n c], .agg #[.slice A' n' c'], .agg #[.int .i64 d, .bool s9, .string ⟨p.toArray⟩, .string ⟨q.toArray⟩]] w fun e w' => e = .returned (.bool true) ∧ Since w w' := by
  have HRX : Hid (∀ X, Since w X → Rd X 4 (.slice A n c) n (fl ptc l)) := fun X h => hr.below h
  have HRY : Hid (∀ X, Since w X → Rd X 4 (.slice A' n' c') n' (fl ptc m)) := fun X h => hr'.below h
  clear hr hr'
  go_enter Tryz.func5, Tryz.ntmps5
  go_upto_region 1 with (fail)
  obtain ⟨W0, hW0, hB0, hB1, hB2, hb⟩ := start3 w 48 48 57 [.slice A n c] [.slice A' n' c'] [.int .i64 d, .bool s9, .string ⟨p.toArray⟩, .string ⟨q.toArray⟩]
  rw [← hW0]
  clear hW0
  refine jp ?_
  refine ja hB0 Tryz.underlying48 (by rfl) info_cv ?_
  refine jc (.bool true) (fun X hX hF => mo (few13L A n c l X (HRX.out X (hb.trans (Below.mono hX hb.size))) hln hn1) (by rw [h0])) ?_
  refine jm (.bool false) ?_
  refine jm (.bool false) ?_
  refine ja hB1 Tryz.underlying48 (by rfl) info_cv ?_
  refine jc (.bool false) (fun X hX hF => mo (few13L A' n' c' m X (HRY.out X (hb.trans (Below.mono hX hb.size))) hlm hn2) (by rw [g0])) ?_
  refine jm (.bool true) ?_
  refine jm (.bool true) ?_
  refine jm (.bool true) ?_
  refine js ?_
  refine js ?_
  refine js ?_
  refine js ?_
  refine js ?_
  refine jm (.bool true) ?_
  refine jm (.bool true) ?_
  refine js ?_
  refine js ?_
  refine js ?_
  refine js ?_
  refine js ?_
  refine jm (.bool true) ?_
  refine jz fun X1 hX1 => ?_
  have hB0 := hB0.bel hX1
  have hB1 := hB1.bel hX1
  have hB2 := hB2.bel hX1
  have hb := bel_next hb hX1
  clear hX1
  go_upto_region 2 with (fail)
  refine jp ?_
  refine jc (.bool true) (fun X hX hF => sanityC X) ?_
  refine jm (.bool true) ?_
  refine jz fun X2 hX2 => ?_
  have hB0 := hB0.bel hX2
  have hB1 := hB1.bel hX2
  have hB2 := hB2.bel hX2
  have hb := bel_next hb hX2
  clear hX2
  go_wp2
  go_ret
  exact ⟨rfl, hb⟩
theorem comp2 (w : World) (A : Option Addr) (n c : Nat) (l : List Pt) (hr : Rd w 4 (.slice A n c) n (fl ptc l)) (hln : l.length = n) (hn1 : n ≤ 9223372036854775807) (A' : Option Addr) (n' c' : Nat) (m : List Pt) (hr' : Rd w 4 (.slice A' n' c') n' (fl ptc m)) (hlm : m.length = n') (hn2 : n' ≤ 9223372036854775807) (d : Int) (s9 : Bool) (p q : List UInt8) (h0 : fewB l 8 = true) (g0 : fewB m 8 = true) (hp : 20 < p.length) : Calls Tryz.prog 5 #[.agg #[.slice A n c], .agg #[.slice A' n' c'], .agg #[.int .i64 d, .bool s9, .string ⟨p.toArray⟩, .string ⟨q.toArray⟩]] w fun e w' => e = .returned (.bool true) ∧ Since w w' := by
  have HRX : Hid (∀ X, Since w X → Rd X 4 (.slice A n c) n (fl ptc l)) := fun X h => hr.below h
  have HRY : Hid (∀ X, Since w X → Rd X 4 (.slice A' n' c') n' (fl ptc m)) := fun X h => hr'.below h
  clear hr hr'
  go_enter Tryz.func5, Tryz.ntmps5
  go_upto_region 1 with (fail)
  obtain ⟨W0, hW0, hB0, hB1, hB2, hb⟩ := start3 w 48 48 57 [.slice A n c] [.slice A' n' c'] [.int .i64 d, .bool s9, .string ⟨p.toArray⟩, .string ⟨q.toArray⟩]
  rw [← hW0]
  clear hW0
  refine jp ?_
  refine ja hB0 Tryz.underlying48 (by rfl) info_cv ?_
  refine jc (.bool true) (fun X hX hF => mo (few13L A n c l X (HRX.out X (hb.trans (Below.mono hX hb.size))) hln hn1) (by rw [h0])) ?_
  refine jm (.bool false) ?_
  refine jm (.bool false) ?_
  refine ja hB1 Tryz.underlying48 (by rfl) info_cv ?_
  refine jc (.bool true) (fun X hX hF => mo (few13L A' n' c' m X (HRY.out X (hb.trans (Below.mono hX hb.size))) hlm hn2) (by rw [g0])) ?_
  refine jm (.bool false) ?_
  refine jm (.bool false) ?_
  refine jm (.bool false) ?_
  refine jn (.pointer (some ⟨(w.heap.size + 2), 1, none⟩)) ?_
  refine jn (.pointer (some ⟨(w.heap.size + 2), 2, none⟩)) ?_
  refine jf (st p) hB2 2 load_str ?_
  refine jv (.int .i64 (p.length : Int)) (exec_lens Tryz.underlying9 _ (by rfl) p (by rfl) _ rfl) ?_
  refine jv (.bool true) (exec_gtr _ _ _ _ (by rfl) .i64 (p.length : Int) 20 (by rfl) (by rfl) true (decide_eq_true (by omega))) ?_
  refine jm (.bool true) ?_
  refine jm (.bool true) ?_
  refine js ?_
  refine js ?_
  refine js ?_
  refine js ?_
  refine js ?_
  refine jm (.bool true) ?_
  refine jz fun X1 hX1 => ?_
  have hB0 := hB0.bel hX1
  have hB1 := hB1.bel hX1
  have hB2 := hB2.bel hX1
  have hb := bel_next hb hX1
  clear hX1
  go_upto_region 2 with (fail)
  refine jp ?_
  refine jc (.bool true) (fun X hX hF => sanityC X) ?_
  refine jm (.bool true) ?_
  refine jz fun X2 hX2 => ?_
  have hB0 := hB0.bel hX2
  have hB1 := hB1.bel hX2
  have hB2 := hB2.bel hX2
  have hb := bel_next hb hX2
  clear hX2
  go_wp2
  go_ret
  exact ⟨rfl, hb⟩
theorem comp3 (w : World) (A : Option Addr) (n c : Nat) (l : List Pt) (hr : Rd w 4 (.slice A n c) n (fl ptc l)) (hln : l.length = n) (hn1 : n ≤ 9223372036854775807) (A' : Option Addr) (n' c' : Nat) (m : List Pt) (hr' : Rd w 4 (.slice A' n' c') n' (fl ptc m)) (hlm : m.length = n') (hn2 : n' ≤ 9223372036854775807) (d : Int) (s9 : Bool) (p q : List UInt8) (h0 : fewB l 8 = true) (g0 : fewB m 8 = true) (hp : p.length ≤ 20) (hq : 20 < q.length) : Calls Tryz.prog 5 #[.agg #[.slice A n c], .agg #[.slice A' n' c'], .agg #[.int .i64 d, .bool s9, .string ⟨p.toArray⟩, .string ⟨q.toArray⟩]] w fun e w' => e = .returned (.bool true) ∧ Since w w' := by
  have HRX : Hid (∀ X, Since w X → Rd X 4 (.slice A n c) n (fl ptc l)) := fun X h => hr.below h
  have HRY : Hid (∀ X, Since w X → Rd X 4 (.slice A' n' c') n' (fl ptc m)) := fun X h => hr'.below h
  clear hr hr'
  go_enter Tryz.func5, Tryz.ntmps5
  go_upto_region 1 with (fail)
  obtain ⟨W0, hW0, hB0, hB1, hB2, hb⟩ := start3 w 48 48 57 [.slice A n c] [.slice A' n' c'] [.int .i64 d, .bool s9, .string ⟨p.toArray⟩, .string ⟨q.toArray⟩]
  rw [← hW0]
  clear hW0
  refine jp ?_
  refine ja hB0 Tryz.underlying48 (by rfl) info_cv ?_
  refine jc (.bool true) (fun X hX hF => mo (few13L A n c l X (HRX.out X (hb.trans (Below.mono hX hb.size))) hln hn1) (by rw [h0])) ?_
  refine jm (.bool false) ?_
  refine jm (.bool false) ?_
  refine ja hB1 Tryz.underlying48 (by rfl) info_cv ?_
  refine jc (.bool true) (fun X hX hF => mo (few13L A' n' c' m X (HRY.out X (hb.trans (Below.mono hX hb.size))) hlm hn2) (by rw [g0])) ?_
  refine jm (.bool false) ?_
  refine jm (.bool false) ?_
  refine jm (.bool false) ?_
  refine jn (.pointer (some ⟨(w.heap.size + 2), 1, none⟩)) ?_
  refine jn (.pointer (some ⟨(w.heap.size + 2), 2, none⟩)) ?_
  refine jf (st p) hB2 2 load_str ?_
  refine jv (.int .i64 (p.length : Int)) (exec_lens Tryz.underlying9 _ (by rfl) p (by rfl) _ rfl) ?_
  refine jv (.bool false) (exec_gtr _ _ _ _ (by rfl) .i64 (p.length : Int) 20 (by rfl) (by rfl) false (decide_eq_false (by omega))) ?_
  refine jm (.bool false) ?_
  refine jm (.bool false) ?_
  refine jn (.pointer (some ⟨(w.heap.size + 2), 1, none⟩)) ?_
  refine jn (.pointer (some ⟨(w.heap.size + 2), 3, none⟩)) ?_
  refine jf (st q) hB2 3 load_str ?_
  refine jv (.int .i64 (q.length : Int)) (exec_lens Tryz.underlying9 _ (by rfl) q (by rfl) _ rfl) ?_
  refine jv (.bool true) (exec_gtr _ _ _ _ (by rfl) .i64 (q.length : Int) 20 (by rfl) (by rfl) true (decide_eq_true (by omega))) ?_
  refine jm (.bool true) ?_
  refine jz fun X1 hX1 => ?_
  have hB0 := hB0.bel hX1
  have hB1 := hB1.bel hX1
  have hB2 := hB2.bel hX1
  have hb := bel_next hb hX1
  clear hX1
  go_upto_region 2 with (fail)
  refine jp ?_
  refine jc (.bool true) (fun X hX hF => sanityC X) ?_
  refine jm (.bool true) ?_
  refine jz fun X2 hX2 => ?_
  have hB0 := hB0.bel hX2
  have hB1 := hB1.bel hX2
  have hB2 := hB2.bel hX2
  have hb := bel_next hb hX2
  clear hX2
  go_wp2
  go_ret
  exact ⟨rfl, hb⟩
theorem compM (w : World) (A : Option Addr) (n c : Nat) (l : List Pt) (hr : Rd w 4 (.slice A n c) n (fl ptc l)) (hln : l.length = n) (hn1 : n ≤ 9223372036854775807) (A' : Option Addr) (n' c' : Nat) (m : List Pt) (hr' : Rd w 4 (.slice A' n' c') n' (fl ptc m)) (hlm : m.length = n') (hn2 : n' ≤ 9223372036854775807) (d : Int) (s9 : Bool) (p q : List UInt8) (h0 : fewB l 8 = true) (g0 : fewB m 8 = true) (hf : fewP l 1000) (hf' : fewP m 1000) (ht : tz p q 20) : Calls Tryz.prog 5 #[.agg #[.slice A n c], .agg #[.slice A' n' c'], .agg #[.int .i64 d, .bool s9, .string ⟨p.toArray⟩, .string ⟨q.toArray⟩]] w fun e w' => e = .returned (.bool true) ∧ Since w w' := by
  have HRX : Hid (∀ X, Since w X → Rd X 4 (.slice A n c) n (fl ptc l)) := fun X h => hr.below h
  have HRY : Hid (∀ X, Since w X → Rd X 4 (.slice A' n' c') n' (fl ptc m)) := fun X h => hr'.below h
  clear hr hr'
  have hp : p.length ≤ 20 := ht.1
  have hq : q.length ≤ 20 := ht.2
  go_enter Tryz.func5, Tryz.ntmps5
  go_upto_region 1 with (fail)
  obtain ⟨W0, hW0, hB0, hB1, hB2, hb⟩ := start3 w 48 48 57 [.slice A n c] [.slice A' n' c'] [.int .i64 d, .bool s9, .string ⟨p.toArray⟩, .string ⟨q.toArray⟩]
  rw [← hW0]
  clear hW0
  refine jp ?_
  refine ja hB0 Tryz.underlying48 (by rfl) info_cv ?_
  refine jc (.bool true) (fun X hX hF => mo (few13L A n c l X (HRX.out X (hb.trans (Below.mono hX hb.size))) hln hn1) (by rw [h0])) ?_
  refine jm (.bool false) ?_
  refine jm (.bool false) ?_
  refine ja hB1 Tryz.underlying48 (by rfl) info_cv ?_
  refine jc (.bool true) (fun X hX hF => mo (few13L A' n' c' m X (HRY.out X (hb.trans (Below.mono hX hb.size))) hlm hn2) (by rw [g0])) ?_
  refine jm (.bool false) ?_
  refine jm (.bool false) ?_
  refine jm (.bool false) ?_
  refine jn (.pointer (some ⟨(w.heap.size + 2), 1, none⟩)) ?_
  refine jn (.pointer (some ⟨(w.heap.size + 2), 2, none⟩)) ?_
  refine jf (st p) hB2 2 load_str ?_
  refine jv (.int .i64 (p.length : Int)) (exec_lens Tryz.underlying9 _ (by rfl) p (by rfl) _ rfl) ?_
  refine jv (.bool false) (exec_gtr _ _ _ _ (by rfl) .i64 (p.length : Int) 20 (by rfl) (by rfl) false (decide_eq_false (by omega))) ?_
  refine jm (.bool false) ?_
  refine jm (.bool false) ?_
  refine jn (.pointer (some ⟨(w.heap.size + 2), 1, none⟩)) ?_
  refine jn (.pointer (some ⟨(w.heap.size + 2), 3, none⟩)) ?_
  refine jf (st q) hB2 3 load_str ?_
  refine jv (.int .i64 (q.length : Int)) (exec_lens Tryz.underlying9 _ (by rfl) q (by rfl) _ rfl) ?_
  refine jv (.bool false) (exec_gtr _ _ _ _ (by rfl) .i64 (q.length : Int) 20 (by rfl) (by rfl) false (decide_eq_false (by omega))) ?_
  refine jm (.bool false) ?_
  refine jz fun X1 hX1 => ?_
  have hB0 := hB0.bel hX1
  have hB1 := hB1.bel hX1
  have hB2 := hB2.bel hX1
  have hb := bel_next hb hX1
  clear hX1
  go_upto_region 3 with (fail)
  refine lx_plain_to 7 [none, none, none, some (Shv (shE l d) (shL l d)), none, some (Cvl (shL l d))] (lasts_none (lasts_none (lasts_none (lasts_some (Shv.lasts _ _) (lasts_none (lasts_some (Cvl.lasts _) (lasts_nil))))))) ?_
  simp only [its, List.take, List.drop, Nat.zero_add, Nat.reduceAdd]
  refine ja hB0 Tryz.underlying48 (by rfl) info_cv ?_
  refine jn (.pointer (some ⟨(w.heap.size + 2), 0, none⟩)) ?_
  refine jf (.int .i64 d) hB2 0 load_int ?_
  refine jk (fun X hX hF => shiftV l _ d X ⟨A, n, c, rfl, (HRX.out X (hb.trans (Below.mono hX hb.size))), hln, hn1⟩ hf) ?_
  intro v44
  refine jm (v44) ?_
  refine lx_new (by rfl) (fun X hX hF => Shv.ext _ (by rfl) (by rfl) (hF _ _ List.mem_cons_self rfl)) ?_
  intro v45
  simp only [pX]
  refine jg (.int .i64 (shE l d)) (fun X hX hF => Shv.err _ (by rfl) (by rfl) (hF _ _ (List.mem_cons_of_mem _ List.mem_cons_self) rfl)) ?_
  refine lx_nil ?_
  intro X2 hX2 hF
  have hv44 := hF _ _ (List.mem_cons_of_mem _ List.mem_cons_self)
  have hv45 := hF _ _ List.mem_cons_self
  have hB0 := hB0.bel hX2
  have hB1 := hB1.bel hX2
  have hB2 := hB2.bel hX2
  have hb := bel_next hb hX2
  clear hF hX2
  obtain ⟨A7, n7, c7, rfl, hr7, hl7, hm7⟩ := hv45
  clear hv44
  go_upto_region 4 with (refine osn 48 7 45 #[.slice A7 n7 c7] info_cv ?_)
  obtain ⟨Y2, hY9, hD7, hS9⟩ := start1 X2 48 [.slice A7 n7 c7]
  rw [← hY9]
  clear hY9
  have hgs7 := hb.size
  have hlt7x0 := hB0.lt
  have hlt7x1 := hB1.lt
  have hlt7x2 := hB2.lt
  have hr7 := hr7.below hS9
  have hB0 := hB0.bel hS9
  have hB1 := hB1.bel hS9
  have hB2 := hB2.bel hS9
  have hb := bel_next hb hS9
  clear hS9
  generalize X2.heap.size = g7 at *
  refine lx_plain_to 7 [none, none, none, some (Shv (scE l (s9, p, q)) (scL l (s9, p, q))), none, some (Cvl (scL l (s9, p, q)))] (lasts_none (lasts_none (lasts_none (lasts_some (Shv.lasts _ _) (lasts_none (lasts_some (Cvl.lasts _) (lasts_nil))))))) ?_
  simp only [its, List.take, List.drop, Nat.zero_add, Nat.reduceAdd]
  refine ja hB0 Tryz.underlying48 (by rfl) info_cv ?_
  refine jn (.pointer (some ⟨(w.heap.size + 2), 1, none⟩)) ?_
  refine jg (rt s9 p q) (fun X hX hF => exec_inr 23 _ (by rfl) (w.heap.size + 2) 1 [.bool s9, .string ⟨p.toArray⟩, .string ⟨q.toArray⟩] (by rfl) Tryz.underlying23 rfl X (hB2.bel hX) (by rfl) info_rat) ?_
  refine jk (fun X hX hF => scaleV l _ s9 p q (ht.mono (by omega)) X ⟨A, n, c, rfl, (HRX.out X (hb.trans (Below.mono hX hb.size))), hln, hn1⟩ hf) ?_
  intro v51
  refine jm (v51) ?_
  refine lx_new (by rfl) (fun X hX hF => Shv.ext _ (by rfl) (by rfl) (hF _ _ List.mem_cons_self rfl)) ?_
  intro v52
  simp only [pX]
  refine jg (.int .i64 (scE l (s9, p, q))) (fun X hX hF => Shv.err _ (by rfl) (by rfl) (hF _ _ (List.mem_cons_of_mem _ List.mem_cons_self) rfl)) ?_
  refine lx_nil ?_
  intro X3 hX3 hF
  have hv51 := hF _ _ (List.mem_cons_of_mem _ List.mem_cons_self)
  have hv52 := hF _ _ List.mem_cons_self
  have hr7 := hr7.below hX3
  have hB0 := hB0.bel hX3
  have hB1 := hB1.bel hX3
  have hB2 := hB2.bel hX3
  have hD7 := hD7.bel hX3
  have hb := bel_next hb hX3
  clear hF hX3
  obtain ⟨A9, n9, c9, rfl, hr9, hl9, hm9⟩ := hv52
  clear hv51
  go_upto_region 5 with (refine osn 48 9 52 #[.slice A9 n9 c9] info_cv ?_)
  obtain ⟨Y3, hY9, hD9, hS9⟩ := start1 X3 48 [.slice A9 n9 c9]
  rw [← hY9]
  clear hY9
  have hgs9 := hb.size
  have hlt9x0 := hB0.lt
  have hlt9x1 := hB1.lt
  have hlt9x2 := hB2.lt
  have hlt9x3 := hD7.lt
  have hr7 := hr7.below hS9
  have hr9 := hr9.below hS9
  have hB0 := hB0.bel hS9
  have hB1 := hB1.bel hS9
  have hB2 := hB2.bel hS9
  have hD7 := hD7.bel hS9
  have hb := bel_next hb hS9
  clear hS9
  generalize X3.heap.size = g9 at *
  refine lx_plain [none, none, some (Dfv (dfE l m) (dfL l m)), none, some (Dlv (dfL l m))] (lasts_none (lasts_none (lasts_some (Dfv.lasts _ _) (lasts_none (lasts_some (Dlv.lasts _) (lasts_nil)))))) ?_
  simp only [iX, Nat.reduceAdd]
  refine ja hB0 Tryz.underlying48 (by rfl) info_cv ?_
  refine ja hB1 Tryz.underlying48 (by rfl) info_cv ?_
  refine jk (fun X hX hF => differV l m _ _ X ⟨A, n, c, rfl, (HRX.out X (hb.trans (Below.mono hX hb.size))), hln, hn1⟩ ⟨A', n', c', rfl, (HRY.out X (hb.trans (Below.mono hX hb.size))), hlm, hn2⟩ hf hf') ?_
  intro v57
  refine jm (v57) ?_
  refine lx_new (by rfl) (fun X hX hF => Dfv.ext _ (by rfl) (by rfl) (hF _ _ List.mem_cons_self rfl)) ?_
  intro v58
  simp only [pX]
  refine jg (.int .i64 (dfE l m)) (fun X hX hF => Dfv.err _ (by rfl) (by rfl) (hF _ _ (List.mem_cons_of_mem _ List.mem_cons_self) rfl)) ?_
  refine jm (v58) ?_
  refine jm (.int .i64 (dfE l m)) ?_
  refine lx_nil ?_
  intro X4 hX4 hF
  have hv57 := hF _ _ (List.mem_cons_of_mem _ List.mem_cons_self)
  have hv58 := hF _ _ List.mem_cons_self
  have hr7 := hr7.below hX4
  have hr9 := hr9.below hX4
  have hB0 := hB0.bel hX4
  have hB1 := hB1.bel hX4
  have hB2 := hB2.bel hX4
  have hD7 := hD7.bel hX4
  have hD9 := hD9.bel hX4
  have hb := bel_next hb hX4
  clear hF hX4
  obtain ⟨A11, n11, c11, rfl, hr11, hl11⟩ := hv58
  clear hv57
  go_upto_region 6 with (fail)
  refine lx_plain_to 4 [none, none, none, some (Mdv (shE l d) (shL l d))] (lasts_none (lasts_none (lasts_none (lasts_some (Mdv.lasts _ _) (lasts_nil))))) ?_
  simp only [its, List.take, List.drop, Nat.zero_add, Nat.reduceAdd]
  refine ja hB0 Tryz.underlying48 (by rfl) info_cv ?_
  refine jn (.pointer (some ⟨(w.heap.size + 2), 0, none⟩)) ?_
  refine jf (.int .i64 d) hB2 0 load_int ?_
  refine jk (fun X hX hF => rshiftV l _ d X ⟨A, n, c, rfl, (HRX.out X (hb.trans (Below.mono hX hb.size))), hln, hn1⟩ hf) ?_
  intro v63
  refine lx_nil ?_
  intro X5 hX5 hF
  have hv63 := hF _ _ List.mem_cons_self
  have hr7 := hr7.below hX5
  have hr9 := hr9.below hX5
  have hr11 := hr11.below hX5
  have hB0 := hB0.bel hX5
  have hB1 := hB1.bel hX5
  have hB2 := hB2.bel hX5
  have hD7 := hD7.bel hX5
  have hD9 := hD9.bel hX5
  have hb := bel_next hb hX5
  clear hF hX5
  obtain ⟨A13, n13, c13, rfl, hr13, hl13, hm13⟩ := hv63
  go_upto_region 7 with (refine osn 65 13 63 #[.slice A13 n13 c13, .int .i64 (shE l d)] info_md13 ?_)
  obtain ⟨Y5, hY9, hD13, hS9⟩ := start1 X5 65 [.slice A13 n13 c13, .int .i64 (shE l d)]
  rw [← hY9]
  clear hY9
  have hgs13 := hb.size
  have hlt13x0 := hB0.lt
  have hlt13x1 := hB1.lt
  have hlt13x2 := hB2.lt
  have hlt13x3 := hD7.lt
  have hlt13x4 := hD9.lt
  have hr7 := hr7.below hS9
  have hr9 := hr9.below hS9
  have hr11 := hr11.below hS9
  have hr13 := hr13.below hS9
  have hB0 := hB0.bel hS9
  have hB1 := hB1.bel hS9
  have hB2 := hB2.bel hS9
  have hD7 := hD7.bel hS9
  have hD9 := hD9.bel hS9
  have hb := bel_next hb hS9
  clear hS9
  generalize X5.heap.size = g13 at *
  refine lx_plain_to 4 [none, none, none, some (Mdv (scE l (s9, p, q)) (scL l (s9, p, q)))] (lasts_none (lasts_none (lasts_none (lasts_some (Mdv.lasts _ _) (lasts_nil))))) ?_
  simp only [its, List.take, List.drop, Nat.zero_add, Nat.reduceAdd]
  refine ja hB0 Tryz.underlying48 (by rfl) info_cv ?_
  refine jn (.pointer (some ⟨(w.heap.size + 2), 1, none⟩)) ?_
  refine jg (rt s9 p q) (fun X hX hF => exec_inr 23 _ (by rfl) (w.heap.size + 2) 1 [.bool s9, .string ⟨p.toArray⟩, .string ⟨q.toArray⟩] (by rfl) Tryz.underlying23 rfl X (hB2.bel hX) (by rfl) info_rat) ?_
  refine jk (fun X hX hF => rscaleV l _ s9 p q (ht.mono (by omega)) X ⟨A, n, c, rfl, (HRX.out X (hb.trans (Below.mono hX hb.size))), hln, hn1⟩ hf) ?_
  intro v67
  refine lx_nil ?_
  intro X6 hX6 hF
  have hv67 := hF _ _ List.mem_cons_self
  have hr7 := hr7.below hX6
  have hr9 := hr9.below hX6
  have hr11 := hr11.below hX6
  have hr13 := hr13.below hX6
  have hB0 := hB0.bel hX6
  have hB1 := hB1.bel hX6
  have hB2 := hB2.bel hX6
  have hD7 := hD7.bel hX6
  have hD9 := hD9.bel hX6
  have hD13 := hD13.bel hX6
  have hb := bel_next hb hX6
  clear hF hX6
  obtain ⟨A14, n14, c14, rfl, hr14, hl14, hm14⟩ := hv67
  go_upto_region 8 with (refine osn 65 14 67 #[.slice A14 n14 c14, .int .i64 (scE l (s9, p, q))] info_md13 ?_)
  obtain ⟨Y6, hY9, hD14, hS9⟩ := start1 X6 65 [.slice A14 n14 c14, .int .i64 (scE l (s9, p, q))]
  rw [← hY9]
  clear hY9
  have hgs14 := hb.size
  have hlt14x0 := hB0.lt
  have hlt14x1 := hB1.lt
  have hlt14x2 := hB2.lt
  have hlt14x3 := hD7.lt
  have hlt14x4 := hD9.lt
  have hlt14x5 := hD13.lt
  have hr7 := hr7.below hS9
  have hr9 := hr9.below hS9
  have hr11 := hr11.below hS9
  have hr13 := hr13.below hS9
  have hr14 := hr14.below hS9
  have hB0 := hB0.bel hS9
  have hB1 := hB1.bel hS9
  have hB2 := hB2.bel hS9
  have hD7 := hD7.bel hS9
  have hD9 := hD9.bel hS9
  have hD13 := hD13.bel hS9
  have hb := bel_next hb hS9
  clear hS9
  generalize X6.heap.size = g14 at *
  refine lx_plain_to 3 [none, none, some (Ptv (dfE l m) (dfL l m))] (lasts_none (lasts_none (lasts_some (Ptv.lasts _ _) (lasts_nil)))) ?_
  simp only [its, List.take, List.drop, Nat.zero_add, Nat.reduceAdd]
  refine ja hB0 Tryz.underlying48 (by rfl) info_cv ?_
  refine ja hB1 Tryz.underlying48 (by rfl) info_cv ?_
  refine jk (fun X hX hF => rdifferV l m _ _ X ⟨A, n, c, rfl, (HRX.out X (hb.trans (Below.mono hX hb.size))), hln, hn1⟩ ⟨A', n', c', rfl, (HRY.out X (hb.trans (Below.mono hX hb.size))), hlm, hn2⟩ hf hf') ?_
  intro v70
  refine lx_nil ?_
  intro X7 hX7 hF
  have hv70 := hF _ _ List.mem_cons_self
  have hr7 := hr7.below hX7
  have hr9 := hr9.below hX7
  have hr11 := hr11.below hX7
  have hr13 := hr13.below hX7
  have hr14 := hr14.below hX7
  have hB0 := hB0.bel hX7
  have hB1 := hB1.bel hX7
  have hB2 := hB2.bel hX7
  have hD7 := hD7.bel hX7
  have hD9 := hD9.bel hX7
  have hD13 := hD13.bel hX7
  have hD14 := hD14.bel hX7
  have hb := bel_next hb hX7
  clear hF hX7
  obtain ⟨A15, n15, c15, rfl, hr15, hl15⟩ := hv70
  go_upto_region 9 with (refine osn 69 15 70 #[.slice A15 n15 c15, .int .i64 (dfE l m)] info_mp13 ?_)
  obtain ⟨Y7, hY9, hD15, hS9⟩ := start1 X7 69 [.slice A15 n15 c15, .int .i64 (dfE l m)]
  rw [← hY9]
  clear hY9
  have hgs15 := hb.size
  have hlt15x0 := hB0.lt
  have hlt15x1 := hB1.lt
  have hlt15x2 := hB2.lt
  have hlt15x3 := hD7.lt
  have hlt15x4 := hD9.lt
  have hlt15x5 := hD13.lt
  have hlt15x6 := hD14.lt
  have hr7 := hr7.below hS9
  have hr9 := hr9.below hS9
  have hr11 := hr11.below hS9
  have hr13 := hr13.below hS9
  have hr14 := hr14.below hS9
  have hr15 := hr15.below hS9
  have hB0 := hB0.bel hS9
  have hB1 := hB1.bel hS9
  have hB2 := hB2.bel hS9
  have hD7 := hD7.bel hS9
  have hD9 := hD9.bel hS9
  have hD13 := hD13.bel hS9
  have hD14 := hD14.bel hS9
  have hb := bel_next hb hS9
  clear hS9
  generalize X7.heap.size = g15 at *
  obtain rfl : n11 = n15 := hl11.symm.trans hl15
  have HL11 := Lib.hid hl11
  have hm11 : n11 ≤ 9223372036854775807 := by
    obtain ⟨_, _, _, h3, h4⟩ := hr11.form
    unfold maxLen at h4
    omega
  clear hl11 hl15
  refine jp ?_
  refine ja hD7 Tryz.underlying48 (by rfl) info_cv ?_
  refine jn (.pointer (some ⟨g13, 0, none⟩)) ?_
  refine jg (.agg #[.slice A13 n13 c13]) (fun X hX hF => exec_inr 48 _ (by rfl) g13 0 [.slice A13 n13 c13] (by rfl) Tryz.underlying48 rfl X (hD13.bel hX) (by rfl) info_cv) ?_
  refine jc (.bool true) (fun X hX hF => mo (sameV (shL l d) (shL l d) _ _ X ⟨A7, n7, c7, rfl, hr7.below hX, hl7, hm7⟩ ⟨A13, n13, c13, rfl, hr13.below hX, hl13, hm13⟩) (by rw [decide_eq_true rfl])) ?_
  refine jm (.bool false) ?_
  refine jm (.bool false) ?_
  refine jm (.int .i64 (shE l d)) ?_
  refine jn (.pointer (some ⟨g13, 1, none⟩)) ?_
  refine jf (.int .i64 (shE l d)) hD13 1 load_err ?_
  refine jv (.bool false) (exec_nei _ _ _ _ (by rfl) .i64 (shE l d) (shE l d) (by rfl) (by rfl) false (by rw [decide_eq_true rfl]; rfl)) ?_
  refine jm (.bool false) ?_
  refine jm (.bool false) ?_
  refine ja hD9 Tryz.underlying48 (by rfl) info_cv ?_
  refine jn (.pointer (some ⟨g14, 0, none⟩)) ?_
  refine jg (.agg #[.slice A14 n14 c14]) (fun X hX hF => exec_inr 48 _ (by rfl) g14 0 [.slice A14 n14 c14] (by rfl) Tryz.underlying48 rfl X (hD14.bel hX) (by rfl) info_cv) ?_
  refine jc (.bool true) (fun X hX hF => mo (sameV (scL l (s9, p, q)) (scL l (s9, p, q)) _ _ X ⟨A9, n9, c9, rfl, hr9.below hX, hl9, hm9⟩ ⟨A14, n14, c14, rfl, hr14.below hX, hl14, hm14⟩) (by rw [decide_eq_true rfl])) ?_
  refine jm (.bool false) ?_
  refine jm (.bool false) ?_
  refine jm (.bool false) ?_
  refine jm (.int .i64 (scE l (s9, p, q))) ?_
  refine jn (.pointer (some ⟨g14, 1, none⟩)) ?_
  refine jf (.int .i64 (scE l (s9, p, q))) hD14 1 load_err ?_
  refine jv (.bool false) (exec_nei _ _ _ _ (by rfl) .i64 (scE l (s9, p, q)) (scE l (s9, p, q)) (by rfl) (by rfl) false (by rw [decide_eq_true rfl]; rfl)) ?_
  refine jm (.bool false) ?_
  refine jm (.bool false) ?_
  refine jm (.int .i64 (dfE l m)) ?_
  refine jn (.pointer (some ⟨g15, 1, none⟩)) ?_
  refine jf (.int .i64 (dfE l m)) hD15 1 load_err ?_
  refine jv (.bool false) (exec_nei _ _ _ _ (by rfl) .i64 (dfE l m) (dfE l m) (by rfl) (by rfl) false (by rw [decide_eq_true rfl]; rfl)) ?_
  refine jm (.bool false) ?_
  refine jm (.bool false) ?_
  refine jm (.slice A11 n11 c11) ?_
  refine jv (.int .i64 (n11 : Int)) (exec_lenv Tryz.underlying61 _ (by rfl) A11 n11 c11 (by rfl) _ rfl) ?_
  refine jn (.pointer (some ⟨g15, 0, none⟩)) ?_
  refine jf (.slice A15 n11 c15) hD15 0 load_bts ?_
  refine jv (.int .i64 (n11 : Int)) (exec_lenv Tryz.underlying61 _ (by rfl) A15 n11 c15 (by rfl) _ rfl) ?_
  refine jv (.bool false) (exec_nei _ _ _ _ (by rfl) .i64 (n11 : Int) (n11 : Int) (by rfl) (by rfl) false (by rw [decide_eq_true rfl]; rfl)) ?_
  refine jm (.bool false) ?_
  refine jz fun X8 hX8 => ?_
  have hr7 := hr7.below hX8
  have hr9 := hr9.below hX8
  have hr11 := hr11.below hX8
  have hr13 := hr13.below hX8
  have hr14 := hr14.below hX8
  have hr15 := hr15.below hX8
  have hB0 := hB0.bel hX8
  have hB1 := hB1.bel hX8
  have hB2 := hB2.bel hX8
  have hD7 := hD7.bel hX8
  have hD9 := hD9.bel hX8
  have hD13 := hD13.bel hX8
  have hD14 := hD14.bel hX8
  have hD15 := hD15.bel hX8
  have hb := bel_next hb hX8
  clear hX8
  go_upto_region 11 with (fail)
  refine jp ?_
  refine jm (.slice A11 n11 c11) ?_
  refine jv (.int .i64 (n11 : Int)) (exec_lenv Tryz.underlying61 _ (by rfl) A11 n11 c11 (by rfl) _ rfl) ?_
  refine jm (.int .i64 0) ?_
  refine jz fun X9 hX9 => ?_
  have hr7 := hr7.below hX9
  have hr9 := hr9.below hX9
  have hr11 := hr11.below hX9
  have hr13 := hr13.below hX9
  have hr14 := hr14.below hX9
  have hr15 := hr15.below hX9
  have hB0 := hB0.bel hX9
  have hB1 := hB1.bel hX9
  have hB2 := hB2.bel hX9
  have hD7 := hD7.bel hX9
  have hD9 := hD9.bel hX9
  have hD13 := hD13.bel hX9
  have hD14 := hD14.bel hX9
  have hD15 := hD15.bel hX9
  have hb := bel_next hb hX9
  clear hX9
  clear hr7 hr9 hr13 hr14
  go_wp2
  go_loopw [111] (fun kv wr => ∃ k : Nat, k ≤ n11 ∧ kv = .int .i64 (k : Int) ∧ Blk wr g15 69 [.slice A15 n11 c15, .int .i64 (dfE l m)] ∧ Rd wr 2 (.slice A11 n11 c11) n11 (fl btc (dfL l m)) ∧ Rd wr 2 (.slice A15 n11 c15) n11 (fl btc (dfL l m)) ∧ Below w.heap.size w wr) (fun kv _ => n11 - (intOf kv).toNat)
  case atStart => exact ⟨0, by omega, rfl, hD15, hr11, hr15, hb⟩
  case round =>
    clear hD15 hr11 hr15 hb
    obtain ⟨k, hk, rfl, hD15, hr11, hr15, hb⟩ := hrel
    rcases Nat.lt_or_ge k n11 with hlt9 | hlt9
    · obtain ⟨b1, o1, rfl⟩ := hr11.someB (by omega)
      obtain ⟨b5, o5, rfl⟩ := hr15.someB (by omega)
      obtain ⟨hbb, hcx⟩ := hr11.btIn HL11.out hlt9
      obtain ⟨hbc, hcz⟩ := hr15.btIn HL11.out hlt9
      obtain ⟨x, hx9⟩ : ∃ x, x = (dfL l m).getD k (0, 0) := ⟨_, rfl⟩
      rw [← hx9] at hcx hcz
      clear hx9
      go_upto_region 12 with (fail)
      refine jp ?_
      refine jv (.bool true) (exec_lss _ _ _ _ (by rfl) .i64 (k : Int) (n11 : Int) (by rfl) (by rfl) true (decide_eq_true (by omega))) ?_
      refine jz fun X1 hX1 => ?_
      have hr11 := hr11.below hX1
      have hr15 := hr15.below hX1
      have hD15 := hD15.bel hX1
      have hcx := hcx.below hX1 hbb
      have hcz := hcz.below hX1 hbc
      replace hbb := Nat.lt_of_lt_of_le hbb (hX1).size
      replace hbc := Nat.lt_of_lt_of_le hbc (hX1).size
      have hb := bel_next hb hX1
      clear hX1
      go_upto_region 13 with (fail)
      refine jp ?_
      refine jm (.int .i64 (k : Int)) ?_
      refine jm (.int .i64 (k : Int)) ?_
      refine jz fun X2 hX2 => ?_
      have hr11 := hr11.below hX2
      have hr15 := hr15.below hX2
      have hD15 := hD15.bel hX2
      have hcx := hcx.below hX2 hbb
      have hcz := hcz.below hX2 hbc
      replace hbb := Nat.lt_of_lt_of_le hbb (hX2).size
      replace hbc := Nat.lt_of_lt_of_le hbc (hX2).size
      have hb := bel_next hb hX2
      clear hX2
      go_upto_region 14 with (fail)
      refine jd ?_
      refine jm (.slice (some ⟨b1, o1, none⟩) n11 c11) ?_
      refine jm (.int .i64 (k : Int)) ?_
      refine jv (.pointer (some ⟨b1, o1 + k * 2, none⟩)) (exec_ixv Tryz.underlying61 info_bt _ _ (by rfl) b1 (o1) n11 c11 k (by omega) (by rfl) (by rfl) rfl) ?_
      refine jg (.agg #[.int .i64 x.1, .int .i64 x.2]) (fun X hX hF => exec_ldc 73 _ (by rfl) b1 (o1 + k * 2) (by rfl) Tryz.underlying73 rfl [.int .i64 x.1, .int .i64 x.2] X (Cl.part (hcx.below hX hbb) 0 _ (by rfl)) info_bt) ?_
      refine jn (.pointer (some ⟨g15, 0, none⟩)) ?_
      refine jf (.slice (some ⟨b5, o5, none⟩) n11 c15) hD15 0 load_bts ?_
      refine jm (.int .i64 (k : Int)) ?_
      refine jv (.pointer (some ⟨b5, o5 + k * 2, none⟩)) (exec_ixv Tryz.underlying61 info_bt _ _ (by rfl) b5 (o5) n11 c15 k (by omega) (by rfl) (by rfl) rfl) ?_
      refine jg (.agg #[.int .i64 x.1, .int .i64 x.2]) (fun X hX hF => exec_ldc 73 _ (by rfl) b5 (o5 + k * 2) (by rfl) Tryz.underlying73 rfl [.int .i64 x.1, .int .i64 x.2] X (Cl.part (hcz.below hX hbc) 0 _ (by rfl)) info_bt) ?_
      refine jv (.bool false) (exec_neb _ _ (by rfl) x x (by rfl) (by rfl) false (decide_eq_false (fun h9 => h9 rfl))) ?_
      refine jz fun X3 hX3 => ?_
      have hr11 := hr11.below hX3
      have hr15 := hr15.below hX3
      have hD15 := hD15.bel hX3
      have hcx := hcx.below hX3 hbb
      have hcz := hcz.below hX3 hbc
      replace hbb := Nat.lt_of_lt_of_le hbb (hX3).size
      replace hbc := Nat.lt_of_lt_of_le hbc (hX3).size
      have hb := bel_next hb hX3
      clear hX3
      go_upto_region 16 with (fail)
      refine jp ?_
      refine jv (.int .i64 ((k + 1 : Nat) : Int)) (exec_add _ _ _ _ (by rfl) (k : Int) 1 ((k + 1 : Nat) : Int) (by rfl) (by rfl) (by omega) (by omega) (by omega)) ?_
      refine jm (.int .i64 ((k + 1 : Nat) : Int)) ?_
      refine jz fun X4 hX4 => ?_
      have hr11 := hr11.below hX4
      have hr15 := hr15.below hX4
      have hD15 := hD15.bel hX4
      have hb := bel_next hb hX4
      clear hX4
      go_wp2
      go_roundw
      case rel => exact ⟨k + 1, by omega, rfl, hD15, hr11, hr15, hb⟩
      case measure => simp [intOf]; omega
    · obtain rfl : k = n11 := by omega
      go_upto_region 12 with (fail)
      refine jp ?_
      refine jv (.bool false) (exec_lss _ _ _ _ (by rfl) .i64 (k : Int) (k : Int) (by rfl) (by rfl) false (decide_eq_false (by omega))) ?_
      refine jz fun X1 hX1 => ?_
      have hr11 := hr11.below hX1
      have hr15 := hr15.below hX1
      have hD15 := hD15.bel hX1
      have hb := bel_next hb hX1
      clear hX1
      go_upto_region 17 with (fail)
      refine jp ?_
      refine jc (.bool true) (fun X hX hF => sanityC X) ?_
      refine jm (.bool true) ?_
      refine jz fun X2 hX2 => ?_
      have hr11 := hr11.below hX2
      have hr15 := hr15.below hX2
      have hD15 := hD15.bel hX2
      have hb := bel_next hb hX2
      clear hX2
      go_wp2
      go_ret
      exact ⟨rfl, hb⟩
theorem compW (w : World) (A : Option Addr) (n c : Nat) (l : List Pt) (hr : Rd w 4 (.slice A n c) n (fl ptc l)) (hln : l.length = n) (hn1 : n ≤ 9223372036854775807) (A' : Option Addr) (n' c' : Nat) (m : List Pt) (hr' : Rd w 4 (.slice A' n' c') n' (fl ptc m)) (hlm : m.length = n') (hn2 : n' ≤ 9223372036854775807) (d : Int) (s9 : Bool) (p q : List UInt8) (d0 : -9223372036854775808 ≤ d) (d1 : d ≤ 9223372036854775807) : Calls Tryz.prog 5 #[.agg #[.slice A n c], .agg #[.slice A' n' c'], .agg #[.int .i64 d, .bool s9, .string ⟨p.toArray⟩, .string ⟨q.toArray⟩]] w fun e w' => e = .returned (.bool true) ∧ Since w w' := by
  rcases h0 : fewB l 8 with _ | _
  · exact comp0 w A n c l hr hln hn1 A' n' c' m hr' hlm hn2 d s9 p q h0
  · rcases g0 : fewB m 8 with _ | _
    · exact comp1 w A n c l hr hln hn1 A' n' c' m hr' hlm hn2 d s9 p q h0 g0
    · rcases Nat.lt_or_ge 20 p.length with hp | hp
      · exact comp2 w A n c l hr hln hn1 A' n' c' m hr' hlm hn2 d s9 p q h0 g0 hp
      · rcases Nat.lt_or_ge 20 q.length with hq | hq
        · exact comp3 w A n c l hr hln hn1 A' n' c' m hr' hlm hn2 d s9 p q h0 g0 hp hq
        · exact compM w A n c l hr hln hn1 A' n' c' m hr' hlm hn2 d s9 p q h0 g0 (fewB_of h0).2.mono (fewB_of g0).2.mono ⟨hp, hq⟩
end Go.Proofs.YtchhlgcakjjncaaGreatDoor
