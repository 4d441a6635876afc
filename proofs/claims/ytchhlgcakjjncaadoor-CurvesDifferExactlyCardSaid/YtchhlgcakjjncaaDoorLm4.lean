/-
  law 13: CurvesDifferExactly.
-/
import Derived.Test.YtchhlgcakjjncaaDoorLm2
set_option linter.unusedSimpArgs false
set_option linter.unusedVariables false
set_option maxRecDepth 100000
set_option maxHeartbeats 1600000
namespace Go.Proofs.YtchhlgcakjjncaaDoor
open Go.RowKit
/-- Whether a stage is in one of the first intervals. -/
def ins (D : List (Int × Int)) (s : Int) (k : Nat) : Bool := (D.take k).any fun x => decide (x.1 ≤ s) && decide (s ≤ x.2)
def bt (D : List (Int × Int)) (k : Nat) : Int × Int := D.getD k (0, 0)
theorem bt_get {D : List (Int × Int)} {k : Nat} (h : k < D.length) : bt D k = D[k] := by unfold bt; rw [List.getD_eq_getElem?_getD, List.getElem?_eq_getElem h]; rfl
theorem ins_succ {D : List (Int × Int)} {s : Int} {k : Nat} (h : k < D.length) : ins D s (k + 1) = (ins D s k || (decide ((bt D k).1 ≤ s) && decide (s ≤ (bt D k).2))) := by
  unfold ins
  rw [take_snoc h, List.any_append, bt_get h]
  simp
theorem ins_all {L M : List Kn} {s : Int} (h1 : -1000 ≤ s) (h2 : s ≤ 2000) : ins (dfl L M 3001) s (dfl L M 3001).length = decide (flowAt L s ≠ flowAt M s) := by
  have h := (dfl_ok L M 3001).all s h1 (by omega)
  unfold ins
  rw [List.take_length]
  by_cases hq : flowAt L s ≠ flowAt M s
  · rw [decide_eq_true hq, List.any_eq_true]
    obtain ⟨x, hx, h3⟩ := h.2 hq
    exact ⟨x, hx, by simp [h3]⟩
  · rw [decide_eq_false hq, List.any_eq_false]
    intro x hx h3
    simp only [Bool.and_eq_true, decide_eq_true_eq] at h3
    exact hq (h.1 ⟨x, hx, h3⟩)
theorem bt_rng {L M : List Kn} {k : Nat} (h : k < (dfl L M 3001).length) : -1000 ≤ (bt (dfl L M 3001) k).1 ∧ (bt (dfl L M 3001) k).1 ≤ (bt (dfl L M 3001) k).2 ∧ (bt (dfl L M 3001) k).2 ≤ 2000 := by
  rw [bt_get h]
  have := (dfl_ok L M 3001).rng _ (List.getElem_mem h)
  omega
theorem bt_asc {L M : List Kn} {k : Nat} (h : k < (dfl L M 3001).length) (h0 : 0 < k) : (bt (dfl L M 3001) (k - 1)).2 + 1 < (bt (dfl L M 3001) k).1 := by
  rw [bt_get h, bt_get (show k - 1 < _ by omega)]
  exact List.pairwise_iff_getElem.1 (dfl_ok L M 3001).asc (k - 1) k (by omega) h (by omega)
theorem run_ne_bt (w : World) (x y : Int × Int) : (binOp .neq 72 (.agg #[.int .i64 x.1, .int .i64 x.2]) (.agg #[.int .i64 y.1, .int .i64 y.2])).run Tryd.prog w = .ok (.bool (decide (x ≠ y))) w := by
  obtain ⟨s, n⟩ := x
  obtain ⟨s', n'⟩ := y
  go_simp
  by_cases e0 : s = s' <;> by_cases e1 : n = n' <;> simp [e0, e1]
theorem eqm_bt : Tryd.prog.eqGuardType Tryd.prog.depth 72 = false := by kernel_rfl
theorem exec_neb {f : Operand → Value} {o : Oper} (a b : Operand) (ho : o.op = .binOp .neq 72 a b 72) (x y : Int × Int) (hx : f a = .agg #[.int .i64 x.1, .int .i64 x.2]) (hy : f b = .agg #[.int .i64 y.1, .int .i64 y.2]) (c : Bool) (hc : decide (x ≠ y) = c) (X : World) : (execOp f o).run Tryd.prog X = .ok (.value (.bool c)) X :=
  exec_cmp_agg .neq _ _ a b ho _ _ hx hy eqm_bt _ X ((run_ne_bt X x y).trans (by rw [hc]))
theorem diff0 (w : World) (A : Option Addr) (n c : Nat) (l : List Pt) (hr : Rd w 4 (.slice A n c) n (fl ptc l)) (hln : l.length = n) (hn1 : n ≤ 9223372036854775807) (A' : Option Addr) (n' c' : Nat) (m : List Pt) (hr' : Rd w 4 (.slice A' n' c') n' (fl ptc m)) (hlm : m.length = n') (hn2 : n' ≤ 9223372036854775807) (a : Int) (a0 : 0 ≤ a) (a1 : a ≤ 65535) (h0 : fewB l 8 = false) : Calls Tryd.prog 10 #[.agg #[.slice A n c], .agg #[.slice A' n' c'], .int .u16 a] w fun e w' => e = .returned (.bool true) ∧ Since w w' := by
  have HRX : Hid (∀ X, Since w X → Rd X 4 (.slice A n c) n (fl ptc l)) := fun X h => hr.below h
  have HRY : Hid (∀ X, Since w X → Rd X 4 (.slice A' n' c') n' (fl ptc m)) := fun X h => hr'.below h
  clear hr hr'
  go_enter Tryd.func10, Tryd.ntmps10
  go_upto_region 1 with (fail)
  obtain ⟨W0, hW0, hB0, hB1, hb⟩ := start2 w 48 48 [.slice A n c] [.slice A' n' c']
  rw [← hW0]
  clear hW0
  refine jp ?_
  refine ja hB0 Tryd.underlying48 (by rfl) info_cv ?_
  refine jc (.bool false) (fun X hX hF => mo (few13L A n c l X (HRX.out X (hb.trans (Below.mono hX hb.size))) hln hn1) (by rw [h0])) ?_
  refine jm (.bool true) ?_
  refine jm (.bool true) ?_
  refine js ?_
  refine js ?_
  refine js ?_
  refine jm (.bool true) ?_
  refine jm (.bool true) ?_
  refine js ?_
  refine js ?_
  refine js ?_
  refine jm (.bool true) ?_
  refine jm (.bool true) ?_
  refine js ?_
  refine js ?_
  refine js ?_
  refine jm (.bool true) ?_
  refine jz fun X1 hX1 => ?_
  have hB0 := hB0.bel hX1
  have hB1 := hB1.bel hX1
  have hb := bel_next hb hX1
  clear hX1
  go_upto_region 2 with (fail)
  refine jp ?_
  refine jc (.bool true) (fun X hX hF => sanityC X) ?_
  refine jm (.bool true) ?_
  refine jz fun X2 hX2 => ?_
  have hB0 := hB0.bel hX2
  have hB1 := hB1.bel hX2
  have hb := bel_next hb hX2
  clear hX2
  go_wp2
  go_ret
  exact ⟨rfl, hb⟩
theorem diff1 (w : World) (A : Option Addr) (n c : Nat) (l : List Pt) (hr : Rd w 4 (.slice A n c) n (fl ptc l)) (hln : l.length = n) (hn1 : n ≤ 9223372036854775807) (A' : Option Addr) (n' c' : Nat) (m : List Pt) (hr' : Rd w 4 (.slice A' n' c') n' (fl ptc m)) (hlm : m.length = n') (hn2 : n' ≤ 9223372036854775807) (a : Int) (a0 : 0 ≤ a) (a1 : a ≤ 65535) (h0 : fewB l 8 = true) (g0 : fewB m 8 = false) : Calls Tryd.prog 10 #[.agg #[.slice A n c], .agg #[.slice A' n' c'], .int .u16 a] w fun e w' => e = .returned (.bool true) ∧ Since w w' := by
  have HRX : Hid (∀ X, Since w X → Rd X 4 (.slice A n c) n (fl ptc l)) := fun X h => hr.below h
  have HRY : Hid (∀ X, Since w X → Rd X 4 (.slice A' n' c') n' (fl ptc m)) := fun X h => hr'.below h
  clear hr hr'
  go_enter Tryd.func10, Tryd.ntmps10
  go_upto_region 1 with (fail)
  obtain ⟨W0, hW0, hB0, hB1, hb⟩ := start2 w 48 48 [.slice A n c] [.slice A' n' c']
  rw [← hW0]
  clear hW0
  refine jp ?_
  refine ja hB0 Tryd.underlying48 (by rfl) info_cv ?_
  refine jc (.bool true) (fun X hX hF => mo (few13L A n c l X (HRX.out X (hb.trans (Below.mono hX hb.size))) hln hn1) (by rw [h0])) ?_
  refine jm (.bool false) ?_
  refine jm (.bool false) ?_
  refine ja hB1 Tryd.underlying48 (by rfl) info_cv ?_
  refine jc (.bool false) (fun X hX hF => mo (few13L A' n' c' m X (HRY.out X (hb.trans (Below.mono hX hb.size))) hlm hn2) (by rw [g0])) ?_
  refine jm (.bool true) ?_
  refine jm (.bool true) ?_
  refine jm (.bool true) ?_
  refine js ?_
  refine js ?_
  refine js ?_
  refine jm (.bool true) ?_
  refine jm (.bool true) ?_
  refine js ?_
  refine js ?_
  refine js ?_
  refine jm (.bool true) ?_
  refine jz fun X1 hX1 => ?_
  have hB0 := hB0.bel hX1
  have hB1 := hB1.bel hX1
  have hb := bel_next hb hX1
  clear hX1
  go_upto_region 2 with (fail)
  refine jp ?_
  refine jc (.bool true) (fun X hX hF => sanityC X) ?_
  refine jm (.bool true) ?_
  refine jz fun X2 hX2 => ?_
  have hB0 := hB0.bel hX2
  have hB1 := hB1.bel hX2
  have hb := bel_next hb hX2
  clear hX2
  go_wp2
  go_ret
  exact ⟨rfl, hb⟩
theorem diff2 (w : World) (A : Option Addr) (n c : Nat) (l : List Pt) (hr : Rd w 4 (.slice A n c) n (fl ptc l)) (hln : l.length = n) (hn1 : n ≤ 9223372036854775807) (A' : Option Addr) (n' c' : Nat) (m : List Pt) (hr' : Rd w 4 (.slice A' n' c') n' (fl ptc m)) (hlm : m.length = n') (hn2 : n' ≤ 9223372036854775807) (a : Int) (a0 : 0 ≤ a) (a1 : a ≤ 65535) (h0 : fewB l 8 = true) (g0 : fewB m 8 = true) (hf : fewP l 1000) (hc : ck l ≠ 0) : Calls Tryd.prog 10 #[.agg #[.slice A n c], .agg #[.slice A' n' c'], .int .u16 a] w fun e w' => e = .returned (.bool true) ∧ Since w w' := by
  have HRX : Hid (∀ X, Since w X → Rd X 4 (.slice A n c) n (fl ptc l)) := fun X h => hr.below h
  have HRY : Hid (∀ X, Since w X → Rd X 4 (.slice A' n' c') n' (fl ptc m)) := fun X h => hr'.below h
  clear hr hr'
  go_enter Tryd.func10, Tryd.ntmps10
  go_upto_region 1 with (fail)
  obtain ⟨W0, hW0, hB0, hB1, hb⟩ := start2 w 48 48 [.slice A n c] [.slice A' n' c']
  rw [← hW0]
  clear hW0
  refine jp ?_
  refine ja hB0 Tryd.underlying48 (by rfl) info_cv ?_
  refine jc (.bool true) (fun X hX hF => mo (few13L A n c l X (HRX.out X (hb.trans (Below.mono hX hb.size))) hln hn1) (by rw [h0])) ?_
  refine jm (.bool false) ?_
  refine jm (.bool false) ?_
  refine ja hB1 Tryd.underlying48 (by rfl) info_cv ?_
  refine jc (.bool true) (fun X hX hF => mo (few13L A' n' c' m X (HRY.out X (hb.trans (Below.mono hX hb.size))) hlm hn2) (by rw [g0])) ?_
  refine jm (.bool false) ?_
  refine jm (.bool false) ?_
  refine jm (.bool false) ?_
  refine ja hB0 Tryd.underlying48 (by rfl) info_cv ?_
  refine jc (.int .i64 (ck l)) (fun X hX hF => checkC A n c l X (HRX.out X (hb.trans (Below.mono hX hb.size))) hln hn1 hf.mono) ?_
  refine jv (.bool true) (exec_nei _ _ _ _ (by rfl) .i64 (ck l) 0 (by rfl) (by rfl) true (by rw [decide_eq_false (by omega)]; rfl)) ?_
  refine jm (.bool true) ?_
  refine jm (.bool true) ?_
  refine js ?_
  refine js ?_
  refine js ?_
  refine jm (.bool true) ?_
  refine jz fun X1 hX1 => ?_
  have hB0 := hB0.bel hX1
  have hB1 := hB1.bel hX1
  have hb := bel_next hb hX1
  clear hX1
  go_upto_region 2 with (fail)
  refine jp ?_
  refine jc (.bool true) (fun X hX hF => sanityC X) ?_
  refine jm (.bool true) ?_
  refine jz fun X2 hX2 => ?_
  have hB0 := hB0.bel hX2
  have hB1 := hB1.bel hX2
  have hb := bel_next hb hX2
  clear hX2
  go_wp2
  go_ret
  exact ⟨rfl, hb⟩
theorem diff3 (w : World) (A : Option Addr) (n c : Nat) (l : List Pt) (hr : Rd w 4 (.slice A n c) n (fl ptc l)) (hln : l.length = n) (hn1 : n ≤ 9223372036854775807) (A' : Option Addr) (n' c' : Nat) (m : List Pt) (hr' : Rd w 4 (.slice A' n' c') n' (fl ptc m)) (hlm : m.length = n') (hn2 : n' ≤ 9223372036854775807) (a : Int) (a0 : 0 ≤ a) (a1 : a ≤ 65535) (h0 : fewB l 8 = true) (g0 : fewB m 8 = true) (hf : fewP l 1000) (hf' : fewP m 1000) (hc : ck l = 0) (hc2 : ck m ≠ 0) : Calls Tryd.prog 10 #[.agg #[.slice A n c], .agg #[.slice A' n' c'], .int .u16 a] w fun e w' => e = .returned (.bool true) ∧ Since w w' := by
  have HRX : Hid (∀ X, Since w X → Rd X 4 (.slice A n c) n (fl ptc l)) := fun X h => hr.below h
  have HRY : Hid (∀ X, Since w X → Rd X 4 (.slice A' n' c') n' (fl ptc m)) := fun X h => hr'.below h
  clear hr hr'
  go_enter Tryd.func10, Tryd.ntmps10
  go_upto_region 1 with (fail)
  obtain ⟨W0, hW0, hB0, hB1, hb⟩ := start2 w 48 48 [.slice A n c] [.slice A' n' c']
  rw [← hW0]
  clear hW0
  refine jp ?_
  refine ja hB0 Tryd.underlying48 (by rfl) info_cv ?_
  refine jc (.bool true) (fun X hX hF => mo (few13L A n c l X (HRX.out X (hb.trans (Below.mono hX hb.size))) hln hn1) (by rw [h0])) ?_
  refine jm (.bool false) ?_
  refine jm (.bool false) ?_
  refine ja hB1 Tryd.underlying48 (by rfl) info_cv ?_
  refine jc (.bool true) (fun X hX hF => mo (few13L A' n' c' m X (HRY.out X (hb.trans (Below.mono hX hb.size))) hlm hn2) (by rw [g0])) ?_
  refine jm (.bool false) ?_
  refine jm (.bool false) ?_
  refine jm (.bool false) ?_
  refine ja hB0 Tryd.underlying48 (by rfl) info_cv ?_
  refine jc (.int .i64 0) (fun X hX hF => mo (checkC A n c l X (HRX.out X (hb.trans (Below.mono hX hb.size))) hln hn1 hf.mono) (by rw [hc])) ?_
  refine jv (.bool false) (exec_nei _ _ _ _ (by rfl) .i64 0 0 (by rfl) (by rfl) false (by rw [decide_eq_true (by omega)]; rfl)) ?_
  refine jm (.bool false) ?_
  refine jm (.bool false) ?_
  refine ja hB1 Tryd.underlying48 (by rfl) info_cv ?_
  refine jc (.int .i64 (ck m)) (fun X hX hF => checkC A' n' c' m X (HRY.out X (hb.trans (Below.mono hX hb.size))) hlm hn2 hf'.mono) ?_
  refine jv (.bool true) (exec_nei _ _ _ _ (by rfl) .i64 (ck m) 0 (by rfl) (by rfl) true (by rw [decide_eq_false (by omega)]; rfl)) ?_
  refine jm (.bool true) ?_
  refine jz fun X1 hX1 => ?_
  have hB0 := hB0.bel hX1
  have hB1 := hB1.bel hX1
  have hb := bel_next hb hX1
  clear hX1
  go_upto_region 2 with (fail)
  refine jp ?_
  refine jc (.bool true) (fun X hX hF => sanityC X) ?_
  refine jm (.bool true) ?_
  refine jz fun X2 hX2 => ?_
  have hB0 := hB0.bel hX2
  have hB1 := hB1.bel hX2
  have hb := bel_next hb hX2
  clear hX2
  go_wp2
  go_ret
  exact ⟨rfl, hb⟩
theorem diffM (w : World) (b off : Nat) (n c : Nat) (l : List Pt) (hr : Rd w 4 (.slice (some ⟨b, off, none⟩) n c) n (fl ptc l)) (hln : l.length = n) (hn1 : n ≤ 9223372036854775807) (b2 off2 : Nat) (n' c' : Nat) (m : List Pt) (hr' : Rd w 4 (.slice (some ⟨b2, off2, none⟩) n' c') n' (fl ptc m)) (hlm : m.length = n') (hn2 : n' ≤ 9223372036854775807) (a : Int) (a0 : 0 ≤ a) (a1 : a ≤ 65535) (HF8 : Hid (fewB l 8 = true)) (HF9 : Hid (fewB m 8 = true)) (hf : fewP l 1000) (hf' : fewP m 1000) (hc : ck l = 0) (hc2 : ck m = 0) (D : List (Int × Int)) (HD1 : Hid (dfE l m = 0 ∧ dfL l m = D)) (HD2 : Hid (dfE m l = 0 ∧ dfL m l = D)) (kk : Nat) (HK : Hid ((kk : Int) = a % 3001)) (hkk : kk < 3001) (s : Int) (HS : Hid (s = -1000 + (kk : Int))) (fa fb : Rat) (sfa : szR fa 10000) (sfb : szR fb 10000) (HFA : Hid (flowC0 l s = fa)) (HFB : Hid (flowC0 m s = fb)) (HIA : Hid (ins D s D.length = decide (fa ≠ fb))) (HRG : Hid (∀ k, k < D.length → -1000 ≤ (bt D k).1 ∧ (bt D k).1 ≤ (bt D k).2 ∧ (bt D k).2 ≤ 2000)) (HAS : Hid (∀ k, k < D.length → 0 < k → (bt D (k - 1)).2 + 1 < (bt D k).1)) : Calls Tryd.prog 10 #[.agg #[.slice (some ⟨b, off, none⟩) n c], .agg #[.slice (some ⟨b2, off2, none⟩) n' c'], .int .u16 a] w fun e w' => e = .returned (.bool true) ∧ Since w w' := by
  have HRX : Hid (∀ X, Since w X → Rd X 4 (.slice (some ⟨b, off, none⟩) n c) n (fl ptc l)) := fun X h => hr.below h
  have HRY : Hid (∀ X, Since w X → Rd X 4 (.slice (some ⟨b2, off2, none⟩) n' c') n' (fl ptc m)) := fun X h => hr'.below h
  clear hr hr'
  have hsb : -1000 ≤ s ∧ s ≤ 2000 := by
    have := HS.out
    omega
  go_enter Tryd.func10, Tryd.ntmps10
  go_upto_region 1 with (fail)
  obtain ⟨W0, hW0, hB0, hB1, hb⟩ := start2 w 48 48 [.slice (some ⟨b, off, none⟩) n c] [.slice (some ⟨b2, off2, none⟩) n' c']
  rw [← hW0]
  clear hW0
  refine jp ?_
  refine ja hB0 Tryd.underlying48 (by rfl) info_cv ?_
  refine jc (.bool true) (fun X hX hF => mo (few13L (some ⟨b, off, none⟩) n c l X (HRX.out X (hb.trans (Below.mono hX hb.size))) hln hn1) (by rw [HF8.out])) ?_
  refine jm (.bool false) ?_
  refine jm (.bool false) ?_
  refine ja hB1 Tryd.underlying48 (by rfl) info_cv ?_
  refine jc (.bool true) (fun X hX hF => mo (few13L (some ⟨b2, off2, none⟩) n' c' m X (HRY.out X (hb.trans (Below.mono hX hb.size))) hlm hn2) (by rw [HF9.out])) ?_
  refine jm (.bool false) ?_
  refine jm (.bool false) ?_
  refine jm (.bool false) ?_
  refine ja hB0 Tryd.underlying48 (by rfl) info_cv ?_
  refine jc (.int .i64 0) (fun X hX hF => mo (checkC (some ⟨b, off, none⟩) n c l X (HRX.out X (hb.trans (Below.mono hX hb.size))) hln hn1 hf.mono) (by rw [hc])) ?_
  refine jv (.bool false) (exec_nei _ _ _ _ (by rfl) .i64 0 0 (by rfl) (by rfl) false (by rw [decide_eq_true (by omega)]; rfl)) ?_
  refine jm (.bool false) ?_
  refine jm (.bool false) ?_
  refine ja hB1 Tryd.underlying48 (by rfl) info_cv ?_
  refine jc (.int .i64 0) (fun X hX hF => mo (checkC (some ⟨b2, off2, none⟩) n' c' m X (HRY.out X (hb.trans (Below.mono hX hb.size))) hlm hn2 hf'.mono) (by rw [hc2])) ?_
  refine jv (.bool false) (exec_nei _ _ _ _ (by rfl) .i64 0 0 (by rfl) (by rfl) false (by rw [decide_eq_true (by omega)]; rfl)) ?_
  refine jm (.bool false) ?_
  refine jz fun X1 hX1 => ?_
  have hB0 := hB0.bel hX1
  have hB1 := hB1.bel hX1
  have hb := bel_next hb hX1
  clear hX1
  go_upto_region 3 with (fail)
  refine lx_plain [none, none, some (Dfv 0 D), none, some (Dlv D)] (lasts_none (lasts_none (lasts_some (Dfv.lasts _ _) (lasts_none (lasts_some (Dlv.lasts _) (lasts_nil)))))) ?_
  simp only [iX, Nat.reduceAdd]
  refine ja hB0 Tryd.underlying48 (by rfl) info_cv ?_
  refine ja hB1 Tryd.underlying48 (by rfl) info_cv ?_
  refine jk (fun X hX hF => (differV l m _ _ X ⟨(some ⟨b, off, none⟩), n, c, rfl, (HRX.out X (hb.trans (Below.mono hX hb.size))), hln, hn1⟩ ⟨(some ⟨b2, off2, none⟩), n', c', rfl, (HRY.out X (hb.trans (Below.mono hX hb.size))), hlm, hn2⟩ hf hf').mono fun e X' ⟨u, h1, h2, h3⟩ => ⟨u, h1, by rw [HD1.out.1, HD1.out.2] at h2; exact h2, h3⟩) ?_
  intro v37
  refine jm (v37) ?_
  refine lx_new (by rfl) (fun X hX hF => Dfv.ext _ (by rfl) (by rfl) (hF _ _ List.mem_cons_self rfl)) ?_
  intro v38
  simp only [pX]
  refine jg (.int .i64 0) (fun X hX hF => Dfv.err _ (by rfl) (by rfl) (hF _ _ (List.mem_cons_of_mem _ List.mem_cons_self) rfl)) ?_
  refine jm (v38) ?_
  refine jm (.int .i64 0) ?_
  refine lx_nil ?_
  intro X2 hX2 hF
  have hv37 := hF _ _ (List.mem_cons_of_mem _ List.mem_cons_self)
  have hv38 := hF _ _ List.mem_cons_self
  have hB0 := hB0.bel hX2
  have hB1 := hB1.bel hX2
  have hb := bel_next hb hX2
  clear hF hX2
  obtain ⟨A7, n7, c7, rfl, hr7, hl7⟩ := hv38
  clear hv37
  go_upto_region 4 with (fail)
  refine lx_plain [none, none, some (Dfv 0 D), none, some (Dlv D)] (lasts_none (lasts_none (lasts_some (Dfv.lasts _ _) (lasts_none (lasts_some (Dlv.lasts _) (lasts_nil)))))) ?_
  simp only [iX, Nat.reduceAdd]
  refine ja hB1 Tryd.underlying48 (by rfl) info_cv ?_
  refine ja hB0 Tryd.underlying48 (by rfl) info_cv ?_
  refine jk (fun X hX hF => (differV m l _ _ X ⟨(some ⟨b2, off2, none⟩), n', c', rfl, (HRY.out X (hb.trans (Below.mono hX hb.size))), hlm, hn2⟩ ⟨(some ⟨b, off, none⟩), n, c, rfl, (HRX.out X (hb.trans (Below.mono hX hb.size))), hln, hn1⟩ hf' hf).mono fun e X' ⟨u, h1, h2, h3⟩ => ⟨u, h1, by rw [HD2.out.1, HD2.out.2] at h2; exact h2, h3⟩) ?_
  intro v43
  refine jm (v43) ?_
  refine lx_new (by rfl) (fun X hX hF => Dfv.ext _ (by rfl) (by rfl) (hF _ _ List.mem_cons_self rfl)) ?_
  intro v44
  simp only [pX]
  refine jg (.int .i64 0) (fun X hX hF => Dfv.err _ (by rfl) (by rfl) (hF _ _ (List.mem_cons_of_mem _ List.mem_cons_self) rfl)) ?_
  refine jm (v44) ?_
  refine jm (.int .i64 0) ?_
  refine lx_nil ?_
  intro X3 hX3 hF
  have hv43 := hF _ _ (List.mem_cons_of_mem _ List.mem_cons_self)
  have hv44 := hF _ _ List.mem_cons_self
  have hr7 := hr7.below hX3
  have hB0 := hB0.bel hX3
  have hB1 := hB1.bel hX3
  have hb := bel_next hb hX3
  clear hF hX3
  obtain ⟨A9, n9, c9, rfl, hr9, hl9⟩ := hv44
  clear hv43
  obtain rfl : n7 = n9 := hl7.symm.trans hl9
  have HL7 := Lib.hid hl7
  have hm7 : n7 ≤ 9223372036854775807 := by
    obtain ⟨_, _, _, h3, h4⟩ := hr7.form
    unfold maxLen at h4
    omega
  clear hl7 hl9
  go_upto_region 5 with (fail)
  refine jp ?_
  refine jm (.int .i64 0) ?_
  refine jv (.bool false) (exec_nei _ _ _ _ (by rfl) .i64 0 0 (by rfl) (by rfl) false (by rw [decide_eq_true (by omega)]; rfl)) ?_
  refine jm (.bool false) ?_
  refine jm (.int .i64 0) ?_
  refine jv (.bool false) (exec_nei _ _ _ _ (by rfl) .i64 0 0 (by rfl) (by rfl) false (by rw [decide_eq_true (by omega)]; rfl)) ?_
  refine jm (.bool false) ?_
  refine jm (.bool false) ?_
  refine jm (.slice A7 n7 c7) ?_
  refine jv (.int .i64 (n7 : Int)) (exec_lenv Tryd.underlying68 _ (by rfl) A7 n7 c7 (by rfl) _ rfl) ?_
  refine jm (.slice A9 n7 c9) ?_
  refine jv (.int .i64 (n7 : Int)) (exec_lenv Tryd.underlying68 _ (by rfl) A9 n7 c9 (by rfl) _ rfl) ?_
  refine jv (.bool false) (exec_nei _ _ _ _ (by rfl) .i64 (n7 : Int) (n7 : Int) (by rfl) (by rfl) false (by rw [decide_eq_true rfl]; rfl)) ?_
  refine jm (.bool false) ?_
  refine jz fun X4 hX4 => ?_
  have hr7 := hr7.below hX4
  have hr9 := hr9.below hX4
  have hB0 := hB0.bel hX4
  have hB1 := hB1.bel hX4
  have hb := bel_next hb hX4
  clear hX4
  go_upto_region 7 with (fail)
  refine jp ?_
  refine jm (.int .u16 a) ?_
  refine jv (.int .i64 a) (exec_cnv _ _ .u16 .i64 Tryd.underlying57 Tryd.underlying3 _ (by rfl) a a (by rfl) (by rw [IntWalk.i64_in _ (by omega)])) ?_
  refine jv (.int .i64 (kk : Int)) (exec_rem _ _ _ _ (by rfl) .i64 a 3001 (kk : Int) (by rfl) (by rfl) (by omega) (by omega) HK.out.symm) ?_
  refine jv (.int .i64 s) (exec_add _ _ _ _ (by rfl) (-1000) (kk : Int) s (by rfl) (by rfl) (by have := HS.out; omega) (by omega) (by omega)) ?_
  refine jm (.int .i64 s) ?_
  refine jz fun X5 hX5 => ?_
  have hr7 := hr7.below hX5
  have hr9 := hr9.below hX5
  have hB0 := hB0.bel hX5
  have hB1 := hB1.bel hX5
  have hb := bel_next hb hX5
  clear hX5
  go_upto_region 8 with (fail)
  refine jp ?_
  refine jm (.bool false) ?_
  refine jz fun X6 hX6 => ?_
  have hr7 := hr7.below hX6
  have hr9 := hr9.below hX6
  have hB0 := hB0.bel hX6
  have hB1 := hB1.bel hX6
  have hb := bel_next hb hX6
  clear hX6
  go_upto_region 9 with (fail)
  refine jp ?_
  refine jm (.slice A7 n7 c7) ?_
  refine jv (.int .i64 (n7 : Int)) (exec_lenv Tryd.underlying68 _ (by rfl) A7 n7 c7 (by rfl) _ rfl) ?_
  refine jm (.int .i64 0) ?_
  refine jz fun X7 hX7 => ?_
  have hr7 := hr7.below hX7
  have hr9 := hr9.below hX7
  have hB0 := hB0.bel hX7
  have hB1 := hB1.bel hX7
  have hb := bel_next hb hX7
  clear hX7
  go_wp2
  go_loopw [12, 65] (fun iv kv wr => ∃ (k : Nat) (ib : Bool), k ≤ n7 ∧ iv = .bool ib ∧ kv = .int .i64 (k : Int) ∧ Hid (ins D s k = ib) ∧ Blk wr w.heap.size 48 [.slice (some ⟨b, off, none⟩) n c] ∧ Blk wr (w.heap.size + 1) 48 [.slice (some ⟨b2, off2, none⟩) n' c'] ∧ Rd wr 2 (.slice A7 n7 c7) n7 (fl btc D) ∧ Rd wr 2 (.slice A9 n7 c9) n7 (fl btc D) ∧ Below w.heap.size w wr) (fun iv kv _ => n7 - (intOf kv).toNat)
  case atStart => exact ⟨0, false, by omega, rfl, rfl, rfl, hB0, hB1, hr7, hr9, hb⟩
  case round =>
    clear hB0 hB1 hr7 hr9 hb
    obtain ⟨k, ib, hk, rfl, rfl, HI, hB0, hB1, hr7, hr9, hb⟩ := hrel
    rcases Nat.lt_or_ge k n7 with hlt9 | hlt9
    · obtain ⟨b7, o7, rfl⟩ := hr7.someB (by omega)
      obtain ⟨b9, o9, rfl⟩ := hr9.someB (by omega)
      have hkD : k < D.length := by rw [HL7.out]; exact hlt9
      have hin := ins_succ (s := s) hkD
      rw [HI.out] at hin
      have HIN := Lib.hid hin
      clear hin
      obtain ⟨hbb, hcx⟩ := hr7.btIn HL7.out hlt9
      obtain ⟨hbc, hcz⟩ := hr9.btIn HL7.out hlt9
      obtain ⟨x, hx9⟩ : ∃ x, x = bt D k := ⟨_, rfl⟩
      have HX := Lib.hid hx9
      clear hx9
      rw [show D.getD k (0, 0) = x from HX.out.symm] at hcx hcz
      rw [← HX.out] at HIN
      have hxr := HRG.out k hkD
      rw [← HX.out] at hxr
      go_upto_region 10 with (fail)
      refine jp ?_
      refine jv (.bool true) (exec_lss _ _ _ _ (by rfl) .i64 (k : Int) (n7 : Int) (by rfl) (by rfl) true (decide_eq_true (by omega))) ?_
      refine jz fun X1 hX1 => ?_
      have hr7 := hr7.below hX1
      have hr9 := hr9.below hX1
      have hB0 := hB0.bel hX1
      have hB1 := hB1.bel hX1
      have hcx := hcx.below hX1 hbb
      have hcz := hcz.below hX1 hbc
      replace hbb := Nat.lt_of_lt_of_le hbb (hX1).size
      replace hbc := Nat.lt_of_lt_of_le hbc (hX1).size
      have hb := bel_next hb hX1
      clear hX1
      go_upto_region 11 with (fail)
      refine jq 3 ?_
      refine jm (.int .i64 (k : Int)) ?_
      refine jv (.pointer (some ⟨b7, o7 + k * 2, none⟩)) (exec_ixv Tryd.underlying68 info_bt _ _ (by rfl) b7 (o7) n7 c7 k (by omega) (by rfl) (by rfl) rfl) ?_
      refine jg (.agg #[.int .i64 x.1, .int .i64 x.2]) (fun X hX hF => exec_ldc 72 _ (by rfl) b7 (o7 + k * 2) (by rfl) Tryd.underlying72 rfl [.int .i64 x.1, .int .i64 x.2] X (Cl.part (hcx.below hX hbb) 0 _ (by rfl)) info_bt) ?_
      refine jz fun X2 hX2 => ?_
      have hr7 := hr7.below hX2
      have hr9 := hr9.below hX2
      have hB0 := hB0.bel hX2
      have hB1 := hB1.bel hX2
      have hcx := hcx.below hX2 hbb
      have hcz := hcz.below hX2 hbc
      replace hbb := Nat.lt_of_lt_of_le hbb (hX2).size
      replace hbc := Nat.lt_of_lt_of_le hbc (hX2).size
      have hb := bel_next hb hX2
      clear hX2
      go_upto_region 12 with (refine osn 72 14 69 #[.int .i64 x.1, .int .i64 x.2] info_bt ?_)
      obtain ⟨Y2, hY9, hD14, hS9⟩ := start1 X2 72 [.int .i64 x.1, .int .i64 x.2]
      rw [← hY9]
      clear hY9
      have hgs14 := hb.size
      have hlt14x0 := hB0.lt
      have hlt14x1 := hB1.lt
      have hr7 := hr7.below hS9
      have hr9 := hr9.below hS9
      have hcx := hcx.below hS9 hbb
      have hcz := hcz.below hS9 hbc
      replace hbb := Nat.lt_of_lt_of_le hbb (hS9).size
      replace hbc := Nat.lt_of_lt_of_le hbc (hS9).size
      have hB0 := hB0.bel hS9
      have hB1 := hB1.bel hS9
      have hb := bel_next hb hS9
      clear hS9
      generalize X2.heap.size = g14 at *
      rcases Nat.eq_zero_or_pos k with hk0 | hk0
      · refine jd ?_
        refine ja hD14 Tryd.underlying72 (by rfl) info_bt ?_
        refine jm (.slice (some ⟨b9, o9, none⟩) n7 c9) ?_
        refine jm (.int .i64 (k : Int)) ?_
        refine jv (.pointer (some ⟨b9, o9 + k * 2, none⟩)) (exec_ixv Tryd.underlying68 info_bt _ _ (by rfl) b9 (o9) n7 c9 k (by omega) (by rfl) (by rfl) rfl) ?_
        refine jg (.agg #[.int .i64 x.1, .int .i64 x.2]) (fun X hX hF => exec_ldc 72 _ (by rfl) b9 (o9 + k * 2) (by rfl) Tryd.underlying72 rfl [.int .i64 x.1, .int .i64 x.2] X (Cl.part (hcz.below hX hbc) 0 _ (by rfl)) info_bt) ?_
        refine jv (.bool false) (exec_neb _ _ (by rfl) x x (by rfl) (by rfl) false (decide_eq_false (fun h9 => h9 rfl))) ?_
        refine jm (.bool false) ?_
        refine jn (.pointer (some ⟨g14, 0, none⟩)) ?_
        refine jf (.int .i64 x.1) hD14 0 load_int ?_
        refine jn (.pointer (some ⟨g14, 1, none⟩)) ?_
        refine jf (.int .i64 x.2) hD14 1 load_int ?_
        refine jv (.bool false) (exec_gtr _ _ _ _ (by rfl) .i64 x.1 x.2 (by rfl) (by rfl) false (decide_eq_false (by omega))) ?_
        refine jm (.bool false) ?_
        refine jm (.bool false) ?_
        refine jn (.pointer (some ⟨g14, 0, none⟩)) ?_
        refine jf (.int .i64 x.1) hD14 0 load_int ?_
        refine jv (.bool false) (exec_lss _ _ _ _ (by rfl) .i64 x.1 (-1000) (by rfl) (by rfl) false (decide_eq_false (by omega))) ?_
        refine jm (.bool false) ?_
        refine jm (.bool false) ?_
        refine jn (.pointer (some ⟨g14, 1, none⟩)) ?_
        refine jf (.int .i64 x.2) hD14 1 load_int ?_
        refine jv (.bool false) (exec_gtr _ _ _ _ (by rfl) .i64 x.2 2000 (by rfl) (by rfl) false (decide_eq_false (by omega))) ?_
        refine jm (.bool false) ?_
        refine jm (.bool false) ?_
        refine jm (.int .i64 (k : Int)) ?_
        refine jv (.bool false) (exec_gtr _ _ _ _ (by rfl) .i64 (k : Int) 0 (by rfl) (by rfl) false (decide_eq_false (by omega))) ?_
        refine jm (.bool false) ?_
        refine js ?_
        refine js ?_
        refine js ?_
        refine js ?_
        refine js ?_
        refine js ?_
        refine js ?_
        refine js ?_
        refine js ?_
        refine js ?_
        refine jm (.bool false) ?_
        refine jm (.bool false) ?_
        refine jz fun X3 hX3 => ?_
        have hr7 := hr7.below hX3
        have hr9 := hr9.below hX3
        have hB0 := hB0.bel hX3
        have hB1 := hB1.bel hX3
        have hD14 := hD14.bel hX3
        have hcx := hcx.below hX3 hbb
        have hcz := hcz.below hX3 hbc
        replace hbb := Nat.lt_of_lt_of_le hbb (hX3).size
        replace hbc := Nat.lt_of_lt_of_le hbc (hX3).size
        have hb := bel_next hb hX3
        clear hX3
        rcases ib with _ | _
        · rcases Int.lt_or_le s x.1 with hq1 | hq1
          · have HN : Hid (ins D s (k + 1) = false) := by show _ = _; rw [HIN.out, decide_eq_false (show ¬ x.1 ≤ s by omega)]; rfl
            go_upto_region 14 with (fail)
            refine jp ?_
            refine jm (.bool false) ?_
            refine jm (.bool false) ?_
            refine jn (.pointer (some ⟨g14, 0, none⟩)) ?_
            refine jf (.int .i64 x.1) hD14 0 load_int ?_
            refine jm (.int .i64 s) ?_
            refine jv (.bool false) (exec_leq _ _ _ _ (by rfl) .i64 x.1 s (by rfl) (by rfl) false (decide_eq_false (by omega))) ?_
            refine jm (.bool false) ?_
            refine js ?_
            refine js ?_
            refine js ?_
            refine js ?_
            refine jm (.bool false) ?_
            refine jm (.bool false) ?_
            refine jm (.bool false) ?_
            refine jz fun X4 hX4 => ?_
            have hr7 := hr7.below hX4
            have hr9 := hr9.below hX4
            have hB0 := hB0.bel hX4
            have hB1 := hB1.bel hX4
            have hD14 := hD14.bel hX4
            have hb := bel_next hb hX4
            clear hX4
            go_upto_region 15 with (fail)
            refine jp ?_
            refine jv (.int .i64 ((k + 1 : Nat) : Int)) (exec_add _ _ _ _ (by rfl) (k : Int) 1 ((k + 1 : Nat) : Int) (by rfl) (by rfl) (by omega) (by omega) (by omega)) ?_
            refine jm (.int .i64 ((k + 1 : Nat) : Int)) ?_
            refine jz fun X5 hX5 => ?_
            have hr7 := hr7.below hX5
            have hr9 := hr9.below hX5
            have hB0 := hB0.bel hX5
            have hB1 := hB1.bel hX5
            have hD14 := hD14.bel hX5
            have hb := bel_next hb hX5
            clear hX5
            go_wp2
            go_roundw
            case rel => exact ⟨k + 1, false, by omega, rfl, rfl, HN, hB0, hB1, hr7, hr9, hb⟩
            case measure => simp [intOf]; omega
          · rcases Int.lt_or_le x.2 s with hq2 | hq2
            · have HN : Hid (ins D s (k + 1) = false) := by show _ = _; rw [HIN.out, decide_eq_true hq1, decide_eq_false (show ¬ s ≤ x.2 by omega)]; rfl
              go_upto_region 14 with (fail)
              refine jp ?_
              refine jm (.bool false) ?_
              refine jm (.bool false) ?_
              refine jn (.pointer (some ⟨g14, 0, none⟩)) ?_
              refine jf (.int .i64 x.1) hD14 0 load_int ?_
              refine jm (.int .i64 s) ?_
              refine jv (.bool true) (exec_leq _ _ _ _ (by rfl) .i64 x.1 s (by rfl) (by rfl) true (decide_eq_true (by omega))) ?_
              refine jm (.bool true) ?_
              refine jm (.int .i64 s) ?_
              refine jn (.pointer (some ⟨g14, 1, none⟩)) ?_
              refine jf (.int .i64 x.2) hD14 1 load_int ?_
              refine jv (.bool false) (exec_leq _ _ _ _ (by rfl) .i64 s x.2 (by rfl) (by rfl) false (decide_eq_false (by omega))) ?_
              refine jm (.bool false) ?_
              refine jm (.bool false) ?_
              refine jm (.bool false) ?_
              refine jz fun X4 hX4 => ?_
              have hr7 := hr7.below hX4
              have hr9 := hr9.below hX4
              have hB0 := hB0.bel hX4
              have hB1 := hB1.bel hX4
              have hD14 := hD14.bel hX4
              have hb := bel_next hb hX4
              clear hX4
              go_upto_region 15 with (fail)
              refine jp ?_
              refine jv (.int .i64 ((k + 1 : Nat) : Int)) (exec_add _ _ _ _ (by rfl) (k : Int) 1 ((k + 1 : Nat) : Int) (by rfl) (by rfl) (by omega) (by omega) (by omega)) ?_
              refine jm (.int .i64 ((k + 1 : Nat) : Int)) ?_
              refine jz fun X5 hX5 => ?_
              have hr7 := hr7.below hX5
              have hr9 := hr9.below hX5
              have hB0 := hB0.bel hX5
              have hB1 := hB1.bel hX5
              have hD14 := hD14.bel hX5
              have hb := bel_next hb hX5
              clear hX5
              go_wp2
              go_roundw
              case rel => exact ⟨k + 1, false, by omega, rfl, rfl, HN, hB0, hB1, hr7, hr9, hb⟩
              case measure => simp [intOf]; omega
            · have HN : Hid (ins D s (k + 1) = true) := by show _ = _; rw [HIN.out, decide_eq_true hq1, decide_eq_true hq2]; rfl
              go_upto_region 14 with (fail)
              refine jp ?_
              refine jm (.bool false) ?_
              refine jm (.bool false) ?_
              refine jn (.pointer (some ⟨g14, 0, none⟩)) ?_
              refine jf (.int .i64 x.1) hD14 0 load_int ?_
              refine jm (.int .i64 s) ?_
              refine jv (.bool true) (exec_leq _ _ _ _ (by rfl) .i64 x.1 s (by rfl) (by rfl) true (decide_eq_true (by omega))) ?_
              refine jm (.bool true) ?_
              refine jm (.int .i64 s) ?_
              refine jn (.pointer (some ⟨g14, 1, none⟩)) ?_
              refine jf (.int .i64 x.2) hD14 1 load_int ?_
              refine jv (.bool true) (exec_leq _ _ _ _ (by rfl) .i64 s x.2 (by rfl) (by rfl) true (decide_eq_true (by omega))) ?_
              refine jm (.bool true) ?_
              refine jm (.bool true) ?_
              refine jm (.bool true) ?_
              refine jz fun X4 hX4 => ?_
              have hr7 := hr7.below hX4
              have hr9 := hr9.below hX4
              have hB0 := hB0.bel hX4
              have hB1 := hB1.bel hX4
              have hD14 := hD14.bel hX4
              have hb := bel_next hb hX4
              clear hX4
              go_upto_region 15 with (fail)
              refine jp ?_
              refine jv (.int .i64 ((k + 1 : Nat) : Int)) (exec_add _ _ _ _ (by rfl) (k : Int) 1 ((k + 1 : Nat) : Int) (by rfl) (by rfl) (by omega) (by omega) (by omega)) ?_
              refine jm (.int .i64 ((k + 1 : Nat) : Int)) ?_
              refine jz fun X5 hX5 => ?_
              have hr7 := hr7.below hX5
              have hr9 := hr9.below hX5
              have hB0 := hB0.bel hX5
              have hB1 := hB1.bel hX5
              have hD14 := hD14.bel hX5
              have hb := bel_next hb hX5
              clear hX5
              go_wp2
              go_roundw
              case rel => exact ⟨k + 1, true, by omega, rfl, rfl, HN, hB0, hB1, hr7, hr9, hb⟩
              case measure => simp [intOf]; omega
        · have HN : Hid (ins D s (k + 1) = true) := by show _ = _; rw [HIN.out]; rfl
          go_upto_region 14 with (fail)
          refine jp ?_
          refine jm (.bool true) ?_
          refine jm (.bool true) ?_
          refine js ?_
          refine js ?_
          refine js ?_
          refine js ?_
          refine js ?_
          refine js ?_
          refine js ?_
          refine js ?_
          refine js ?_
          refine js ?_
          refine jm (.bool true) ?_
          refine jm (.bool true) ?_
          refine jz fun X4 hX4 => ?_
          have hr7 := hr7.below hX4
          have hr9 := hr9.below hX4
          have hB0 := hB0.bel hX4
          have hB1 := hB1.bel hX4
          have hD14 := hD14.bel hX4
          have hb := bel_next hb hX4
          clear hX4
          go_upto_region 15 with (fail)
          refine jp ?_
          refine jv (.int .i64 ((k + 1 : Nat) : Int)) (exec_add _ _ _ _ (by rfl) (k : Int) 1 ((k + 1 : Nat) : Int) (by rfl) (by rfl) (by omega) (by omega) (by omega)) ?_
          refine jm (.int .i64 ((k + 1 : Nat) : Int)) ?_
          refine jz fun X5 hX5 => ?_
          have hr7 := hr7.below hX5
          have hr9 := hr9.below hX5
          have hB0 := hB0.bel hX5
          have hB1 := hB1.bel hX5
          have hD14 := hD14.bel hX5
          have hb := bel_next hb hX5
          clear hX5
          go_wp2
          go_roundw
          case rel => exact ⟨k + 1, true, by omega, rfl, rfl, HN, hB0, hB1, hr7, hr9, hb⟩
          case measure => simp [intOf]; omega
      · obtain ⟨hbd, hcy⟩ := hr7.btIn HL7.out (show k - 1 < n7 by omega)
        obtain ⟨y, hy9⟩ : ∃ y, y = bt D (k - 1) := ⟨_, rfl⟩
        rw [show D.getD (k - 1) (0, 0) = y from hy9.symm] at hcy
        have hxy := HAS.out k hkD hk0
        rw [← HX.out, ← hy9] at hxy
        have hyr := HRG.out (k - 1) (by omega)
        rw [← hy9] at hyr
        clear hy9
        refine jd ?_
        refine ja hD14 Tryd.underlying72 (by rfl) info_bt ?_
        refine jm (.slice (some ⟨b9, o9, none⟩) n7 c9) ?_
        refine jm (.int .i64 (k : Int)) ?_
        refine jv (.pointer (some ⟨b9, o9 + k * 2, none⟩)) (exec_ixv Tryd.underlying68 info_bt _ _ (by rfl) b9 (o9) n7 c9 k (by omega) (by rfl) (by rfl) rfl) ?_
        refine jg (.agg #[.int .i64 x.1, .int .i64 x.2]) (fun X hX hF => exec_ldc 72 _ (by rfl) b9 (o9 + k * 2) (by rfl) Tryd.underlying72 rfl [.int .i64 x.1, .int .i64 x.2] X (Cl.part (hcz.below hX hbc) 0 _ (by rfl)) info_bt) ?_
        refine jv (.bool false) (exec_neb _ _ (by rfl) x x (by rfl) (by rfl) false (decide_eq_false (fun h9 => h9 rfl))) ?_
        refine jm (.bool false) ?_
        refine jn (.pointer (some ⟨g14, 0, none⟩)) ?_
        refine jf (.int .i64 x.1) hD14 0 load_int ?_
        refine jn (.pointer (some ⟨g14, 1, none⟩)) ?_
        refine jf (.int .i64 x.2) hD14 1 load_int ?_
        refine jv (.bool false) (exec_gtr _ _ _ _ (by rfl) .i64 x.1 x.2 (by rfl) (by rfl) false (decide_eq_false (by omega))) ?_
        refine jm (.bool false) ?_
        refine jm (.bool false) ?_
        refine jn (.pointer (some ⟨g14, 0, none⟩)) ?_
        refine jf (.int .i64 x.1) hD14 0 load_int ?_
        refine jv (.bool false) (exec_lss _ _ _ _ (by rfl) .i64 x.1 (-1000) (by rfl) (by rfl) false (decide_eq_false (by omega))) ?_
        refine jm (.bool false) ?_
        refine jm (.bool false) ?_
        refine jn (.pointer (some ⟨g14, 1, none⟩)) ?_
        refine jf (.int .i64 x.2) hD14 1 load_int ?_
        refine jv (.bool false) (exec_gtr _ _ _ _ (by rfl) .i64 x.2 2000 (by rfl) (by rfl) false (decide_eq_false (by omega))) ?_
        refine jm (.bool false) ?_
        refine jm (.bool false) ?_
        refine jm (.int .i64 (k : Int)) ?_
        refine jv (.bool true) (exec_gtr _ _ _ _ (by rfl) .i64 (k : Int) 0 (by rfl) (by rfl) true (decide_eq_true (by omega))) ?_
        refine jm (.bool true) ?_
        refine jn (.pointer (some ⟨g14, 0, none⟩)) ?_
        refine jf (.int .i64 x.1) hD14 0 load_int ?_
        refine jm (.slice (some ⟨b7, o7, none⟩) n7 c7) ?_
        refine jm (.int .i64 (k : Int)) ?_
        refine jv (.int .i64 ((k - 1 : Nat) : Int)) (exec_sub _ _ _ _ (by rfl) (k : Int) 1 ((k - 1 : Nat) : Int) (by rfl) (by rfl) (by omega) (by omega) (by omega)) ?_
        refine jv (.pointer (some ⟨b7, o7 + (k - 1) * 2, none⟩)) (exec_ixv Tryd.underlying68 info_bt _ _ (by rfl) b7 (o7) n7 c7 (k - 1) (by omega) (by rfl) (by rfl) rfl) ?_
        refine jn (.pointer (some ⟨b7, o7 + (k - 1) * 2 + 1, none⟩)) ?_
        refine jg (.int .i64 y.2) (fun X hX hF => exec_ld 3 _ (by rfl) b7 (o7 + (k - 1) * 2 + 1) (by rfl) _ X ((hcy.below hX hbd) 1 _ rfl) (fun X u h => load_int b7 (o7 + (k - 1) * 2 + 1) X u h)) ?_
        refine jv (.int .i64 (y.2 + 1)) (exec_add _ _ _ _ (by rfl) y.2 1 (y.2 + 1) (by rfl) (by rfl) (by omega) (by omega) (by omega)) ?_
        refine jv (.bool false) (exec_leq _ _ _ _ (by rfl) .i64 x.1 (y.2 + 1) (by rfl) (by rfl) false (decide_eq_false (by omega))) ?_
        refine jm (.bool false) ?_
        refine jm (.bool false) ?_
        refine jz fun X3 hX3 => ?_
        have hr7 := hr7.below hX3
        have hr9 := hr9.below hX3
        have hB0 := hB0.bel hX3
        have hB1 := hB1.bel hX3
        have hD14 := hD14.bel hX3
        have hcx := hcx.below hX3 hbb
        have hcz := hcz.below hX3 hbc
        have hcy := hcy.below hX3 hbd
        replace hbb := Nat.lt_of_lt_of_le hbb (hX3).size
        replace hbc := Nat.lt_of_lt_of_le hbc (hX3).size
        replace hbd := Nat.lt_of_lt_of_le hbd (hX3).size
        have hb := bel_next hb hX3
        clear hX3
        rcases ib with _ | _
        · rcases Int.lt_or_le s x.1 with hq1 | hq1
          · have HN : Hid (ins D s (k + 1) = false) := by show _ = _; rw [HIN.out, decide_eq_false (show ¬ x.1 ≤ s by omega)]; rfl
            go_upto_region 14 with (fail)
            refine jp ?_
            refine jm (.bool false) ?_
            refine jm (.bool false) ?_
            refine jn (.pointer (some ⟨g14, 0, none⟩)) ?_
            refine jf (.int .i64 x.1) hD14 0 load_int ?_
            refine jm (.int .i64 s) ?_
            refine jv (.bool false) (exec_leq _ _ _ _ (by rfl) .i64 x.1 s (by rfl) (by rfl) false (decide_eq_false (by omega))) ?_
            refine jm (.bool false) ?_
            refine js ?_
            refine js ?_
            refine js ?_
            refine js ?_
            refine jm (.bool false) ?_
            refine jm (.bool false) ?_
            refine jm (.bool false) ?_
            refine jz fun X4 hX4 => ?_
            have hr7 := hr7.below hX4
            have hr9 := hr9.below hX4
            have hB0 := hB0.bel hX4
            have hB1 := hB1.bel hX4
            have hD14 := hD14.bel hX4
            have hb := bel_next hb hX4
            clear hX4
            go_upto_region 15 with (fail)
            refine jp ?_
            refine jv (.int .i64 ((k + 1 : Nat) : Int)) (exec_add _ _ _ _ (by rfl) (k : Int) 1 ((k + 1 : Nat) : Int) (by rfl) (by rfl) (by omega) (by omega) (by omega)) ?_
            refine jm (.int .i64 ((k + 1 : Nat) : Int)) ?_
            refine jz fun X5 hX5 => ?_
            have hr7 := hr7.below hX5
            have hr9 := hr9.below hX5
            have hB0 := hB0.bel hX5
            have hB1 := hB1.bel hX5
            have hD14 := hD14.bel hX5
            have hb := bel_next hb hX5
            clear hX5
            go_wp2
            go_roundw
            case rel => exact ⟨k + 1, false, by omega, rfl, rfl, HN, hB0, hB1, hr7, hr9, hb⟩
            case measure => simp [intOf]; omega
          · rcases Int.lt_or_le x.2 s with hq2 | hq2
            · have HN : Hid (ins D s (k + 1) = false) := by show _ = _; rw [HIN.out, decide_eq_true hq1, decide_eq_false (show ¬ s ≤ x.2 by omega)]; rfl
              go_upto_region 14 with (fail)
              refine jp ?_
              refine jm (.bool false) ?_
              refine jm (.bool false) ?_
              refine jn (.pointer (some ⟨g14, 0, none⟩)) ?_
              refine jf (.int .i64 x.1) hD14 0 load_int ?_
              refine jm (.int .i64 s) ?_
              refine jv (.bool true) (exec_leq _ _ _ _ (by rfl) .i64 x.1 s (by rfl) (by rfl) true (decide_eq_true (by omega))) ?_
              refine jm (.bool true) ?_
              refine jm (.int .i64 s) ?_
              refine jn (.pointer (some ⟨g14, 1, none⟩)) ?_
              refine jf (.int .i64 x.2) hD14 1 load_int ?_
              refine jv (.bool false) (exec_leq _ _ _ _ (by rfl) .i64 s x.2 (by rfl) (by rfl) false (decide_eq_false (by omega))) ?_
              refine jm (.bool false) ?_
              refine jm (.bool false) ?_
              refine jm (.bool false) ?_
              refine jz fun X4 hX4 => ?_
              have hr7 := hr7.below hX4
              have hr9 := hr9.below hX4
              have hB0 := hB0.bel hX4
              have hB1 := hB1.bel hX4
              have hD14 := hD14.bel hX4
              have hb := bel_next hb hX4
              clear hX4
              go_upto_region 15 with (fail)
              refine jp ?_
              refine jv (.int .i64 ((k + 1 : Nat) : Int)) (exec_add _ _ _ _ (by rfl) (k : Int) 1 ((k + 1 : Nat) : Int) (by rfl) (by rfl) (by omega) (by omega) (by omega)) ?_
              refine jm (.int .i64 ((k + 1 : Nat) : Int)) ?_
              refine jz fun X5 hX5 => ?_
              have hr7 := hr7.below hX5
              have hr9 := hr9.below hX5
              have hB0 := hB0.bel hX5
              have hB1 := hB1.bel hX5
              have hD14 := hD14.bel hX5
              have hb := bel_next hb hX5
              clear hX5
              go_wp2
              go_roundw
              case rel => exact ⟨k + 1, false, by omega, rfl, rfl, HN, hB0, hB1, hr7, hr9, hb⟩
              case measure => simp [intOf]; omega
            · have HN : Hid (ins D s (k + 1) = true) := by show _ = _; rw [HIN.out, decide_eq_true hq1, decide_eq_true hq2]; rfl
              go_upto_region 14 with (fail)
              refine jp ?_
              refine jm (.bool false) ?_
              refine jm (.bool false) ?_
              refine jn (.pointer (some ⟨g14, 0, none⟩)) ?_
              refine jf (.int .i64 x.1) hD14 0 load_int ?_
              refine jm (.int .i64 s) ?_
              refine jv (.bool true) (exec_leq _ _ _ _ (by rfl) .i64 x.1 s (by rfl) (by rfl) true (decide_eq_true (by omega))) ?_
              refine jm (.bool true) ?_
              refine jm (.int .i64 s) ?_
              refine jn (.pointer (some ⟨g14, 1, none⟩)) ?_
              refine jf (.int .i64 x.2) hD14 1 load_int ?_
              refine jv (.bool true) (exec_leq _ _ _ _ (by rfl) .i64 s x.2 (by rfl) (by rfl) true (decide_eq_true (by omega))) ?_
              refine jm (.bool true) ?_
              refine jm (.bool true) ?_
              refine jm (.bool true) ?_
              refine jz fun X4 hX4 => ?_
              have hr7 := hr7.below hX4
              have hr9 := hr9.below hX4
              have hB0 := hB0.bel hX4
              have hB1 := hB1.bel hX4
              have hD14 := hD14.bel hX4
              have hb := bel_next hb hX4
              clear hX4
              go_upto_region 15 with (fail)
              refine jp ?_
              refine jv (.int .i64 ((k + 1 : Nat) : Int)) (exec_add _ _ _ _ (by rfl) (k : Int) 1 ((k + 1 : Nat) : Int) (by rfl) (by rfl) (by omega) (by omega) (by omega)) ?_
              refine jm (.int .i64 ((k + 1 : Nat) : Int)) ?_
              refine jz fun X5 hX5 => ?_
              have hr7 := hr7.below hX5
              have hr9 := hr9.below hX5
              have hB0 := hB0.bel hX5
              have hB1 := hB1.bel hX5
              have hD14 := hD14.bel hX5
              have hb := bel_next hb hX5
              clear hX5
              go_wp2
              go_roundw
              case rel => exact ⟨k + 1, true, by omega, rfl, rfl, HN, hB0, hB1, hr7, hr9, hb⟩
              case measure => simp [intOf]; omega
        · have HN : Hid (ins D s (k + 1) = true) := by show _ = _; rw [HIN.out]; rfl
          go_upto_region 14 with (fail)
          refine jp ?_
          refine jm (.bool true) ?_
          refine jm (.bool true) ?_
          refine js ?_
          refine js ?_
          refine js ?_
          refine js ?_
          refine js ?_
          refine js ?_
          refine js ?_
          refine js ?_
          refine js ?_
          refine js ?_
          refine jm (.bool true) ?_
          refine jm (.bool true) ?_
          refine jz fun X4 hX4 => ?_
          have hr7 := hr7.below hX4
          have hr9 := hr9.below hX4
          have hB0 := hB0.bel hX4
          have hB1 := hB1.bel hX4
          have hD14 := hD14.bel hX4
          have hb := bel_next hb hX4
          clear hX4
          go_upto_region 15 with (fail)
          refine jp ?_
          refine jv (.int .i64 ((k + 1 : Nat) : Int)) (exec_add _ _ _ _ (by rfl) (k : Int) 1 ((k + 1 : Nat) : Int) (by rfl) (by rfl) (by omega) (by omega) (by omega)) ?_
          refine jm (.int .i64 ((k + 1 : Nat) : Int)) ?_
          refine jz fun X5 hX5 => ?_
          have hr7 := hr7.below hX5
          have hr9 := hr9.below hX5
          have hB0 := hB0.bel hX5
          have hB1 := hB1.bel hX5
          have hD14 := hD14.bel hX5
          have hb := bel_next hb hX5
          clear hX5
          go_wp2
          go_roundw
          case rel => exact ⟨k + 1, true, by omega, rfl, rfl, HN, hB0, hB1, hr7, hr9, hb⟩
          case measure => simp [intOf]; omega
    · obtain rfl : k = n7 := by omega
      have hia := HIA.out
      rw [HL7.out, HI.out] at hia
      go_upto_region 10 with (fail)
      refine jp ?_
      refine jv (.bool false) (exec_lss _ _ _ _ (by rfl) .i64 (k : Int) (k : Int) (by rfl) (by rfl) false (decide_eq_false (by omega))) ?_
      refine jz fun X1 hX1 => ?_
      have hr7 := hr7.below hX1
      have hr9 := hr9.below hX1
      have hB0 := hB0.bel hX1
      have hB1 := hB1.bel hX1
      have hb := bel_next hb hX1
      clear hX1
      by_cases hq : fa = fb
      · rw [decide_eq_false (fun h9 => h9 hq)] at hia
        subst hia
        have HQ := Lib.hid hq
        clear hq
        go_upto_region 16 with (fail)
        refine jd ?_
        refine jc (.bool true) (fun X hX hF => sanityC X) ?_
        refine jm (.bool true) ?_
        refine jm (.bool false) ?_
        refine ja hB0 Tryd.underlying48 (by rfl) info_cv ?_
        refine jm (.int .i64 s) ?_
        refine jc (rt (rN fa) (rP fa) (rD fa)) (fun X hX hF => mo (flowC (some ⟨b, off, none⟩) n c l s X (HRX.out X (hb.trans (Below.mono hX hb.size))) hln hn1 hf) (by rw [HFA.out])) ?_
        refine ja hB1 Tryd.underlying48 (by rfl) info_cv ?_
        refine jm (.int .i64 s) ?_
        refine jc (rt (rN fb) (rP fb) (rD fb)) (fun X hX hF => mo (flowC (some ⟨b2, off2, none⟩) n' c' m s X (HRY.out X (hb.trans (Below.mono hX hb.size))) hlm hn2 hf') (by rw [HFB.out])) ?_
        refine jv (.bool false) (exec_ner _ _ (by rfl) (rN fa) (rP fa) (rD fa) (rN fb) (rP fb) (rD fb) (by rfl) (by rfl) false (rb_eqt HQ.out)) ?_
        refine jm (.bool true) ?_
        refine jm (.bool true) ?_
        refine jm (.bool true) ?_
        refine jz fun X2 hX2 => ?_
        have hr7 := hr7.below hX2
        have hr9 := hr9.below hX2
        have hB0 := hB0.bel hX2
        have hB1 := hB1.bel hX2
        have hb := bel_next hb hX2
        clear hX2
        go_wp2
        go_ret
        exact ⟨rfl, hb⟩
      · rw [decide_eq_true hq] at hia
        subst hia
        have HQ : Hid (fa ≠ fb) := hq
        clear hq
        go_upto_region 16 with (fail)
        refine jd ?_
        refine jc (.bool true) (fun X hX hF => sanityC X) ?_
        refine jm (.bool true) ?_
        refine jm (.bool true) ?_
        refine ja hB0 Tryd.underlying48 (by rfl) info_cv ?_
        refine jm (.int .i64 s) ?_
        refine jc (rt (rN fa) (rP fa) (rD fa)) (fun X hX hF => mo (flowC (some ⟨b, off, none⟩) n c l s X (HRX.out X (hb.trans (Below.mono hX hb.size))) hln hn1 hf) (by rw [HFA.out])) ?_
        refine ja hB1 Tryd.underlying48 (by rfl) info_cv ?_
        refine jm (.int .i64 s) ?_
        refine jc (rt (rN fb) (rP fb) (rD fb)) (fun X hX hF => mo (flowC (some ⟨b2, off2, none⟩) n' c' m s X (HRY.out X (hb.trans (Below.mono hX hb.size))) hlm hn2 hf') (by rw [HFB.out])) ?_
        refine jv (.bool true) (exec_ner _ _ (by rfl) (rN fa) (rP fa) (rD fa) (rN fb) (rP fb) (rD fb) (by rfl) (by rfl) true (rb_eqf HQ.out)) ?_
        refine jm (.bool true) ?_
        refine jm (.bool true) ?_
        refine jm (.bool true) ?_
        refine jz fun X2 hX2 => ?_
        have hr7 := hr7.below hX2
        have hr9 := hr9.below hX2
        have hB0 := hB0.bel hX2
        have hB1 := hB1.bel hX2
        have hb := bel_next hb hX2
        clear hX2
        go_wp2
        go_ret
        exact ⟨rfl, hb⟩
theorem diffW (w : World) (A : Option Addr) (n c : Nat) (l : List Pt) (hr : Rd w 4 (.slice A n c) n (fl ptc l)) (hln : l.length = n) (hn1 : n ≤ 9223372036854775807) (A' : Option Addr) (n' c' : Nat) (m : List Pt) (hr' : Rd w 4 (.slice A' n' c') n' (fl ptc m)) (hlm : m.length = n') (hn2 : n' ≤ 9223372036854775807) (a : Int) (a0 : 0 ≤ a) (a1 : a ≤ 65535) : Calls Tryd.prog 10 #[.agg #[.slice A n c], .agg #[.slice A' n' c'], .int .u16 a] w fun e w' => e = .returned (.bool true) ∧ Since w w' := by
  rcases h0 : fewB l 8 with _ | _
  · exact diff0 w A n c l hr hln hn1 A' n' c' m hr' hlm hn2 a a0 a1 h0
  · rcases g0 : fewB m 8 with _ | _
    · exact diff1 w A n c l hr hln hn1 A' n' c' m hr' hlm hn2 a a0 a1 h0 g0
    · have hf : fewP l 1000 := (fewB_of h0).2.mono
      have hf' : fewP m 1000 := (fewB_of g0).2.mono
      by_cases hc : ck l = 0
      · by_cases hc2 : ck m = 0
        · obtain ⟨b, off, rfl⟩ := some_addr hr hln hc
          obtain ⟨b2, off2, rfl⟩ := some_addr hr' hlm hc2
          have e1 := Int.emod_nonneg a (show (3001 : Int) ≠ 0 by omega)
          have e2 := Int.emod_lt_of_pos a (show (0 : Int) < 3001 by omega)
          obtain ⟨kk, hkk⟩ : ∃ k : Nat, (k : Int) = a % 3001 := ⟨(a % 3001).toNat, by omega⟩
          have hd1 : dfE l m = 0 ∧ dfL l m = dfl (l.map kp) (m.map kp) 3001 := ⟨(if_neg (fun h9 => h9 hc)).trans hc2, if_pos ⟨hc, hc2⟩⟩
          have hd2 : dfE m l = 0 ∧ dfL m l = dfl (l.map kp) (m.map kp) 3001 := ⟨(if_neg (fun h9 => h9 hc2)).trans hc, (if_pos ⟨hc2, hc⟩).trans (dfl_sym _ _ _)⟩
          have hfl : flowC0 l (-1000 + (kk : Int)) = flowAt (l.map kp) (-1000 + (kk : Int)) := if_pos hc
          have hfm : flowC0 m (-1000 + (kk : Int)) = flowAt (m.map kp) (-1000 + (kk : Int)) := if_pos hc2
          exact diffM w b off n c l hr hln hn1 b2 off2 n' c' m hr' hlm hn2 a a0 a1 h0 g0 hf hf' hc hc2 _ hd1 hd2 kk hkk (by omega) _ rfl _ _ (flow0_sz hf _) (flow0_sz hf' _) rfl rfl (by show _ = _; rw [hfl, hfm]; exact ins_all (by omega) (by omega)) (fun k hk => bt_rng hk) (fun k hk h0 => bt_asc hk h0)
        · exact diff3 w A n c l hr hln hn1 A' n' c' m hr' hlm hn2 a a0 a1 h0 g0 hf hf' hc hc2
      · exact diff2 w A n c l hr hln hn1 A' n' c' m hr' hlm hn2 a a0 a1 h0 g0 hf hc
end Go.Proofs.YtchhlgcakjjncaaDoor
