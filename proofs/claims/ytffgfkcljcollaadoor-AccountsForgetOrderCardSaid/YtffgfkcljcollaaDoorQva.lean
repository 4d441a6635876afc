/-
  rat: Valid, of.
-/
import Derived.Test.YtffgfkcljcollaaDoorRw
import Derived.Test.YtffgfkcljcollaaDoorMF
set_option linter.unusedSimpArgs false
set_option linter.unusedVariables false
set_option maxRecDepth 100000
set_option maxHeartbeats 1600000
namespace Go.Proofs.YtffgfkcljcollaaDoor
open Go.RowKit
theorem eqm_rat : Tryd.prog.eqGuardType Tryd.prog.depth 30 = false := by kernel_rfl
theorem valid0 (n : Bool) (p q : List UInt8) (w : World) (hp : p.length ≤ 4194300) (hq : q.length ≤ 4194300) (h : (n == false && p == [] && q == []) = true) : Calls Tryd.prog 38 #[.agg #[.bool n, .string ⟨p.toArray⟩, .string ⟨q.toArray⟩]] w fun e w' => e = .returned (.bool (vd n p q)) ∧ Since w w' := by
 have HE := Lib.hid h
 have HV : Hid (vd n p q = true) := by
  show _ = _
  simp only [Bool.and_eq_true, beq_iff_eq] at h;obtain ⟨⟨rfl, rfl⟩, rfl⟩ := h
  rfl
 clear h
 go_enter Tryd.func38, Tryd.ntmps38
 go_upto_region 1 with fail;obtain ⟨W0, hW0, hB0, hb⟩ := start1 w 30 [.bool n, .string ⟨p.toArray⟩, .string ⟨q.toArray⟩];rw [← hW0];clear hW0;refine jp ?_;refine ja hB0 Tryd.underlying30 (by rfl) info_rat ?_;refine jn (rz) ?_;refine jv (.bool true) (fun X => exec_cmp_agg .eql 30 _ (.tmp 3) (.tmp 4) (by rfl) _ _ (by rfl) (by rfl) eqm_rat _ X ((run_eq_rat X n false p q [] []).trans (by rw [HE.out]))) ?_;refine jzb hb fun X1 hX1 hb => ?_;have hB0 := hB0.bel hX1;clear hX1
 go_wp2
 go_ret
 exact ⟨by rw [HV.out]; rfl, hb⟩
theorem valid1 (n : Bool) (p q : List UInt8) (w : World) (hp : p.length ≤ 4194300) (hq : q.length ≤ 4194300) (h : (n == false && p == [] && q == []) = false) (hp0 : p = []) : Calls Tryd.prog 38 #[.agg #[.bool n, .string ⟨p.toArray⟩, .string ⟨q.toArray⟩]] w fun e w' => e = .returned (.bool (vd n p q)) ∧ Since w w' := by
 have HE := Lib.hid h;have HP0 : Hid (p = []) := hp0
 have HV : Hid (vd n p q = false) := by
  show _ = _
  unfold vd
  rw [if_pos (.inl hp0)]
  cases n <;> simp_all
 clear h hp0
 go_enter Tryd.func38, Tryd.ntmps38
 go_upto_region 1 with fail;obtain ⟨W0, hW0, hB0, hb⟩ := start1 w 30 [.bool n, .string ⟨p.toArray⟩, .string ⟨q.toArray⟩];rw [← hW0];clear hW0;refine jp ?_;refine ja hB0 Tryd.underlying30 (by rfl) info_rat ?_;refine jn (rz) ?_;refine jv (.bool false) (fun X => exec_cmp_agg .eql 30 _ (.tmp 3) (.tmp 4) (by rfl) _ _ (by rfl) (by rfl) eqm_rat _ X ((run_eq_rat X n false p q [] []).trans (by rw [HE.out]))) ?_;refine jzb hb fun X1 hX1 hb => ?_;have hB0 := hB0.bel hX1;clear hX1;go_upto_region 3 with fail;refine jp ?_;refine jn (.pointer (some ⟨w.heap.size, 1, none⟩)) ?_;refine jf (st p) hB0 1 load_str ?_;refine jv (.bool false) (exec_nesB _ _ _ _ (by rfl) p ([] : List UInt8) (by rfl) (by rfl) false (nes_f HP0.out)) ?_;refine jm (.bool false) ?_;refine js ?_;refine js ?_;refine js ?_;refine jm (.bool false) ?_;refine jm (.bool false) ?_;refine js ?_;refine js ?_;refine js ?_;refine jm (.bool false) ?_;refine jm (.bool false) ?_;refine js ?_;refine js ?_;refine js ?_;refine jm (.bool false) ?_;refine jm (.bool false) ?_;refine js ?_;refine js ?_;refine js ?_;refine js ?_;refine js ?_;refine js ?_;refine jm (.bool false) ?_;refine jm (.bool false) ?_;refine jzb hb fun X2 hX2 hb => ?_;have hB0 := hB0.bel hX2;clear hX2
 go_wp2
 go_ret
 exact ⟨by rw [HV.out]; rfl, hb⟩
theorem valid2 (n : Bool) (p q : List UInt8) (w : World) (hp : p.length ≤ 4194300) (hq : q.length ≤ 4194300) (hp0 : p ≠ []) (hq0 : q = []) : Calls Tryd.prog 38 #[.agg #[.bool n, .string ⟨p.toArray⟩, .string ⟨q.toArray⟩]] w fun e w' => e = .returned (.bool (vd n p q)) ∧ Since w w' := by
 have HE : Hid ((n == false && p == [] && q == []) = false) := by show _ = _; rw [eqs_f hp0]; simp
 have HPN : Hid (p ≠ []) := hp0;have HQ0 : Hid (q = []) := hq0
 have HV : Hid (vd n p q = false) := by
  show _ = _
  unfold vd
  rw [if_pos (.inr hq0), eqs_f hp0]
  simp
 clear hp0 hq0
 go_enter Tryd.func38, Tryd.ntmps38
 go_upto_region 1 with fail;obtain ⟨W0, hW0, hB0, hb⟩ := start1 w 30 [.bool n, .string ⟨p.toArray⟩, .string ⟨q.toArray⟩];rw [← hW0];clear hW0;refine jp ?_;refine ja hB0 Tryd.underlying30 (by rfl) info_rat ?_;refine jn (rz) ?_;refine jv (.bool false) (fun X => exec_cmp_agg .eql 30 _ (.tmp 3) (.tmp 4) (by rfl) _ _ (by rfl) (by rfl) eqm_rat _ X ((run_eq_rat X n false p q [] []).trans (by rw [HE.out]))) ?_;refine jzb hb fun X1 hX1 hb => ?_;have hB0 := hB0.bel hX1;clear hX1;go_upto_region 3 with fail;refine jp ?_;refine jn (.pointer (some ⟨w.heap.size, 1, none⟩)) ?_;refine jf (st p) hB0 1 load_str ?_;refine jv (.bool true) (exec_nesB _ _ _ _ (by rfl) p ([] : List UInt8) (by rfl) (by rfl) true (nes_t HPN.out)) ?_;refine jm (.bool true) ?_;refine jn (.pointer (some ⟨w.heap.size, 2, none⟩)) ?_;refine jf (st q) hB0 2 load_str ?_;refine jv (.bool false) (exec_nesB _ _ _ _ (by rfl) q ([] : List UInt8) (by rfl) (by rfl) false (nes_f HQ0.out)) ?_;refine jm (.bool false) ?_;refine jm (.bool false) ?_;refine js ?_;refine js ?_;refine js ?_;refine jm (.bool false) ?_;refine jm (.bool false) ?_;refine js ?_;refine js ?_;refine js ?_;refine jm (.bool false) ?_;refine jm (.bool false) ?_;refine js ?_;refine js ?_;refine js ?_;refine js ?_;refine js ?_;refine js ?_;refine jm (.bool false) ?_;refine jm (.bool false) ?_;refine jzb hb fun X2 hX2 hb => ?_;have hB0 := hB0.bel hX2;clear hX2
 go_wp2
 go_ret
 exact ⟨by rw [HV.out]; rfl, hb⟩
theorem valid3 (n : Bool) (p q : List UInt8) (w : World) (hp : p.length ≤ 4194300) (hq : q.length ≤ 4194300) (hp0 : p ≠ []) (hq0 : q ≠ []) (h1 : cn p = false) : Calls Tryd.prog 38 #[.agg #[.bool n, .string ⟨p.toArray⟩, .string ⟨q.toArray⟩]] w fun e w' => e = .returned (.bool (vd n p q)) ∧ Since w w' := by
 have HE : Hid ((n == false && p == [] && q == []) = false) := by show _ = _; rw [eqs_f hp0]; simp
 have HPN : Hid (p ≠ []) := hp0;have HQN : Hid (q ≠ []) := hq0;have HPC := Lib.hid h1
 have HV : Hid (vd n p q = false) := by
  show _ = _
  unfold vd
  rw [if_neg (by rintro (h9 | h9); exact hp0 h9; exact hq0 h9), h1]
  rfl
 clear hp0 hq0 h1
 go_enter Tryd.func38, Tryd.ntmps38
 go_upto_region 1 with fail;obtain ⟨W0, hW0, hB0, hb⟩ := start1 w 30 [.bool n, .string ⟨p.toArray⟩, .string ⟨q.toArray⟩];rw [← hW0];clear hW0;refine jp ?_;refine ja hB0 Tryd.underlying30 (by rfl) info_rat ?_;refine jn (rz) ?_;refine jv (.bool false) (fun X => exec_cmp_agg .eql 30 _ (.tmp 3) (.tmp 4) (by rfl) _ _ (by rfl) (by rfl) eqm_rat _ X ((run_eq_rat X n false p q [] []).trans (by rw [HE.out]))) ?_;refine jzb hb fun X1 hX1 hb => ?_;have hB0 := hB0.bel hX1;clear hX1;go_upto_region 3 with fail;refine jp ?_;refine jn (.pointer (some ⟨w.heap.size, 1, none⟩)) ?_;refine jf (st p) hB0 1 load_str ?_;refine jv (.bool true) (exec_nesB _ _ _ _ (by rfl) p ([] : List UInt8) (by rfl) (by rfl) true (nes_t HPN.out)) ?_;refine jm (.bool true) ?_;refine jn (.pointer (some ⟨w.heap.size, 2, none⟩)) ?_;refine jf (st q) hB0 2 load_str ?_;refine jv (.bool true) (exec_nesB _ _ _ _ (by rfl) q ([] : List UInt8) (by rfl) (by rfl) true (nes_t HQN.out)) ?_;refine jm (.bool true) ?_;refine jm (.bool true) ?_;refine jn (.pointer (some ⟨w.heap.size, 1, none⟩)) ?_;refine jf (st p) hB0 1 load_str ?_;refine jc (.bool false) (fun X hX hF => (validC p X).mono fun e X' ⟨h1, h2⟩ => ⟨by rw [h1, HPC.out], since_eq h2⟩) ?_;refine jm (.bool false) ?_;refine jm (.bool false) ?_;refine js ?_;refine js ?_;refine js ?_;refine jm (.bool false) ?_;refine jm (.bool false) ?_;refine js ?_;refine js ?_;refine js ?_;refine js ?_;refine js ?_;refine js ?_;refine jm (.bool false) ?_;refine jm (.bool false) ?_;refine jzb hb fun X2 hX2 hb => ?_
 have hB0 := hB0.bel hX2;clear hX2
 go_wp2
 go_ret
 exact ⟨by rw [HV.out]; rfl, hb⟩
theorem valid4 (n : Bool) (p q : List UInt8) (w : World) (hp : p.length ≤ 4194300) (hq : q.length ≤ 4194300) (hp0 : p ≠ []) (hq0 : q ≠ []) (h1 : cn p = true) (h2 : cn q = false) : Calls Tryd.prog 38 #[.agg #[.bool n, .string ⟨p.toArray⟩, .string ⟨q.toArray⟩]] w fun e w' => e = .returned (.bool (vd n p q)) ∧ Since w w' := by
 have HE : Hid ((n == false && p == [] && q == []) = false) := by show _ = _; rw [eqs_f hp0]; simp
 have HPN : Hid (p ≠ []) := hp0;have HQN : Hid (q ≠ []) := hq0;have HPC := Lib.hid h1;have HQC := Lib.hid h2
 have HV : Hid (vd n p q = false) := by
  show _ = _
  unfold vd
  rw [if_neg (by rintro (h9 | h9); exact hp0 h9; exact hq0 h9), h1, h2]
  rfl
 clear hp0 hq0 h1 h2
 go_enter Tryd.func38, Tryd.ntmps38
 go_upto_region 1 with fail;obtain ⟨W0, hW0, hB0, hb⟩ := start1 w 30 [.bool n, .string ⟨p.toArray⟩, .string ⟨q.toArray⟩];rw [← hW0];clear hW0;refine jp ?_;refine ja hB0 Tryd.underlying30 (by rfl) info_rat ?_;refine jn (rz) ?_;refine jv (.bool false) (fun X => exec_cmp_agg .eql 30 _ (.tmp 3) (.tmp 4) (by rfl) _ _ (by rfl) (by rfl) eqm_rat _ X ((run_eq_rat X n false p q [] []).trans (by rw [HE.out]))) ?_;refine jzb hb fun X1 hX1 hb => ?_;have hB0 := hB0.bel hX1;clear hX1;go_upto_region 3 with fail;refine jp ?_;refine jn (.pointer (some ⟨w.heap.size, 1, none⟩)) ?_;refine jf (st p) hB0 1 load_str ?_;refine jv (.bool true) (exec_nesB _ _ _ _ (by rfl) p ([] : List UInt8) (by rfl) (by rfl) true (nes_t HPN.out)) ?_;refine jm (.bool true) ?_;refine jn (.pointer (some ⟨w.heap.size, 2, none⟩)) ?_;refine jf (st q) hB0 2 load_str ?_;refine jv (.bool true) (exec_nesB _ _ _ _ (by rfl) q ([] : List UInt8) (by rfl) (by rfl) true (nes_t HQN.out)) ?_;refine jm (.bool true) ?_;refine jm (.bool true) ?_;refine jn (.pointer (some ⟨w.heap.size, 1, none⟩)) ?_;refine jf (st p) hB0 1 load_str ?_;refine jc (.bool true) (fun X hX hF => (validC p X).mono fun e X' ⟨h1, h2⟩ => ⟨by rw [h1, HPC.out], since_eq h2⟩) ?_;refine jm (.bool true) ?_;refine jm (.bool true) ?_;refine jn (.pointer (some ⟨w.heap.size, 2, none⟩)) ?_;refine jf (st q) hB0 2 load_str ?_;refine jc (.bool false) (fun X hX hF => (validC q X).mono fun e X' ⟨h1, h2⟩ => ⟨by rw [h1, HQC.out], since_eq h2⟩) ?_;refine jm (.bool false) ?_;refine jm (.bool false) ?_
 refine js ?_;refine js ?_;refine js ?_;refine js ?_;refine js ?_;refine js ?_;refine jm (.bool false) ?_;refine jm (.bool false) ?_;refine jzb hb fun X2 hX2 hb => ?_;have hB0 := hB0.bel hX2;clear hX2
 go_wp2
 go_ret
 exact ⟨by rw [HV.out]; rfl, hb⟩
theorem valid5 (n : Bool) (p q : List UInt8) (w : World) (hp : p.length ≤ 4194300) (hq : q.length ≤ 4194300) (hp0 : p ≠ []) (hq0 : q ≠ []) (h1 : cn p = true) (h2 : cn q = true) (h3 : Nat.gcd (val p) (val q) = 1) : Calls Tryd.prog 38 #[.agg #[.bool n, .string ⟨p.toArray⟩, .string ⟨q.toArray⟩]] w fun e w' => e = .returned (.bool (vd n p q)) ∧ Since w w' := by
 have HE : Hid ((n == false && p == [] && q == []) = false) := by show _ = _; rw [eqs_f hp0]; simp
 have HPN : Hid (p ≠ []) := hp0;have HQN : Hid (q ≠ []) := hq0;have HPC := Lib.hid h1;have HQC := Lib.hid h2
 have HG : Hid (be (Nat.gcd (val p) (val q)) = [1]) := by show _ = _; rw [h3, be_one]
 have HV : Hid (vd n p q = true) := by
  show _ = _
  unfold vd
  rw [if_neg (by rintro (h9 | h9); exact hp0 h9; exact hq0 h9), h1, h2];rw [h3]; rfl
 clear hp0 hq0 h1 h2 h3
 go_enter Tryd.func38, Tryd.ntmps38
 go_upto_region 1 with fail;obtain ⟨W0, hW0, hB0, hb⟩ := start1 w 30 [.bool n, .string ⟨p.toArray⟩, .string ⟨q.toArray⟩];rw [← hW0];clear hW0;refine jp ?_;refine ja hB0 Tryd.underlying30 (by rfl) info_rat ?_;refine jn (rz) ?_;refine jv (.bool false) (fun X => exec_cmp_agg .eql 30 _ (.tmp 3) (.tmp 4) (by rfl) _ _ (by rfl) (by rfl) eqm_rat _ X ((run_eq_rat X n false p q [] []).trans (by rw [HE.out]))) ?_;refine jzb hb fun X1 hX1 hb => ?_;have hB0 := hB0.bel hX1;clear hX1;go_upto_region 3 with fail;refine jp ?_;refine jn (.pointer (some ⟨w.heap.size, 1, none⟩)) ?_;refine jf (st p) hB0 1 load_str ?_;refine jv (.bool true) (exec_nesB _ _ _ _ (by rfl) p ([] : List UInt8) (by rfl) (by rfl) true (nes_t HPN.out)) ?_;refine jm (.bool true) ?_;refine jn (.pointer (some ⟨w.heap.size, 2, none⟩)) ?_;refine jf (st q) hB0 2 load_str ?_;refine jv (.bool true) (exec_nesB _ _ _ _ (by rfl) q ([] : List UInt8) (by rfl) (by rfl) true (nes_t HQN.out)) ?_;refine jm (.bool true) ?_;refine jm (.bool true) ?_;refine jn (.pointer (some ⟨w.heap.size, 1, none⟩)) ?_;refine jf (st p) hB0 1 load_str ?_;refine jc (.bool true) (fun X hX hF => (validC p X).mono fun e X' ⟨h1, h2⟩ => ⟨by rw [h1, HPC.out], since_eq h2⟩) ?_;refine jm (.bool true) ?_;refine jm (.bool true) ?_;refine jn (.pointer (some ⟨w.heap.size, 2, none⟩)) ?_;refine jf (st q) hB0 2 load_str ?_;refine jc (.bool true) (fun X hX hF => (validC q X).mono fun e X' ⟨h1, h2⟩ => ⟨by rw [h1, HQC.out], since_eq h2⟩) ?_;refine jm (.bool true) ?_;refine jm (.bool true) ?_
 refine jn (.pointer (some ⟨w.heap.size, 1, none⟩)) ?_;refine jf (st p) hB0 1 load_str ?_;refine jn (.pointer (some ⟨w.heap.size, 2, none⟩)) ?_;refine jf (st q) hB0 2 load_str ?_;refine jc (st (be (Nat.gcd (val p) (val q)))) (fun X hX hF => ngcdC p q X (by omega) (by omega)) ?_;refine jv (.bool true) (exec_eqsB _ _ _ _ (by rfl) (be (Nat.gcd (val p) (val q))) ([1] : List UInt8) (by rfl) (by rfl) true (eqs_t HG.out)) ?_;refine jm (.bool true) ?_;refine jm (.bool true) ?_;refine jzb hb fun X2 hX2 hb => ?_;have hB0 := hB0.bel hX2;clear hX2
 go_wp2
 go_ret
 exact ⟨by rw [HV.out]; rfl, hb⟩
theorem valid6 (n : Bool) (p q : List UInt8) (w : World) (hp : p.length ≤ 4194300) (hq : q.length ≤ 4194300) (hp0 : p ≠ []) (hq0 : q ≠ []) (h1 : cn p = true) (h2 : cn q = true) (h3 : ¬ Nat.gcd (val p) (val q) = 1) : Calls Tryd.prog 38 #[.agg #[.bool n, .string ⟨p.toArray⟩, .string ⟨q.toArray⟩]] w fun e w' => e = .returned (.bool (vd n p q)) ∧ Since w w' := by
 have HE : Hid ((n == false && p == [] && q == []) = false) := by show _ = _; rw [eqs_f hp0]; simp
 have HPN : Hid (p ≠ []) := hp0;have HQN : Hid (q ≠ []) := hq0;have HPC := Lib.hid h1;have HQC := Lib.hid h2
 have HG : Hid (be (Nat.gcd (val p) (val q)) ≠ [1]) := fun h9 => h3 (be_inj (h9.trans be_one.symm))
 have HV : Hid (vd n p q = false) := by
  show _ = _
  unfold vd
  rw [if_neg (by rintro (h9 | h9); exact hp0 h9; exact hq0 h9), h1, h2]
  simp [h3]
 clear hp0 hq0 h1 h2 h3
 go_enter Tryd.func38, Tryd.ntmps38
 go_upto_region 1 with fail;obtain ⟨W0, hW0, hB0, hb⟩ := start1 w 30 [.bool n, .string ⟨p.toArray⟩, .string ⟨q.toArray⟩];rw [← hW0];clear hW0;refine jp ?_;refine ja hB0 Tryd.underlying30 (by rfl) info_rat ?_;refine jn (rz) ?_;refine jv (.bool false) (fun X => exec_cmp_agg .eql 30 _ (.tmp 3) (.tmp 4) (by rfl) _ _ (by rfl) (by rfl) eqm_rat _ X ((run_eq_rat X n false p q [] []).trans (by rw [HE.out]))) ?_;refine jzb hb fun X1 hX1 hb => ?_;have hB0 := hB0.bel hX1;clear hX1;go_upto_region 3 with fail;refine jp ?_;refine jn (.pointer (some ⟨w.heap.size, 1, none⟩)) ?_;refine jf (st p) hB0 1 load_str ?_;refine jv (.bool true) (exec_nesB _ _ _ _ (by rfl) p ([] : List UInt8) (by rfl) (by rfl) true (nes_t HPN.out)) ?_;refine jm (.bool true) ?_;refine jn (.pointer (some ⟨w.heap.size, 2, none⟩)) ?_;refine jf (st q) hB0 2 load_str ?_;refine jv (.bool true) (exec_nesB _ _ _ _ (by rfl) q ([] : List UInt8) (by rfl) (by rfl) true (nes_t HQN.out)) ?_;refine jm (.bool true) ?_;refine jm (.bool true) ?_;refine jn (.pointer (some ⟨w.heap.size, 1, none⟩)) ?_;refine jf (st p) hB0 1 load_str ?_;refine jc (.bool true) (fun X hX hF => (validC p X).mono fun e X' ⟨h1, h2⟩ => ⟨by rw [h1, HPC.out], since_eq h2⟩) ?_;refine jm (.bool true) ?_;refine jm (.bool true) ?_;refine jn (.pointer (some ⟨w.heap.size, 2, none⟩)) ?_;refine jf (st q) hB0 2 load_str ?_;refine jc (.bool true) (fun X hX hF => (validC q X).mono fun e X' ⟨h1, h2⟩ => ⟨by rw [h1, HQC.out], since_eq h2⟩) ?_;refine jm (.bool true) ?_;refine jm (.bool true) ?_
 refine jn (.pointer (some ⟨w.heap.size, 1, none⟩)) ?_;refine jf (st p) hB0 1 load_str ?_;refine jn (.pointer (some ⟨w.heap.size, 2, none⟩)) ?_;refine jf (st q) hB0 2 load_str ?_;refine jc (st (be (Nat.gcd (val p) (val q)))) (fun X hX hF => ngcdC p q X (by omega) (by omega)) ?_;refine jv (.bool false) (exec_eqsB _ _ _ _ (by rfl) (be (Nat.gcd (val p) (val q))) ([1] : List UInt8) (by rfl) (by rfl) false (eqs_f HG.out)) ?_;refine jm (.bool false) ?_;refine jm (.bool false) ?_;refine jzb hb fun X2 hX2 hb => ?_;have hB0 := hB0.bel hX2;clear hX2
 go_wp2
 go_ret
 exact ⟨by rw [HV.out]; rfl, hb⟩
theorem rvalidQ (n : Bool) (p q : List UInt8) (w : World) (hp : p.length ≤ 4194300) (hq : q.length ≤ 4194300) : Calls Tryd.prog 38 #[.agg #[.bool n, .string ⟨p.toArray⟩, .string ⟨q.toArray⟩]] w fun e w' => e = .returned (.bool (vd n p q)) ∧ Since w w' := by
 by_cases hp0 : p = []
 ·rcases h : (n == false && p == [] && q == []) with _ | _
  ·exact valid1 n p q w hp hq h hp0
  ·exact valid0 n p q w hp hq h
 ·by_cases hq0 : q = []
  ·exact valid2 n p q w hp hq hp0 hq0
  ·rcases h1 : cn p with _ | _
   ·exact valid3 n p q w hp hq hp0 hq0 h1
   ·rcases h2 : cn q with _ | _
    ·exact valid4 n p q w hp hq hp0 hq0 h1 h2
    ·by_cases h3 : Nat.gcd (val p) (val q) = 1
     ·exact valid5 n p q w hp hq hp0 hq0 h1 h2 h3
     ·exact valid6 n p q w hp hq hp0 hq0 h1 h2 h3
theorem of0 (n : Bool) (p q : List UInt8) (w : World) (hp : p.length ≤ 4194300) (hq : q.length ≤ 4194300) (h0 : p = []) : Calls Tryd.prog 34 #[.agg #[.bool n, .string ⟨p.toArray⟩, .string ⟨q.toArray⟩]] w fun e w' => e = .returned (.agg #[.bool (rN (rq n p q)), .string ⟨(be (rq n p q).num.natAbs).toArray⟩, .string ⟨(be (rq n p q).den).toArray⟩]) ∧ Since w w' := by
 have HP0 : Hid (p = []) := h0
 have HX : Hid (rq n p q = 0) := by
  show _ = _
  unfold rq
  split
  ·rename_i h
   unfold vd at h
   rw [if_pos (.inl h0)] at h;simp only [Bool.and_eq_true, Bool.not_eq_true', beq_iff_eq] at h;obtain ⟨⟨rfl, rfl⟩, rfl⟩ := h
   rfl
  ·rfl
 clear h0
 go_enter Tryd.func34, Tryd.ntmps34
 go_upto_region 1 with fail;obtain ⟨W0, hW0, hB0, hB1, hb⟩ := start2 w 30 77 [.bool n, .string ⟨p.toArray⟩, .string ⟨q.toArray⟩] [.bool false, .string ⟨#[]⟩, .string ⟨#[]⟩];rw [← hW0];clear hW0;refine jp ?_;refine jn (.pointer (some ⟨w.heap.size, 1, none⟩)) ?_;refine jf (st p) hB0 1 load_str ?_;refine jv (.bool true) (exec_eqsB _ _ _ _ (by rfl) p ([] : List UInt8) (by rfl) (by rfl) true (eqs_t HP0.out)) ?_;refine jm (.bool true) ?_;refine js ?_;refine js ?_;refine js ?_;refine jm (.bool true) ?_;refine jzb hb fun X1 hX1 hb => ?_;have hB0 := hB0.bel hX1;have hB1 := hB1.bel hX1;clear hX1;go_upto_region 2 with fail;refine jq 1 ?_;refine jn (rt false [] ([1] : List UInt8)) ?_;refine jzb hb fun X2 hX2 hb => ?_;have hB0 := hB0.bel hX2;have hB1 := hB1.bel hX2;clear hX2;refine osb 77 2 11 (w.heap.size + 1) 77 hB1 [.bool false, .string ⟨([] : List UInt8).toArray⟩, .string ⟨([1] : List UInt8).toArray⟩] info_fr ?_;intro w9 hR9 hO9 hB9 hs9;have hb9 := hB9 _ _ hb (by omega);clear hO9 hB9
 go_wp2
 refine post_cell rfl rfl (by rfl) Tryd.underlying77 rfl hR9 info_fr ⟨by rw [HX.out]; rfl, hb9⟩
theorem of1 (n : Bool) (p q : List UInt8) (w : World) (hp : p.length ≤ 4194300) (hq : q.length ≤ 4194300) (h0 : p ≠ []) (hv : vd n p q = false) : Calls Tryd.prog 34 #[.agg #[.bool n, .string ⟨p.toArray⟩, .string ⟨q.toArray⟩]] w fun e w' => e = .returned (.agg #[.bool (rN (rq n p q)), .string ⟨(be (rq n p q).num.natAbs).toArray⟩, .string ⟨(be (rq n p q).den).toArray⟩]) ∧ Since w w' := by
 have HP0 : Hid (p ≠ []) := h0;have HV := Lib.hid hv;have HX : Hid (rq n p q = 0) := vd_not hv;clear h0 hv
 go_enter Tryd.func34, Tryd.ntmps34
 go_upto_region 1 with fail;obtain ⟨W0, hW0, hB0, hB1, hb⟩ := start2 w 30 77 [.bool n, .string ⟨p.toArray⟩, .string ⟨q.toArray⟩] [.bool false, .string ⟨#[]⟩, .string ⟨#[]⟩];rw [← hW0];clear hW0;refine jp ?_;refine jn (.pointer (some ⟨w.heap.size, 1, none⟩)) ?_;refine jf (st p) hB0 1 load_str ?_;refine jv (.bool false) (exec_eqsB _ _ _ _ (by rfl) p ([] : List UInt8) (by rfl) (by rfl) false (eqs_f HP0.out)) ?_;refine jm (.bool false) ?_;refine ja hB0 Tryd.underlying30 (by rfl) info_rat ?_;refine jc (.bool false) (fun X hX hF => mo (rvalidQ n p q X hp hq) (by rw [HV.out])) ?_;refine jm (.bool true) ?_;refine jm (.bool true) ?_;refine jzb hb fun X1 hX1 hb => ?_;have hB0 := hB0.bel hX1;have hB1 := hB1.bel hX1;clear hX1;go_upto_region 2 with fail;refine jq 1 ?_;refine jn (rt false [] ([1] : List UInt8)) ?_;refine jzb hb fun X2 hX2 hb => ?_;have hB0 := hB0.bel hX2;have hB1 := hB1.bel hX2;clear hX2;refine osb 77 2 11 (w.heap.size + 1) 77 hB1 [.bool false, .string ⟨([] : List UInt8).toArray⟩, .string ⟨([1] : List UInt8).toArray⟩] info_fr ?_;intro w9 hR9 hO9 hB9 hs9;have hb9 := hB9 _ _ hb (by omega);clear hO9 hB9
 go_wp2
 refine post_cell rfl rfl (by rfl) Tryd.underlying77 rfl hR9 info_fr ⟨by rw [HX.out]; rfl, hb9⟩
theorem of2 (n : Bool) (p q : List UInt8) (w : World) (hp : p.length ≤ 4194300) (hq : q.length ≤ 4194300) (h0 : p ≠ []) (hv : vd n p q = true) : Calls Tryd.prog 34 #[.agg #[.bool n, .string ⟨p.toArray⟩, .string ⟨q.toArray⟩]] w fun e w' => e = .returned (.agg #[.bool (rN (rq n p q)), .string ⟨(be (rq n p q).num.natAbs).toArray⟩, .string ⟨(be (rq n p q).den).toArray⟩]) ∧ Since w w' := by
 have HP0 : Hid (p ≠ []) := h0;have HV := Lib.hid hv;have hvv := vd_eq hv;have HN := Lib.hid hvv.1;have HP1 : Hid (be (rq n p q).num.natAbs = p) := hvv.2.1;have HD1 : Hid (be (rq n p q).den = q) := hvv.2.2.2 h0;clear h0 hv hvv
 go_enter Tryd.func34, Tryd.ntmps34
 go_upto_region 1 with fail;obtain ⟨W0, hW0, hB0, hB1, hb⟩ := start2 w 30 77 [.bool n, .string ⟨p.toArray⟩, .string ⟨q.toArray⟩] [.bool false, .string ⟨#[]⟩, .string ⟨#[]⟩];rw [← hW0];clear hW0;refine jp ?_;refine jn (.pointer (some ⟨w.heap.size, 1, none⟩)) ?_;refine jf (st p) hB0 1 load_str ?_;refine jv (.bool false) (exec_eqsB _ _ _ _ (by rfl) p ([] : List UInt8) (by rfl) (by rfl) false (eqs_f HP0.out)) ?_;refine jm (.bool false) ?_;refine ja hB0 Tryd.underlying30 (by rfl) info_rat ?_;refine jc (.bool true) (fun X hX hF => mo (rvalidQ n p q X hp hq) (by rw [HV.out])) ?_;refine jm (.bool false) ?_;refine jm (.bool false) ?_;refine jzb hb fun X1 hX1 hb => ?_;have hB0 := hB0.bel hX1;have hB1 := hB1.bel hX1;clear hX1;go_upto_region 3 with fail;refine jq 7 ?_;refine jn (.pointer (some ⟨w.heap.size, 0, none⟩)) ?_;refine jf (.bool n) hB0 0 load_bool ?_;refine jn (.pointer (some ⟨w.heap.size, 1, none⟩)) ?_;refine jf (st p) hB0 1 load_str ?_;refine jn (.pointer (some ⟨w.heap.size, 2, none⟩)) ?_;refine jf (st q) hB0 2 load_str ?_;refine jn (rt n p q) ?_;refine jzb hb fun X2 hX2 hb => ?_;have hB0 := hB0.bel hX2;have hB1 := hB1.bel hX2;clear hX2;refine osb 77 2 18 (w.heap.size + 1) 77 hB1 [.bool n, .string ⟨p.toArray⟩, .string ⟨q.toArray⟩] info_fr ?_;intro w9 hR9 hO9 hB9 hs9;have hb9 := hB9 _ _ hb (by omega);clear hO9 hB9
 go_wp2
 refine post_cell rfl rfl (by rfl) Tryd.underlying77 rfl hR9 info_fr ⟨by rw [HN.out, HP1.out, HD1.out], hb9⟩
theorem ofQ (n : Bool) (p q : List UInt8) (w : World) (hp : p.length ≤ 4194300) (hq : q.length ≤ 4194300) : Calls Tryd.prog 34 #[.agg #[.bool n, .string ⟨p.toArray⟩, .string ⟨q.toArray⟩]] w fun e w' => e = .returned (.agg #[.bool (rN (rq n p q)), .string ⟨(be (rq n p q).num.natAbs).toArray⟩, .string ⟨(be (rq n p q).den).toArray⟩]) ∧ Since w w' := by
 by_cases h0 : p = []
 ·exact of0 n p q w hp hq h0
 ·rcases hv : vd n p q with _ | _
  ·exact of1 n p q w hp hq h0 hv
  ·exact of2 n p q w hp hq h0 hv
end Go.Proofs.YtffgfkcljcollaaDoor
