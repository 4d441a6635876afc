/-
  law 13: sanity.
-/
import Derived.Test.YtchhlgcakjjncaaGreatDoorE13
set_option linter.unusedSimpArgs false
set_option linter.unusedVariables false
set_option maxRecDepth 100000
set_option maxHeartbeats 1600000
namespace Go.Proofs.YtchhlgcakjjncaaGreatDoor
open Go.RowKit
theorem flow_ex : flowC0 exPts 9 = 0 ∧ flowC0 exPts 10 = 0 ∧ flowC0 exPts 11 = (rk 3 2) ∧ flowC0 exPts 14 = (ri 6) ∧ flowC0 exPts 17 = (ri 6) ∧ flowC0 exPts 21 = (rk 13 2) ∧ flowC0 exPts 99 = (ri 7) := by decide +kernel
theorem crv_ex : Crv (exPts.map kp) := (ck_zero ck_ex).crv
theorem lst_ex0 : lst (exPts.map kp) 0 = 0 := lst_eq crv_ex (by decide) (by decide +kernel) (by decide +kernel)
theorem le_ex0 : leN exPts true 0 = -1000 ∧ leE exPts true 0 = 0 := by
  unfold leN leE
  rw [lst_ex0, ck_ex]
  decide
theorem lst_ex1 : lst (exPts.map kp) (rk 1 2) = 1011 := lst_eq crv_ex (by decide) (by decide +kernel) (by decide +kernel)
theorem le_ex1 : leN exPts true (rk 1 2) = 11 ∧ leE exPts true (rk 1 2) = 0 := by
  unfold leN leE
  rw [lst_ex1, ck_ex]
  decide
theorem lst_ex2 : lst (exPts.map kp) (rk 3 2) = 1011 := lst_eq crv_ex (by decide) (by decide +kernel) (by decide +kernel)
theorem le_ex2 : leN exPts true (rk 3 2) = 11 ∧ leE exPts true (rk 3 2) = 0 := by
  unfold leN leE
  rw [lst_ex2, ck_ex]
  decide
theorem lst_ex3 : lst (exPts.map kp) (ri 6) = 1014 := lst_eq crv_ex (by decide) (by decide +kernel) (by decide +kernel)
theorem le_ex3 : leN exPts true (ri 6) = 14 ∧ leE exPts true (ri 6) = 0 := by
  unfold leN leE
  rw [lst_ex3, ck_ex]
  decide
theorem lst_ex4 : lst (exPts.map kp) (rk 13 2) = 1021 := lst_eq crv_ex (by decide) (by decide +kernel) (by decide +kernel)
theorem le_ex4 : leN exPts true (rk 13 2) = 21 ∧ leE exPts true (rk 13 2) = 0 := by
  unfold leN leE
  rw [lst_ex4, ck_ex]
  decide
theorem lst_ex5 : lst (exPts.map kp) (ri 8) = 3001 := lst_eq crv_ex (by decide) (by decide +kernel) (by decide +kernel)
theorem le_ex5 : leN exPts true (ri 8) = 0 ∧ leE exPts true (ri 8) = 8 := by
  unfold leN leE
  rw [lst_ex5, ck_ex]
  decide
def shPts : List Pt := [(0, false, [], []), (4, tr (ri 6)), (10, tr (ri 6)), (12, tr (ri 7))]
theorem sh_ex : shE exPts 10 = 0 ∧ shL exPts 10 = shPts := by
  refine shL_ok ck_ex (fun k hk => ?_)
  have hk : k < 4 := hk
  obtain rfl | rfl | rfl | rfl : k = 0 ∨ k = 1 ∨ k = 2 ∨ k = 3 := by omega
  all_goals decide
theorem few_sh_ex : fewP shPts 1000 := few_sh (l := exPts) (d := 10) few_ex
theorem flow_sh_ex : flowC0 shPts 1 = rk 3 2 := by decide +kernel
def scPts : List Pt := exPts.map (scP (trq (tr (ri 2))))
theorem pos_ri2 : posB (tr (ri 2)) = true := posB_rb (by decide +kernel)
theorem sc_ex : scE exPts (tr (ri 2)) = 0 ∧ scL exPts (tr (ri 2)) = scPts := scL_ok ck_ex pos_ri2
theorem few_sc_ex : fewP scPts 1000 := fewP.mono (few_sc (m := 100) (m' := 7) (fun k hk => by
  have h6 : szR (ri 6) 7 := szR_int (n := 6) (by decide)
  have h7 : szR (ri 7) 7 := szR_int (n := 7) (by decide)
  have hk : k < 4 := hk
  obtain rfl | rfl | rfl | rfl : k = 0 ∨ k = 1 ∨ k = 2 ∨ k = 3 := by omega
  · exact tz_nil
  · exact tzR h6 (by omega)
  · exact tzR h6 (by omega)
  · exact tzR h7 (by omega)) (by rw [trq_tr]; exact szR_int (n := 2) (by decide)) (by omega)) (by omega)
theorem flow_sc_ex : flowC0 scPts 11 = ri 3 := by
  unfold scPts
  rw [flow_sc ck_ex (posB_nn pos_ri2), trq_tr, flow_ex.2.2.1]
  decide +kernel
def exPts3 : List Pt := [(10, false, [], []), (14, tr (ri 6)), (22, tr (ri 7))]
theorem few_ex3 : fewP exPts3 1000 := by
  intro k hk
  have h6 : szR (ri 6) 7 := szR_int (n := 6) (by decide)
  have h7 : szR (ri 7) 7 := szR_int (n := 7) (by decide)
  have hk : k < 3 := hk
  obtain rfl | rfl | rfl : k = 0 ∨ k = 1 ∨ k = 2 := by omega
  · exact tz_nil
  · exact tzR h6 (by omega)
  · exact tzR h7 (by omega)
theorem ck_ex3 : ck exPts3 = 0 := by decide +kernel
theorem df_all (s : Int) (h1 : -1000 ≤ s) (h2 : s ≤ 2000) : flowAt (exPts.map kp) s ≠ flowAt (exPts3.map kp) s ↔ 15 ≤ s ∧ s ≤ 21 := by
  have c1 := crv_ex
  have c2 := (ck_zero ck_ex3).crv
  rcases Int.lt_or_le s 10 with h3 | h3
  · have e1 := flow_before c1 (s := s) (show s < 10 by omega)
    have e2 := flow_before c2 (s := s) (show s < 10 by omega)
    rw [e1, e2]
    exact ⟨fun h => absurd rfl h, fun h => by omega⟩
  · rcases Int.lt_or_le 22 s with h4 | h4
    · have e1 := flow_top c1 (s := s) (show (22 : Int) ≤ s by omega)
      have e2 := flow_top c2 (s := s) (show (22 : Int) ≤ s by omega)
      rw [e1, e2]
      exact ⟨fun h => absurd rfl h, fun h => by omega⟩
    · obtain ⟨k, hk, rfl⟩ : ∃ k : Nat, k < 13 ∧ s = 10 + (k : Int) := ⟨(s - 10).toNat, by omega, by omega⟩
      have key : ∀ k : Nat, k < 13 → (flowAt (exPts.map kp) (10 + (k : Int)) ≠ flowAt (exPts3.map kp) (10 + (k : Int)) ↔ 15 ≤ 10 + (k : Int) ∧ 10 + (k : Int) ≤ 21) := by decide +kernel
      exact key k hk
theorem df_ex : dfE exPts exPts3 = 0 ∧ dfL exPts exPts3 = [(15, 21)] := by
  unfold dfE dfL
  rw [if_neg (fun h9 => h9 ck_ex), ck_ex3, if_pos ⟨ck_ex, rfl⟩, dfl_one (by decide) (by decide) df_all 3001 (Nat.le_refl _)]
  exact ⟨rfl, rfl⟩
theorem differ_ex (u v : Value) (w : World) (h : Cvl exPts u w) (h' : Cvl exPts3 v w) : Calls Tryz.prog 44 #[u, v] w fun e w' => ∃ x, e = .returned x ∧ Dfv 0 [(15, 21)] x w' ∧ Since w w' := by
  have h9 := differV exPts exPts3 u v w h h' few_ex few_ex3
  rw [df_ex.1, df_ex.2] at h9
  exact h9
theorem shift_ex (v : Value) (w : World) (h : Cvl exPts v w) : Calls Tryz.prog 42 #[v, .int .i64 10] w fun e w' => ∃ x, e = .returned x ∧ Shv 0 shPts x w' ∧ Since w w' := by
  have h9 := shiftV exPts v 10 w h few_ex
  rw [sh_ex.1, sh_ex.2] at h9
  exact h9
theorem exec_alloc_cv {f : Operand → Value} {o : Oper} (ho : o.op = .alloc 48) (X : World) :
    (execOp f o).run Tryz.prog X = .ok (.value (.pointer (some ⟨X.heap.size, 0, none⟩))) (X.alloc (.cells #[.slice none 0 0] 48)) := by
  unfold execOp
  simp only [ho]
  go_simp
/-- One variable. -/
def oneV (k : Nat) (T : TypeId) (z : List Value) (p : List Value → World × Gh → Prop) : Nat → Vq := fun i => if i = k then ⟨T, z, p⟩ else ⟨T, z, fun _ _ => True⟩
theorem oneV_las {B k : Nat} {T : TypeId} {z : List Value} {p : List Value → World × Gh → Prop} (hp : ∀ vs, LastQ B (p vs)) : ∀ i vs, LastQ B ((oneV k T z p i).p vs) := by
  intro i vs X Y h hq
  unfold oneV at h ⊢
  split
  · rename_i h1
    rw [if_pos h1] at h
    exact hp vs X Y h hq
  · trivial
/-- A curve in a region with variables of its own. -/
def Cuq (l : List Pt) (vs : List Value) (X : World × Gh) : Prop := ∃ A n c, vs = [.slice A n c] ∧ Rdu X 4 (.slice A n c) n (fl ptc l) ∧ l.length = n ∧ n ≤ 9223372036854775807
theorem Cuq.las {B : Nat} (l : List Pt) (vs : List Value) : LastQ B (Cuq l vs) := fun _ _ ⟨A, n, c, h1, h2, h3, h4⟩ hq => ⟨A, n, c, h1, h2.q hq, h3, h4⟩
def Shq (E : Int) (l : List Pt) (v : Value) (X : World × Gh) : Prop := ∃ A n c, v = .tuple #[.agg #[.slice A n c], .int .i64 E] ∧ Rdu X 4 (.slice A n c) n (fl ptc l) ∧ l.length = n ∧ n ≤ 9223372036854775807
def Cvq (l : List Pt) (v : Value) (X : World × Gh) : Prop := ∃ vs, v = .agg vs.toArray ∧ Cuq l vs X
theorem sanityC (w : World) : Calls Tryz.prog 35 #[] w fun e w' => e = .returned (.bool true) ∧ Since w w' := by
  have LB0 : szR (rk 1 2) 14 := szR_rk 1 2 (by decide) (by decide)
  have LB1 : szR (rk 3 2) 14 := szR_rk 3 2 (by decide) (by decide)
  have LB2 : szR (ri 6) 7 := szR_int (n := 6) (by decide)
  have LB3 : szR (rk 13 2) 14 := szR_rk 13 2 (by decide) (by decide)
  have LB4 : szR (ri 8) 7 := szR_int (n := 8) (by decide)
  have LB5 : szR (ri 2) 7 := szR_int (n := 2) (by decide)
  go_enter Tryz.func35, Tryz.ntmps35
  go_upto_region 1 with (fail)
  refine lx_plain_to 1 [some (Cvo exPts 4)] (lasts_some (Cvo.lasts _ _) (lasts_nil)) ?_
  simp only [its, List.take, List.drop, Nat.zero_add, Nat.reduceAdd]
  refine jk (fun X hX hF => exampleC X) ?_
  intro v19
  refine lx_nil ?_
  intro X1 hX1 hF
  have hv19 := hF _ _ List.mem_cons_self
  have hb : Below w.heap.size w X1 := hX1
  clear hF hX1
  obtain ⟨gp, rfl, hBp⟩ := hv19
  go_upto_region 2 with (refine osn 48 1 19 #[.slice (some ⟨gp, 0, none⟩) 4 4] info_cv ?_)
  obtain ⟨Y1, hY9, hD1, hS9⟩ := start1 X1 48 [.slice (some ⟨gp, 0, none⟩) 4 4]
  rw [← hY9]
  clear hY9
  have hgs1 := hb.size
  have hlt1x0 := hBp.lt
  have hBp := hBp.bel hS9
  have hb := bel_next hb hS9
  clear hS9
  generalize X1.heap.size = g1 at *
  refine jp ?_
  refine ja hD1 Tryz.underlying48 (by rfl) info_cv ?_
  refine jc (.int .i64 0) (fun X hX hF => mo (checkV exPts _ X ⟨some ⟨gp, 0, none⟩, 4, 4, rfl, Blk.rdP (hBp.bel hX) 4 rfl (by unfold maxLen; omega), rfl, by omega⟩ few_ex.mono) (by rw [ck_ex])) ?_
  refine jv (.bool false) (exec_nei _ _ _ _ (by rfl) .i64 0 0 (by rfl) (by rfl) false (by rw [decide_eq_true (by omega)]; rfl)) ?_
  refine jm (.bool false) ?_
  refine jn (.agg #[.slice none 0 0]) ?_
  refine jc (.int .i64 2) (fun X hX hF => mo (checkV [] _ X ⟨none, 0, 0, rfl, Rd.nil4 _, rfl, by omega⟩ (fun k hk => by simp at hk)) (by rfl)) ?_
  refine jv (.bool false) (exec_nei _ _ _ _ (by rfl) .i64 2 2 (by rfl) (by rfl) false (by rw [decide_eq_true (by omega)]; rfl)) ?_
  refine jm (.bool false) ?_
  refine jz fun X2 hX2 => ?_
  have hBp := hBp.bel hX2
  have hD1 := hD1.bel hX2
  have hb := bel_next hb hX2
  clear hX2
  go_upto_region 4 with (fail)
  refine lx_plain [some (Bsl 3 [.int .i64 9, .int .i64 10, .int .i64 11, .int .i64 14, .int .i64 17, .int .i64 21, .int .i64 99] 7)] (lasts_some (Bsl.lasts _ _ _) (lasts_nil)) ?_
  simp only [iX, Nat.reduceAdd]
  refine lx_new (by rfl) (fun X hX hF => Bsl.mk 3 [.int .i64 9, .int .i64 10, .int .i64 11, .int .i64 14, .int .i64 17, .int .i64 21, .int .i64 99] 7 (by unfold execOp; go_simp)) ?_
  intro v28
  simp only [pX]
  refine jm (v28) ?_
  refine lx_nil ?_
  intro X3 hX3 hF
  have hv28 := hF _ _ List.mem_cons_self
  have hBp := hBp.bel hX3
  have hD1 := hD1.bel hX3
  have hb := bel_next hb hX3
  clear hF hX3
  obtain ⟨gs, rfl, hBgs⟩ := hv28
  go_upto_region 5 with (fail)
  refine lx_plain [none, none, none, none, none, none, none, some (Bsl 23 [.bool false, .string ⟨#[]⟩, .string ⟨#[]⟩, .bool false, .string ⟨#[]⟩, .string ⟨#[]⟩, .bool (rN (rk 3 2)), .string ⟨(rP (rk 3 2)).toArray⟩, .string ⟨(rD (rk 3 2)).toArray⟩, .bool (rN (ri 6)), .string ⟨(rP (ri 6)).toArray⟩, .string ⟨(rD (ri 6)).toArray⟩, .bool (rN (ri 6)), .string ⟨(rP (ri 6)).toArray⟩, .string ⟨(rD (ri 6)).toArray⟩, .bool (rN (rk 13 2)), .string ⟨(rP (rk 13 2)).toArray⟩, .string ⟨(rD (rk 13 2)).toArray⟩, .bool (rN (ri 7)), .string ⟨(rP (ri 7)).toArray⟩, .string ⟨(rD (ri 7)).toArray⟩] 7)] (lasts_none (lasts_none (lasts_none (lasts_none (lasts_none (lasts_none (lasts_none (lasts_some (Bsl.lasts _ _ _) (lasts_nil))))))))) ?_
  simp only [iX, Nat.reduceAdd]
  refine jn (rz) ?_
  refine jn (rz) ?_
  refine jc (rt (rN (rk 3 2)) (rP (rk 3 2)) (rD (rk 3 2))) (fun X hX hF => quotC (3) (2) (rk 3 2) rfl X (by decide) (by decide) (by decide)) ?_
  refine jc (rt (rN (ri 6)) (rP (ri 6)) (rD (ri 6))) (fun X hX hF => rintQ (6) X (by decide)) ?_
  refine jc (rt (rN (ri 6)) (rP (ri 6)) (rD (ri 6))) (fun X hX hF => rintQ (6) X (by decide)) ?_
  refine jc (rt (rN (rk 13 2)) (rP (rk 13 2)) (rD (rk 13 2))) (fun X hX hF => quotC (13) (2) (rk 13 2) rfl X (by decide) (by decide) (by decide)) ?_
  refine jc (rt (rN (ri 7)) (rP (ri 7)) (rD (ri 7))) (fun X hX hF => rintQ (7) X (by decide)) ?_
  refine lx_new (by rfl) (fun X hX hF => Bsl.mk 23 [.bool false, .string ⟨#[]⟩, .string ⟨#[]⟩, .bool false, .string ⟨#[]⟩, .string ⟨#[]⟩, .bool (rN (rk 3 2)), .string ⟨(rP (rk 3 2)).toArray⟩, .string ⟨(rD (rk 3 2)).toArray⟩, .bool (rN (ri 6)), .string ⟨(rP (ri 6)).toArray⟩, .string ⟨(rD (ri 6)).toArray⟩, .bool (rN (ri 6)), .string ⟨(rP (ri 6)).toArray⟩, .string ⟨(rD (ri 6)).toArray⟩, .bool (rN (rk 13 2)), .string ⟨(rP (rk 13 2)).toArray⟩, .string ⟨(rD (rk 13 2)).toArray⟩, .bool (rN (ri 7)), .string ⟨(rP (ri 7)).toArray⟩, .string ⟨(rD (ri 7)).toArray⟩] 7 (by unfold execOp; go_simp)) ?_
  intro v36
  simp only [pX]
  refine jm (v36) ?_
  refine lx_nil ?_
  intro X4 hX4 hF
  have hv36 := hF _ _ List.mem_cons_self
  have hBp := hBp.bel hX4
  have hD1 := hD1.bel hX4
  have hBgs := hBgs.bel hX4
  have hb := bel_next hb hX4
  clear hF hX4
  obtain ⟨gf, rfl, hBgf⟩ := hv36
  go_upto_region 6 with (fail)
  refine jp ?_
  refine jm (.slice (some ⟨gs, 0, none⟩) 7 7) ?_
  refine jv (.int .i64 (7 : Int)) (exec_lenv Tryz.underlying108 _ (by rfl) (some ⟨gs, 0, none⟩) 7 7 (by rfl) _ rfl) ?_
  refine jm (.int .i64 0) ?_
  refine jz fun X5 hX5 => ?_
  have hBp := hBp.bel hX5
  have hD1 := hD1.bel hX5
  have hBgs := hBgs.bel hX5
  have hBgf := hBgf.bel hX5
  have hb := bel_next hb hX5
  clear hX5
  go_wp2
  go_loopw [39] (fun kv wr => ∃ k : Nat, k ≤ 7 ∧ kv = .int .i64 (k : Int) ∧ Blk wr g1 48 ([.slice (some ⟨gp, 0, none⟩) 4 4]) ∧ Blk wr gp 110 (fl ptc exPts) ∧ Blk wr gs 3 ([.int .i64 9, .int .i64 10, .int .i64 11, .int .i64 14, .int .i64 17, .int .i64 21, .int .i64 99]) ∧ Blk wr gf 23 ([.bool false, .string ⟨#[]⟩, .string ⟨#[]⟩, .bool false, .string ⟨#[]⟩, .string ⟨#[]⟩, .bool (rN (rk 3 2)), .string ⟨(rP (rk 3 2)).toArray⟩, .string ⟨(rD (rk 3 2)).toArray⟩, .bool (rN (ri 6)), .string ⟨(rP (ri 6)).toArray⟩, .string ⟨(rD (ri 6)).toArray⟩, .bool (rN (ri 6)), .string ⟨(rP (ri 6)).toArray⟩, .string ⟨(rD (ri 6)).toArray⟩, .bool (rN (rk 13 2)), .string ⟨(rP (rk 13 2)).toArray⟩, .string ⟨(rD (rk 13 2)).toArray⟩, .bool (rN (ri 7)), .string ⟨(rP (ri 7)).toArray⟩, .string ⟨(rD (ri 7)).toArray⟩]) ∧ Below w.heap.size w wr) (fun kv _ => 7 - (intOf kv).toNat)
  case atStart => exact ⟨0, by omega, rfl, hD1, hBp, hBgs, hBgf, hb⟩
  case round =>
    clear hD1 hBp hBgs hBgf hb
    obtain ⟨k, hk, rfl, hD1, hBp, hBgs, hBgf, hb⟩ := hrel
    obtain rfl | rfl | rfl | rfl | rfl | rfl | rfl | rfl : k = 0 ∨ k = 1 ∨ k = 2 ∨ k = 3 ∨ k = 4 ∨ k = 5 ∨ k = 6 ∨ k = 7 := by omega
    · rw [show ((0 : Nat) : Int) = 0 from rfl]
      go_upto_region 7 with (fail)
      refine jp ?_
      refine jv (.bool true) (exec_lss _ _ _ _ (by rfl) .i64 (0 : Int) (7 : Int) (by rfl) (by rfl) true (by decide)) ?_
      refine jz fun X1 hX1 => ?_
      have hD1 := hD1.bel hX1
      have hBp := hBp.bel hX1
      have hBgs := hBgs.bel hX1
      have hBgf := hBgf.bel hX1
      have hb := bel_next hb hX1
      clear hX1
      have hcgs : Cl X1 gs (0 + 0 * 1) [.int .i64 9] := hBgs.cl.part (0 * 1) [.int .i64 9] (by rfl)
      have hbgs := hBgs.lt
      have hcgf : Cl X1 gf (0 + 0 * 3) [.bool false, .string ⟨#[]⟩, .string ⟨#[]⟩] := hBgf.cl.part (0 * 3) [.bool false, .string ⟨#[]⟩, .string ⟨#[]⟩] (by rfl)
      have hbgf := hBgf.lt
      go_upto_region 8 with (fail)
      refine jp ?_
      refine jm (.int .i64 (0 : Int)) ?_
      refine jv (.pointer (some ⟨gs, 0 + 0 * 1, none⟩)) (exec_ixv Tryz.underlying108 info_int1 _ _ (by rfl) gs (0) 7 7 0 (by omega) (by rfl) (by rfl) rfl) ?_
      refine jg (.int .i64 9) (fun X hX hF => exec_ld 3 _ (by rfl) gs (0 + 0 * 1) (by rfl) _ X ((hcgs.below hX hbgs) 0 _ rfl) (fun X u h => load_int gs (0 + 0 * 1) X u h)) ?_
      refine jm (.int .i64 (0 : Int)) ?_
      refine jm (.int .i64 9) ?_
      refine jz fun X2 hX2 => ?_
      have hD1 := hD1.bel hX2
      have hBp := hBp.bel hX2
      have hBgs := hBgs.bel hX2
      have hBgf := hBgf.bel hX2
      have hcgs := hcgs.below hX2 hbgs
      have hcgf := hcgf.below hX2 hbgf
      replace hbgs := Nat.lt_of_lt_of_le hbgs (hX2).size
      replace hbgf := Nat.lt_of_lt_of_le hbgf (hX2).size
      have hb := bel_next hb hX2
      clear hX2
      go_upto_region 9 with (fail)
      refine jd ?_
      refine ja hD1 Tryz.underlying48 (by rfl) info_cv ?_
      refine jm (.int .i64 9) ?_
      refine jc (rt (rN 0) (rP 0) (rD 0)) (fun X hX hF => mo (flowV exPts _ 9 X ⟨some ⟨gp, 0, none⟩, 4, 4, rfl, Blk.rdP (hBp.bel hX) 4 rfl (by unfold maxLen; omega), rfl, by omega⟩ few_ex) (by rw [flow_ex.1])) ?_
      refine jm (.slice (some ⟨gf, 0, none⟩) 7 7) ?_
      refine jm (.int .i64 (0 : Int)) ?_
      refine jv (.pointer (some ⟨gf, 0 + 0 * 3, none⟩)) (exec_ixv Tryz.underlying79 info_rat _ _ (by rfl) gf (0) 7 7 0 (by omega) (by rfl) (by rfl) rfl) ?_
      refine jg (rz) (fun X hX hF => exec_ldc 23 _ (by rfl) gf (0 + 0 * 3) (by rfl) Tryz.underlying23 rfl [.bool false, .string ⟨#[]⟩, .string ⟨#[]⟩] X (Cl.part (hcgf.below hX hbgf) 0 _ (by rfl)) info_rat) ?_
      refine jv (.bool false) (exec_ner _ _ (by rfl) (rN 0) (rP 0) (rD 0) false [] [] (by rfl) (by rfl) false (rb_zt rfl)) ?_
      refine jz fun X3 hX3 => ?_
      have hD1 := hD1.bel hX3
      have hBp := hBp.bel hX3
      have hBgs := hBgs.bel hX3
      have hBgf := hBgf.bel hX3
      have hcgs := hcgs.below hX3 hbgs
      have hcgf := hcgf.below hX3 hbgf
      replace hbgs := Nat.lt_of_lt_of_le hbgs (hX3).size
      replace hbgf := Nat.lt_of_lt_of_le hbgf (hX3).size
      have hb := bel_next hb hX3
      clear hX3
      go_upto_region 11 with (fail)
      refine jp ?_
      refine jv (.int .i64 ((0 + 1 : Nat) : Int)) (exec_add _ _ _ _ (by rfl) (0 : Int) 1 ((0 + 1 : Nat) : Int) (by rfl) (by rfl) (by decide) (by omega) (by omega)) ?_
      refine jm (.int .i64 ((0 + 1 : Nat) : Int)) ?_
      refine jz fun X4 hX4 => ?_
      have hD1 := hD1.bel hX4
      have hBp := hBp.bel hX4
      have hBgs := hBgs.bel hX4
      have hBgf := hBgf.bel hX4
      have hb := bel_next hb hX4
      clear hX4
      go_wp2
      go_roundw
      case rel => exact ⟨0 + 1, by omega, rfl, hD1, hBp, hBgs, hBgf, hb⟩
      case measure => decide
    · rw [show ((1 : Nat) : Int) = 1 from rfl]
      go_upto_region 7 with (fail)
      refine jp ?_
      refine jv (.bool true) (exec_lss _ _ _ _ (by rfl) .i64 (1 : Int) (7 : Int) (by rfl) (by rfl) true (by decide)) ?_
      refine jz fun X1 hX1 => ?_
      have hD1 := hD1.bel hX1
      have hBp := hBp.bel hX1
      have hBgs := hBgs.bel hX1
      have hBgf := hBgf.bel hX1
      have hb := bel_next hb hX1
      clear hX1
      have hcgs : Cl X1 gs (0 + 1 * 1) [.int .i64 10] := hBgs.cl.part (1 * 1) [.int .i64 10] (by rfl)
      have hbgs := hBgs.lt
      have hcgf : Cl X1 gf (0 + 1 * 3) [.bool false, .string ⟨#[]⟩, .string ⟨#[]⟩] := hBgf.cl.part (1 * 3) [.bool false, .string ⟨#[]⟩, .string ⟨#[]⟩] (by rfl)
      have hbgf := hBgf.lt
      go_upto_region 8 with (fail)
      refine jp ?_
      refine jm (.int .i64 (1 : Int)) ?_
      refine jv (.pointer (some ⟨gs, 0 + 1 * 1, none⟩)) (exec_ixv Tryz.underlying108 info_int1 _ _ (by rfl) gs (0) 7 7 1 (by omega) (by rfl) (by rfl) rfl) ?_
      refine jg (.int .i64 10) (fun X hX hF => exec_ld 3 _ (by rfl) gs (0 + 1 * 1) (by rfl) _ X ((hcgs.below hX hbgs) 0 _ rfl) (fun X u h => load_int gs (0 + 1 * 1) X u h)) ?_
      refine jm (.int .i64 (1 : Int)) ?_
      refine jm (.int .i64 10) ?_
      refine jz fun X2 hX2 => ?_
      have hD1 := hD1.bel hX2
      have hBp := hBp.bel hX2
      have hBgs := hBgs.bel hX2
      have hBgf := hBgf.bel hX2
      have hcgs := hcgs.below hX2 hbgs
      have hcgf := hcgf.below hX2 hbgf
      replace hbgs := Nat.lt_of_lt_of_le hbgs (hX2).size
      replace hbgf := Nat.lt_of_lt_of_le hbgf (hX2).size
      have hb := bel_next hb hX2
      clear hX2
      go_upto_region 9 with (fail)
      refine jd ?_
      refine ja hD1 Tryz.underlying48 (by rfl) info_cv ?_
      refine jm (.int .i64 10) ?_
      refine jc (rt (rN 0) (rP 0) (rD 0)) (fun X hX hF => mo (flowV exPts _ 10 X ⟨some ⟨gp, 0, none⟩, 4, 4, rfl, Blk.rdP (hBp.bel hX) 4 rfl (by unfold maxLen; omega), rfl, by omega⟩ few_ex) (by rw [flow_ex.2.1])) ?_
      refine jm (.slice (some ⟨gf, 0, none⟩) 7 7) ?_
      refine jm (.int .i64 (1 : Int)) ?_
      refine jv (.pointer (some ⟨gf, 0 + 1 * 3, none⟩)) (exec_ixv Tryz.underlying79 info_rat _ _ (by rfl) gf (0) 7 7 1 (by omega) (by rfl) (by rfl) rfl) ?_
      refine jg (rz) (fun X hX hF => exec_ldc 23 _ (by rfl) gf (0 + 1 * 3) (by rfl) Tryz.underlying23 rfl [.bool false, .string ⟨#[]⟩, .string ⟨#[]⟩] X (Cl.part (hcgf.below hX hbgf) 0 _ (by rfl)) info_rat) ?_
      refine jv (.bool false) (exec_ner _ _ (by rfl) (rN 0) (rP 0) (rD 0) false [] [] (by rfl) (by rfl) false (rb_zt rfl)) ?_
      refine jz fun X3 hX3 => ?_
      have hD1 := hD1.bel hX3
      have hBp := hBp.bel hX3
      have hBgs := hBgs.bel hX3
      have hBgf := hBgf.bel hX3
      have hcgs := hcgs.below hX3 hbgs
      have hcgf := hcgf.below hX3 hbgf
      replace hbgs := Nat.lt_of_lt_of_le hbgs (hX3).size
      replace hbgf := Nat.lt_of_lt_of_le hbgf (hX3).size
      have hb := bel_next hb hX3
      clear hX3
      go_upto_region 11 with (fail)
      refine jp ?_
      refine jv (.int .i64 ((1 + 1 : Nat) : Int)) (exec_add _ _ _ _ (by rfl) (1 : Int) 1 ((1 + 1 : Nat) : Int) (by rfl) (by rfl) (by decide) (by omega) (by omega)) ?_
      refine jm (.int .i64 ((1 + 1 : Nat) : Int)) ?_
      refine jz fun X4 hX4 => ?_
      have hD1 := hD1.bel hX4
      have hBp := hBp.bel hX4
      have hBgs := hBgs.bel hX4
      have hBgf := hBgf.bel hX4
      have hb := bel_next hb hX4
      clear hX4
      go_wp2
      go_roundw
      case rel => exact ⟨1 + 1, by omega, rfl, hD1, hBp, hBgs, hBgf, hb⟩
      case measure => decide
    · rw [show ((2 : Nat) : Int) = 2 from rfl]
      go_upto_region 7 with (fail)
      refine jp ?_
      refine jv (.bool true) (exec_lss _ _ _ _ (by rfl) .i64 (2 : Int) (7 : Int) (by rfl) (by rfl) true (by decide)) ?_
      refine jz fun X1 hX1 => ?_
      have hD1 := hD1.bel hX1
      have hBp := hBp.bel hX1
      have hBgs := hBgs.bel hX1
      have hBgf := hBgf.bel hX1
      have hb := bel_next hb hX1
      clear hX1
      have hcgs : Cl X1 gs (0 + 2 * 1) [.int .i64 11] := hBgs.cl.part (2 * 1) [.int .i64 11] (by rfl)
      have hbgs := hBgs.lt
      have hcgf : Cl X1 gf (0 + 2 * 3) [.bool (rN (rk 3 2)), .string ⟨(rP (rk 3 2)).toArray⟩, .string ⟨(rD (rk 3 2)).toArray⟩] := hBgf.cl.part (2 * 3) [.bool (rN (rk 3 2)), .string ⟨(rP (rk 3 2)).toArray⟩, .string ⟨(rD (rk 3 2)).toArray⟩] (by rfl)
      have hbgf := hBgf.lt
      go_upto_region 8 with (fail)
      refine jp ?_
      refine jm (.int .i64 (2 : Int)) ?_
      refine jv (.pointer (some ⟨gs, 0 + 2 * 1, none⟩)) (exec_ixv Tryz.underlying108 info_int1 _ _ (by rfl) gs (0) 7 7 2 (by omega) (by rfl) (by rfl) rfl) ?_
      refine jg (.int .i64 11) (fun X hX hF => exec_ld 3 _ (by rfl) gs (0 + 2 * 1) (by rfl) _ X ((hcgs.below hX hbgs) 0 _ rfl) (fun X u h => load_int gs (0 + 2 * 1) X u h)) ?_
      refine jm (.int .i64 (2 : Int)) ?_
      refine jm (.int .i64 11) ?_
      refine jz fun X2 hX2 => ?_
      have hD1 := hD1.bel hX2
      have hBp := hBp.bel hX2
      have hBgs := hBgs.bel hX2
      have hBgf := hBgf.bel hX2
      have hcgs := hcgs.below hX2 hbgs
      have hcgf := hcgf.below hX2 hbgf
      replace hbgs := Nat.lt_of_lt_of_le hbgs (hX2).size
      replace hbgf := Nat.lt_of_lt_of_le hbgf (hX2).size
      have hb := bel_next hb hX2
      clear hX2
      go_upto_region 9 with (fail)
      refine jd ?_
      refine ja hD1 Tryz.underlying48 (by rfl) info_cv ?_
      refine jm (.int .i64 11) ?_
      refine jc (rt (rN (rk 3 2)) (rP (rk 3 2)) (rD (rk 3 2))) (fun X hX hF => mo (flowV exPts _ 11 X ⟨some ⟨gp, 0, none⟩, 4, 4, rfl, Blk.rdP (hBp.bel hX) 4 rfl (by unfold maxLen; omega), rfl, by omega⟩ few_ex) (by rw [flow_ex.2.2.1])) ?_
      refine jm (.slice (some ⟨gf, 0, none⟩) 7 7) ?_
      refine jm (.int .i64 (2 : Int)) ?_
      refine jv (.pointer (some ⟨gf, 0 + 2 * 3, none⟩)) (exec_ixv Tryz.underlying79 info_rat _ _ (by rfl) gf (0) 7 7 2 (by omega) (by rfl) (by rfl) rfl) ?_
      refine jg (rt (rN (rk 3 2)) (rP (rk 3 2)) (rD (rk 3 2))) (fun X hX hF => exec_ldc 23 _ (by rfl) gf (0 + 2 * 3) (by rfl) Tryz.underlying23 rfl [.bool (rN (rk 3 2)), .string ⟨(rP (rk 3 2)).toArray⟩, .string ⟨(rD (rk 3 2)).toArray⟩] X (Cl.part (hcgf.below hX hbgf) 0 _ (by rfl)) info_rat) ?_
      refine jv (.bool false) (exec_ner _ _ (by rfl) (rN (rk 3 2)) (rP (rk 3 2)) (rD (rk 3 2)) (rN (rk 3 2)) (rP (rk 3 2)) (rD (rk 3 2)) (by rfl) (by rfl) false (rb_eqt rfl)) ?_
      refine jz fun X3 hX3 => ?_
      have hD1 := hD1.bel hX3
      have hBp := hBp.bel hX3
      have hBgs := hBgs.bel hX3
      have hBgf := hBgf.bel hX3
      have hcgs := hcgs.below hX3 hbgs
      have hcgf := hcgf.below hX3 hbgf
      replace hbgs := Nat.lt_of_lt_of_le hbgs (hX3).size
      replace hbgf := Nat.lt_of_lt_of_le hbgf (hX3).size
      have hb := bel_next hb hX3
      clear hX3
      go_upto_region 11 with (fail)
      refine jp ?_
      refine jv (.int .i64 ((2 + 1 : Nat) : Int)) (exec_add _ _ _ _ (by rfl) (2 : Int) 1 ((2 + 1 : Nat) : Int) (by rfl) (by rfl) (by decide) (by omega) (by omega)) ?_
      refine jm (.int .i64 ((2 + 1 : Nat) : Int)) ?_
      refine jz fun X4 hX4 => ?_
      have hD1 := hD1.bel hX4
      have hBp := hBp.bel hX4
      have hBgs := hBgs.bel hX4
      have hBgf := hBgf.bel hX4
      have hb := bel_next hb hX4
      clear hX4
      go_wp2
      go_roundw
      case rel => exact ⟨2 + 1, by omega, rfl, hD1, hBp, hBgs, hBgf, hb⟩
      case measure => decide
    · rw [show ((3 : Nat) : Int) = 3 from rfl]
      go_upto_region 7 with (fail)
      refine jp ?_
      refine jv (.bool true) (exec_lss _ _ _ _ (by rfl) .i64 (3 : Int) (7 : Int) (by rfl) (by rfl) true (by decide)) ?_
      refine jz fun X1 hX1 => ?_
      have hD1 := hD1.bel hX1
      have hBp := hBp.bel hX1
      have hBgs := hBgs.bel hX1
      have hBgf := hBgf.bel hX1
      have hb := bel_next hb hX1
      clear hX1
      have hcgs : Cl X1 gs (0 + 3 * 1) [.int .i64 14] := hBgs.cl.part (3 * 1) [.int .i64 14] (by rfl)
      have hbgs := hBgs.lt
      have hcgf : Cl X1 gf (0 + 3 * 3) [.bool (rN (ri 6)), .string ⟨(rP (ri 6)).toArray⟩, .string ⟨(rD (ri 6)).toArray⟩] := hBgf.cl.part (3 * 3) [.bool (rN (ri 6)), .string ⟨(rP (ri 6)).toArray⟩, .string ⟨(rD (ri 6)).toArray⟩] (by rfl)
      have hbgf := hBgf.lt
      go_upto_region 8 with (fail)
      refine jp ?_
      refine jm (.int .i64 (3 : Int)) ?_
      refine jv (.pointer (some ⟨gs, 0 + 3 * 1, none⟩)) (exec_ixv Tryz.underlying108 info_int1 _ _ (by rfl) gs (0) 7 7 3 (by omega) (by rfl) (by rfl) rfl) ?_
      refine jg (.int .i64 14) (fun X hX hF => exec_ld 3 _ (by rfl) gs (0 + 3 * 1) (by rfl) _ X ((hcgs.below hX hbgs) 0 _ rfl) (fun X u h => load_int gs (0 + 3 * 1) X u h)) ?_
      refine jm (.int .i64 (3 : Int)) ?_
      refine jm (.int .i64 14) ?_
      refine jz fun X2 hX2 => ?_
      have hD1 := hD1.bel hX2
      have hBp := hBp.bel hX2
      have hBgs := hBgs.bel hX2
      have hBgf := hBgf.bel hX2
      have hcgs := hcgs.below hX2 hbgs
      have hcgf := hcgf.below hX2 hbgf
      replace hbgs := Nat.lt_of_lt_of_le hbgs (hX2).size
      replace hbgf := Nat.lt_of_lt_of_le hbgf (hX2).size
      have hb := bel_next hb hX2
      clear hX2
      go_upto_region 9 with (fail)
      refine jd ?_
      refine ja hD1 Tryz.underlying48 (by rfl) info_cv ?_
      refine jm (.int .i64 14) ?_
      refine jc (rt (rN (ri 6)) (rP (ri 6)) (rD (ri 6))) (fun X hX hF => mo (flowV exPts _ 14 X ⟨some ⟨gp, 0, none⟩, 4, 4, rfl, Blk.rdP (hBp.bel hX) 4 rfl (by unfold maxLen; omega), rfl, by omega⟩ few_ex) (by rw [flow_ex.2.2.2.1])) ?_
      refine jm (.slice (some ⟨gf, 0, none⟩) 7 7) ?_
      refine jm (.int .i64 (3 : Int)) ?_
      refine jv (.pointer (some ⟨gf, 0 + 3 * 3, none⟩)) (exec_ixv Tryz.underlying79 info_rat _ _ (by rfl) gf (0) 7 7 3 (by omega) (by rfl) (by rfl) rfl) ?_
      refine jg (rt (rN (ri 6)) (rP (ri 6)) (rD (ri 6))) (fun X hX hF => exec_ldc 23 _ (by rfl) gf (0 + 3 * 3) (by rfl) Tryz.underlying23 rfl [.bool (rN (ri 6)), .string ⟨(rP (ri 6)).toArray⟩, .string ⟨(rD (ri 6)).toArray⟩] X (Cl.part (hcgf.below hX hbgf) 0 _ (by rfl)) info_rat) ?_
      refine jv (.bool false) (exec_ner _ _ (by rfl) (rN (ri 6)) (rP (ri 6)) (rD (ri 6)) (rN (ri 6)) (rP (ri 6)) (rD (ri 6)) (by rfl) (by rfl) false (rb_eqt rfl)) ?_
      refine jz fun X3 hX3 => ?_
      have hD1 := hD1.bel hX3
      have hBp := hBp.bel hX3
      have hBgs := hBgs.bel hX3
      have hBgf := hBgf.bel hX3
      have hcgs := hcgs.below hX3 hbgs
      have hcgf := hcgf.below hX3 hbgf
      replace hbgs := Nat.lt_of_lt_of_le hbgs (hX3).size
      replace hbgf := Nat.lt_of_lt_of_le hbgf (hX3).size
      have hb := bel_next hb hX3
      clear hX3
      go_upto_region 11 with (fail)
      refine jp ?_
      refine jv (.int .i64 ((3 + 1 : Nat) : Int)) (exec_add _ _ _ _ (by rfl) (3 : Int) 1 ((3 + 1 : Nat) : Int) (by rfl) (by rfl) (by decide) (by omega) (by omega)) ?_
      refine jm (.int .i64 ((3 + 1 : Nat) : Int)) ?_
      refine jz fun X4 hX4 => ?_
      have hD1 := hD1.bel hX4
      have hBp := hBp.bel hX4
      have hBgs := hBgs.bel hX4
      have hBgf := hBgf.bel hX4
      have hb := bel_next hb hX4
      clear hX4
      go_wp2
      go_roundw
      case rel => exact ⟨3 + 1, by omega, rfl, hD1, hBp, hBgs, hBgf, hb⟩
      case measure => decide
    · rw [show ((4 : Nat) : Int) = 4 from rfl]
      go_upto_region 7 with (fail)
      refine jp ?_
      refine jv (.bool true) (exec_lss _ _ _ _ (by rfl) .i64 (4 : Int) (7 : Int) (by rfl) (by rfl) true (by decide)) ?_
      refine jz fun X1 hX1 => ?_
      have hD1 := hD1.bel hX1
      have hBp := hBp.bel hX1
      have hBgs := hBgs.bel hX1
      have hBgf := hBgf.bel hX1
      have hb := bel_next hb hX1
      clear hX1
      have hcgs : Cl X1 gs (0 + 4 * 1) [.int .i64 17] := hBgs.cl.part (4 * 1) [.int .i64 17] (by rfl)
      have hbgs := hBgs.lt
      have hcgf : Cl X1 gf (0 + 4 * 3) [.bool (rN (ri 6)), .string ⟨(rP (ri 6)).toArray⟩, .string ⟨(rD (ri 6)).toArray⟩] := hBgf.cl.part (4 * 3) [.bool (rN (ri 6)), .string ⟨(rP (ri 6)).toArray⟩, .string ⟨(rD (ri 6)).toArray⟩] (by rfl)
      have hbgf := hBgf.lt
      go_upto_region 8 with (fail)
      refine jp ?_
      refine jm (.int .i64 (4 : Int)) ?_
      refine jv (.pointer (some ⟨gs, 0 + 4 * 1, none⟩)) (exec_ixv Tryz.underlying108 info_int1 _ _ (by rfl) gs (0) 7 7 4 (by omega) (by rfl) (by rfl) rfl) ?_
      refine jg (.int .i64 17) (fun X hX hF => exec_ld 3 _ (by rfl) gs (0 + 4 * 1) (by rfl) _ X ((hcgs.below hX hbgs) 0 _ rfl) (fun X u h => load_int gs (0 + 4 * 1) X u h)) ?_
      refine jm (.int .i64 (4 : Int)) ?_
      refine jm (.int .i64 17) ?_
      refine jz fun X2 hX2 => ?_
      have hD1 := hD1.bel hX2
      have hBp := hBp.bel hX2
      have hBgs := hBgs.bel hX2
      have hBgf := hBgf.bel hX2
      have hcgs := hcgs.below hX2 hbgs
      have hcgf := hcgf.below hX2 hbgf
      replace hbgs := Nat.lt_of_lt_of_le hbgs (hX2).size
      replace hbgf := Nat.lt_of_lt_of_le hbgf (hX2).size
      have hb := bel_next hb hX2
      clear hX2
      go_upto_region 9 with (fail)
      refine jd ?_
      refine ja hD1 Tryz.underlying48 (by rfl) info_cv ?_
      refine jm (.int .i64 17) ?_
      refine jc (rt (rN (ri 6)) (rP (ri 6)) (rD (ri 6))) (fun X hX hF => mo (flowV exPts _ 17 X ⟨some ⟨gp, 0, none⟩, 4, 4, rfl, Blk.rdP (hBp.bel hX) 4 rfl (by unfold maxLen; omega), rfl, by omega⟩ few_ex) (by rw [flow_ex.2.2.2.2.1])) ?_
      refine jm (.slice (some ⟨gf, 0, none⟩) 7 7) ?_
      refine jm (.int .i64 (4 : Int)) ?_
      refine jv (.pointer (some ⟨gf, 0 + 4 * 3, none⟩)) (exec_ixv Tryz.underlying79 info_rat _ _ (by rfl) gf (0) 7 7 4 (by omega) (by rfl) (by rfl) rfl) ?_
      refine jg (rt (rN (ri 6)) (rP (ri 6)) (rD (ri 6))) (fun X hX hF => exec_ldc 23 _ (by rfl) gf (0 + 4 * 3) (by rfl) Tryz.underlying23 rfl [.bool (rN (ri 6)), .string ⟨(rP (ri 6)).toArray⟩, .string ⟨(rD (ri 6)).toArray⟩] X (Cl.part (hcgf.below hX hbgf) 0 _ (by rfl)) info_rat) ?_
      refine jv (.bool false) (exec_ner _ _ (by rfl) (rN (ri 6)) (rP (ri 6)) (rD (ri 6)) (rN (ri 6)) (rP (ri 6)) (rD (ri 6)) (by rfl) (by rfl) false (rb_eqt rfl)) ?_
      refine jz fun X3 hX3 => ?_
      have hD1 := hD1.bel hX3
      have hBp := hBp.bel hX3
      have hBgs := hBgs.bel hX3
      have hBgf := hBgf.bel hX3
      have hcgs := hcgs.below hX3 hbgs
      have hcgf := hcgf.below hX3 hbgf
      replace hbgs := Nat.lt_of_lt_of_le hbgs (hX3).size
      replace hbgf := Nat.lt_of_lt_of_le hbgf (hX3).size
      have hb := bel_next hb hX3
      clear hX3
      go_upto_region 11 with (fail)
      refine jp ?_
      refine jv (.int .i64 ((4 + 1 : Nat) : Int)) (exec_add _ _ _ _ (by rfl) (4 : Int) 1 ((4 + 1 : Nat) : Int) (by rfl) (by rfl) (by decide) (by omega) (by omega)) ?_
      refine jm (.int .i64 ((4 + 1 : Nat) : Int)) ?_
      refine jz fun X4 hX4 => ?_
      have hD1 := hD1.bel hX4
      have hBp := hBp.bel hX4
      have hBgs := hBgs.bel hX4
      have hBgf := hBgf.bel hX4
      have hb := bel_next hb hX4
      clear hX4
      go_wp2
      go_roundw
      case rel => exact ⟨4 + 1, by omega, rfl, hD1, hBp, hBgs, hBgf, hb⟩
      case measure => decide
    · rw [show ((5 : Nat) : Int) = 5 from rfl]
      go_upto_region 7 with (fail)
      refine jp ?_
      refine jv (.bool true) (exec_lss _ _ _ _ (by rfl) .i64 (5 : Int) (7 : Int) (by rfl) (by rfl) true (by decide)) ?_
      refine jz fun X1 hX1 => ?_
      have hD1 := hD1.bel hX1
      have hBp := hBp.bel hX1
      have hBgs := hBgs.bel hX1
      have hBgf := hBgf.bel hX1
      have hb := bel_next hb hX1
      clear hX1
      have hcgs : Cl X1 gs (0 + 5 * 1) [.int .i64 21] := hBgs.cl.part (5 * 1) [.int .i64 21] (by rfl)
      have hbgs := hBgs.lt
      have hcgf : Cl X1 gf (0 + 5 * 3) [.bool (rN (rk 13 2)), .string ⟨(rP (rk 13 2)).toArray⟩, .string ⟨(rD (rk 13 2)).toArray⟩] := hBgf.cl.part (5 * 3) [.bool (rN (rk 13 2)), .string ⟨(rP (rk 13 2)).toArray⟩, .string ⟨(rD (rk 13 2)).toArray⟩] (by rfl)
      have hbgf := hBgf.lt
      go_upto_region 8 with (fail)
      refine jp ?_
      refine jm (.int .i64 (5 : Int)) ?_
      refine jv (.pointer (some ⟨gs, 0 + 5 * 1, none⟩)) (exec_ixv Tryz.underlying108 info_int1 _ _ (by rfl) gs (0) 7 7 5 (by omega) (by rfl) (by rfl) rfl) ?_
      refine jg (.int .i64 21) (fun X hX hF => exec_ld 3 _ (by rfl) gs (0 + 5 * 1) (by rfl) _ X ((hcgs.below hX hbgs) 0 _ rfl) (fun X u h => load_int gs (0 + 5 * 1) X u h)) ?_
      refine jm (.int .i64 (5 : Int)) ?_
      refine jm (.int .i64 21) ?_
      refine jz fun X2 hX2 => ?_
      have hD1 := hD1.bel hX2
      have hBp := hBp.bel hX2
      have hBgs := hBgs.bel hX2
      have hBgf := hBgf.bel hX2
      have hcgs := hcgs.below hX2 hbgs
      have hcgf := hcgf.below hX2 hbgf
      replace hbgs := Nat.lt_of_lt_of_le hbgs (hX2).size
      replace hbgf := Nat.lt_of_lt_of_le hbgf (hX2).size
      have hb := bel_next hb hX2
      clear hX2
      go_upto_region 9 with (fail)
      refine jd ?_
      refine ja hD1 Tryz.underlying48 (by rfl) info_cv ?_
      refine jm (.int .i64 21) ?_
      refine jc (rt (rN (rk 13 2)) (rP (rk 13 2)) (rD (rk 13 2))) (fun X hX hF => mo (flowV exPts _ 21 X ⟨some ⟨gp, 0, none⟩, 4, 4, rfl, Blk.rdP (hBp.bel hX) 4 rfl (by unfold maxLen; omega), rfl, by omega⟩ few_ex) (by rw [flow_ex.2.2.2.2.2.1])) ?_
      refine jm (.slice (some ⟨gf, 0, none⟩) 7 7) ?_
      refine jm (.int .i64 (5 : Int)) ?_
      refine jv (.pointer (some ⟨gf, 0 + 5 * 3, none⟩)) (exec_ixv Tryz.underlying79 info_rat _ _ (by rfl) gf (0) 7 7 5 (by omega) (by rfl) (by rfl) rfl) ?_
      refine jg (rt (rN (rk 13 2)) (rP (rk 13 2)) (rD (rk 13 2))) (fun X hX hF => exec_ldc 23 _ (by rfl) gf (0 + 5 * 3) (by rfl) Tryz.underlying23 rfl [.bool (rN (rk 13 2)), .string ⟨(rP (rk 13 2)).toArray⟩, .string ⟨(rD (rk 13 2)).toArray⟩] X (Cl.part (hcgf.below hX hbgf) 0 _ (by rfl)) info_rat) ?_
      refine jv (.bool false) (exec_ner _ _ (by rfl) (rN (rk 13 2)) (rP (rk 13 2)) (rD (rk 13 2)) (rN (rk 13 2)) (rP (rk 13 2)) (rD (rk 13 2)) (by rfl) (by rfl) false (rb_eqt rfl)) ?_
      refine jz fun X3 hX3 => ?_
      have hD1 := hD1.bel hX3
      have hBp := hBp.bel hX3
      have hBgs := hBgs.bel hX3
      have hBgf := hBgf.bel hX3
      have hcgs := hcgs.below hX3 hbgs
      have hcgf := hcgf.below hX3 hbgf
      replace hbgs := Nat.lt_of_lt_of_le hbgs (hX3).size
      replace hbgf := Nat.lt_of_lt_of_le hbgf (hX3).size
      have hb := bel_next hb hX3
      clear hX3
      go_upto_region 11 with (fail)
      refine jp ?_
      refine jv (.int .i64 ((5 + 1 : Nat) : Int)) (exec_add _ _ _ _ (by rfl) (5 : Int) 1 ((5 + 1 : Nat) : Int) (by rfl) (by rfl) (by decide) (by omega) (by omega)) ?_
      refine jm (.int .i64 ((5 + 1 : Nat) : Int)) ?_
      refine jz fun X4 hX4 => ?_
      have hD1 := hD1.bel hX4
      have hBp := hBp.bel hX4
      have hBgs := hBgs.bel hX4
      have hBgf := hBgf.bel hX4
      have hb := bel_next hb hX4
      clear hX4
      go_wp2
      go_roundw
      case rel => exact ⟨5 + 1, by omega, rfl, hD1, hBp, hBgs, hBgf, hb⟩
      case measure => decide
    · rw [show ((6 : Nat) : Int) = 6 from rfl]
      go_upto_region 7 with (fail)
      refine jp ?_
      refine jv (.bool true) (exec_lss _ _ _ _ (by rfl) .i64 (6 : Int) (7 : Int) (by rfl) (by rfl) true (by decide)) ?_
      refine jz fun X1 hX1 => ?_
      have hD1 := hD1.bel hX1
      have hBp := hBp.bel hX1
      have hBgs := hBgs.bel hX1
      have hBgf := hBgf.bel hX1
      have hb := bel_next hb hX1
      clear hX1
      have hcgs : Cl X1 gs (0 + 6 * 1) [.int .i64 99] := hBgs.cl.part (6 * 1) [.int .i64 99] (by rfl)
      have hbgs := hBgs.lt
      have hcgf : Cl X1 gf (0 + 6 * 3) [.bool (rN (ri 7)), .string ⟨(rP (ri 7)).toArray⟩, .string ⟨(rD (ri 7)).toArray⟩] := hBgf.cl.part (6 * 3) [.bool (rN (ri 7)), .string ⟨(rP (ri 7)).toArray⟩, .string ⟨(rD (ri 7)).toArray⟩] (by rfl)
      have hbgf := hBgf.lt
      go_upto_region 8 with (fail)
      refine jp ?_
      refine jm (.int .i64 (6 : Int)) ?_
      refine jv (.pointer (some ⟨gs, 0 + 6 * 1, none⟩)) (exec_ixv Tryz.underlying108 info_int1 _ _ (by rfl) gs (0) 7 7 6 (by omega) (by rfl) (by rfl) rfl) ?_
      refine jg (.int .i64 99) (fun X hX hF => exec_ld 3 _ (by rfl) gs (0 + 6 * 1) (by rfl) _ X ((hcgs.below hX hbgs) 0 _ rfl) (fun X u h => load_int gs (0 + 6 * 1) X u h)) ?_
      refine jm (.int .i64 (6 : Int)) ?_
      refine jm (.int .i64 99) ?_
      refine jz fun X2 hX2 => ?_
      have hD1 := hD1.bel hX2
      have hBp := hBp.bel hX2
      have hBgs := hBgs.bel hX2
      have hBgf := hBgf.bel hX2
      have hcgs := hcgs.below hX2 hbgs
      have hcgf := hcgf.below hX2 hbgf
      replace hbgs := Nat.lt_of_lt_of_le hbgs (hX2).size
      replace hbgf := Nat.lt_of_lt_of_le hbgf (hX2).size
      have hb := bel_next hb hX2
      clear hX2
      go_upto_region 9 with (fail)
      refine jd ?_
      refine ja hD1 Tryz.underlying48 (by rfl) info_cv ?_
      refine jm (.int .i64 99) ?_
      refine jc (rt (rN (ri 7)) (rP (ri 7)) (rD (ri 7))) (fun X hX hF => mo (flowV exPts _ 99 X ⟨some ⟨gp, 0, none⟩, 4, 4, rfl, Blk.rdP (hBp.bel hX) 4 rfl (by unfold maxLen; omega), rfl, by omega⟩ few_ex) (by rw [flow_ex.2.2.2.2.2.2])) ?_
      refine jm (.slice (some ⟨gf, 0, none⟩) 7 7) ?_
      refine jm (.int .i64 (6 : Int)) ?_
      refine jv (.pointer (some ⟨gf, 0 + 6 * 3, none⟩)) (exec_ixv Tryz.underlying79 info_rat _ _ (by rfl) gf (0) 7 7 6 (by omega) (by rfl) (by rfl) rfl) ?_
      refine jg (rt (rN (ri 7)) (rP (ri 7)) (rD (ri 7))) (fun X hX hF => exec_ldc 23 _ (by rfl) gf (0 + 6 * 3) (by rfl) Tryz.underlying23 rfl [.bool (rN (ri 7)), .string ⟨(rP (ri 7)).toArray⟩, .string ⟨(rD (ri 7)).toArray⟩] X (Cl.part (hcgf.below hX hbgf) 0 _ (by rfl)) info_rat) ?_
      refine jv (.bool false) (exec_ner _ _ (by rfl) (rN (ri 7)) (rP (ri 7)) (rD (ri 7)) (rN (ri 7)) (rP (ri 7)) (rD (ri 7)) (by rfl) (by rfl) false (rb_eqt rfl)) ?_
      refine jz fun X3 hX3 => ?_
      have hD1 := hD1.bel hX3
      have hBp := hBp.bel hX3
      have hBgs := hBgs.bel hX3
      have hBgf := hBgf.bel hX3
      have hcgs := hcgs.below hX3 hbgs
      have hcgf := hcgf.below hX3 hbgf
      replace hbgs := Nat.lt_of_lt_of_le hbgs (hX3).size
      replace hbgf := Nat.lt_of_lt_of_le hbgf (hX3).size
      have hb := bel_next hb hX3
      clear hX3
      go_upto_region 11 with (fail)
      refine jp ?_
      refine jv (.int .i64 ((6 + 1 : Nat) : Int)) (exec_add _ _ _ _ (by rfl) (6 : Int) 1 ((6 + 1 : Nat) : Int) (by rfl) (by rfl) (by decide) (by omega) (by omega)) ?_
      refine jm (.int .i64 ((6 + 1 : Nat) : Int)) ?_
      refine jz fun X4 hX4 => ?_
      have hD1 := hD1.bel hX4
      have hBp := hBp.bel hX4
      have hBgs := hBgs.bel hX4
      have hBgf := hBgf.bel hX4
      have hb := bel_next hb hX4
      clear hX4
      go_wp2
      go_roundw
      case rel => exact ⟨6 + 1, by omega, rfl, hD1, hBp, hBgs, hBgf, hb⟩
      case measure => decide
    · rw [show ((7 : Nat) : Int) = 7 from rfl]
      go_upto_region 7 with (fail)
      refine jp ?_
      refine jv (.bool false) (exec_lss _ _ _ _ (by rfl) .i64 (7 : Int) (7 : Int) (by rfl) (by rfl) false (by decide)) ?_
      refine jz fun X1 hX1 => ?_
      have hD1 := hD1.bel hX1
      have hBp := hBp.bel hX1
      have hBgs := hBgs.bel hX1
      have hBgf := hBgf.bel hX1
      have hb := bel_next hb hX1
      clear hX1
      clear hBgs hBgf
      go_upto_region 12 with (fail)
      refine lx_plain [none, none, none, none, none, some (Bsl 23 [.bool false, .string ⟨#[]⟩, .string ⟨#[]⟩, .bool (rN (rk 1 2)), .string ⟨(rP (rk 1 2)).toArray⟩, .string ⟨(rD (rk 1 2)).toArray⟩, .bool (rN (rk 3 2)), .string ⟨(rP (rk 3 2)).toArray⟩, .string ⟨(rD (rk 3 2)).toArray⟩, .bool (rN (ri 6)), .string ⟨(rP (ri 6)).toArray⟩, .string ⟨(rD (ri 6)).toArray⟩, .bool (rN (rk 13 2)), .string ⟨(rP (rk 13 2)).toArray⟩, .string ⟨(rD (rk 13 2)).toArray⟩] 5)] (lasts_none (lasts_none (lasts_none (lasts_none (lasts_none (lasts_some (Bsl.lasts _ _ _) (lasts_nil))))))) ?_
      simp only [iX, Nat.reduceAdd]
      refine jn (rz) ?_
      refine jc (rt (rN (rk 1 2)) (rP (rk 1 2)) (rD (rk 1 2))) (fun X hX hF => quotC (1) (2) (rk 1 2) rfl X (by decide) (by decide) (by decide)) ?_
      refine jc (rt (rN (rk 3 2)) (rP (rk 3 2)) (rD (rk 3 2))) (fun X hX hF => quotC (3) (2) (rk 3 2) rfl X (by decide) (by decide) (by decide)) ?_
      refine jc (rt (rN (ri 6)) (rP (ri 6)) (rD (ri 6))) (fun X hX hF => rintQ (6) X (by decide)) ?_
      refine jc (rt (rN (rk 13 2)) (rP (rk 13 2)) (rD (rk 13 2))) (fun X hX hF => quotC (13) (2) (rk 13 2) rfl X (by decide) (by decide) (by decide)) ?_
      refine lx_new (by rfl) (fun X hX hF => Bsl.mk 23 [.bool false, .string ⟨#[]⟩, .string ⟨#[]⟩, .bool (rN (rk 1 2)), .string ⟨(rP (rk 1 2)).toArray⟩, .string ⟨(rD (rk 1 2)).toArray⟩, .bool (rN (rk 3 2)), .string ⟨(rP (rk 3 2)).toArray⟩, .string ⟨(rD (rk 3 2)).toArray⟩, .bool (rN (ri 6)), .string ⟨(rP (ri 6)).toArray⟩, .string ⟨(rD (ri 6)).toArray⟩, .bool (rN (rk 13 2)), .string ⟨(rP (rk 13 2)).toArray⟩, .string ⟨(rD (rk 13 2)).toArray⟩] 5 (by unfold execOp; go_simp)) ?_
      intro v58
      simp only [pX]
      refine jm (v58) ?_
      refine lx_nil ?_
      intro X2 hX2 hF
      have hv58 := hF _ _ List.mem_cons_self
      have hD1 := hD1.bel hX2
      have hBp := hBp.bel hX2
      have hb := bel_next hb hX2
      clear hF hX2
      obtain ⟨ga, rfl, hBga⟩ := hv58
      go_upto_region 13 with (fail)
      refine lx_plain [some (Bsl 3 [.int .i64 (-1000), .int .i64 11, .int .i64 11, .int .i64 14, .int .i64 21] 5)] (lasts_some (Bsl.lasts _ _ _) (lasts_nil)) ?_
      simp only [iX, Nat.reduceAdd]
      refine lx_new (by rfl) (fun X hX hF => Bsl.mk 3 [.int .i64 (-1000), .int .i64 11, .int .i64 11, .int .i64 14, .int .i64 21] 5 (by unfold execOp; go_simp)) ?_
      intro v59
      simp only [pX]
      refine jg (.int .i64 (5 : Int)) (fun X hX hF => by obtain ⟨g9, h9, _⟩ := (hF _ _ List.mem_cons_self rfl); subst h9; exact exec_lenv Tryz.underlying108 _ (by rfl) (some ⟨g9, 0, none⟩) 5 5 (by rfl) _ rfl X) ?_
      refine jm (.int .i64 0) ?_
      refine lx_nil ?_
      intro X3 hX3 hF
      have hv59 := hF _ _ List.mem_cons_self
      have hD1 := hD1.bel hX3
      have hBp := hBp.bel hX3
      have hBga := hBga.bel hX3
      have hb := bel_next hb hX3
      clear hF hX3
      obtain ⟨gw, rfl, hBgw⟩ := hv59
      go_wp2
      go_loopw [61] (fun kv wr => ∃ k : Nat, k ≤ 5 ∧ kv = .int .i64 (k : Int) ∧ Blk wr g1 48 ([.slice (some ⟨gp, 0, none⟩) 4 4]) ∧ Blk wr gp 110 (fl ptc exPts) ∧ Blk wr ga 23 ([.bool false, .string ⟨#[]⟩, .string ⟨#[]⟩, .bool (rN (rk 1 2)), .string ⟨(rP (rk 1 2)).toArray⟩, .string ⟨(rD (rk 1 2)).toArray⟩, .bool (rN (rk 3 2)), .string ⟨(rP (rk 3 2)).toArray⟩, .string ⟨(rD (rk 3 2)).toArray⟩, .bool (rN (ri 6)), .string ⟨(rP (ri 6)).toArray⟩, .string ⟨(rD (ri 6)).toArray⟩, .bool (rN (rk 13 2)), .string ⟨(rP (rk 13 2)).toArray⟩, .string ⟨(rD (rk 13 2)).toArray⟩]) ∧ Blk wr gw 3 ([.int .i64 (-1000), .int .i64 11, .int .i64 11, .int .i64 14, .int .i64 21]) ∧ Below w.heap.size w wr) (fun kv _ => 5 - (intOf kv).toNat)
      case atStart => exact ⟨0, by omega, rfl, hD1, hBp, hBga, hBgw, hb⟩
      case round =>
        clear hD1 hBp hBga hBgw hb
        obtain ⟨k, hk, rfl, hD1, hBp, hBga, hBgw, hb⟩ := hrel
        obtain rfl | rfl | rfl | rfl | rfl | rfl : k = 0 ∨ k = 1 ∨ k = 2 ∨ k = 3 ∨ k = 4 ∨ k = 5 := by omega
        · rw [show ((0 : Nat) : Int) = 0 from rfl]
          go_upto_region 14 with (fail)
          refine jp ?_
          refine jv (.bool true) (exec_lss _ _ _ _ (by rfl) .i64 (0 : Int) (5 : Int) (by rfl) (by rfl) true (by decide)) ?_
          refine jz fun X1 hX1 => ?_
          have hD1 := hD1.bel hX1
          have hBp := hBp.bel hX1
          have hBga := hBga.bel hX1
          have hBgw := hBgw.bel hX1
          have hb := bel_next hb hX1
          clear hX1
          have hcgw : Cl X1 gw (0 + 0 * 1) [.int .i64 (-1000)] := hBgw.cl.part (0 * 1) [.int .i64 (-1000)] (by rfl)
          have hbgw := hBgw.lt
          have hcga : Cl X1 ga (0 + 0 * 3) [.bool false, .string ⟨#[]⟩, .string ⟨#[]⟩] := hBga.cl.part (0 * 3) [.bool false, .string ⟨#[]⟩, .string ⟨#[]⟩] (by rfl)
          have hbga := hBga.lt
          go_upto_region 15 with (fail)
          refine jp ?_
          refine jm (.int .i64 (0 : Int)) ?_
          refine jv (.pointer (some ⟨gw, 0 + 0 * 1, none⟩)) (exec_ixv Tryz.underlying108 info_int1 _ _ (by rfl) gw (0) 5 5 0 (by omega) (by rfl) (by rfl) rfl) ?_
          refine jg (.int .i64 (-1000)) (fun X hX hF => exec_ld 3 _ (by rfl) gw (0 + 0 * 1) (by rfl) _ X ((hcgw.below hX hbgw) 0 _ rfl) (fun X u h => load_int gw (0 + 0 * 1) X u h)) ?_
          refine jm (.int .i64 (0 : Int)) ?_
          refine jm (.int .i64 (-1000)) ?_
          refine jz fun X2 hX2 => ?_
          have hD1 := hD1.bel hX2
          have hBp := hBp.bel hX2
          have hBga := hBga.bel hX2
          have hBgw := hBgw.bel hX2
          have hcgw := hcgw.below hX2 hbgw
          have hcga := hcga.below hX2 hbga
          replace hbgw := Nat.lt_of_lt_of_le hbgw (hX2).size
          replace hbga := Nat.lt_of_lt_of_le hbga (hX2).size
          have hb := bel_next hb hX2
          clear hX2
          go_upto_region 16 with (fail)
          refine jd ?_
          refine ja hD1 Tryz.underlying48 (by rfl) info_cv ?_
          refine jm (.slice (some ⟨ga, 0, none⟩) 5 5) ?_
          refine jm (.int .i64 (0 : Int)) ?_
          refine jv (.pointer (some ⟨ga, 0 + 0 * 3, none⟩)) (exec_ixv Tryz.underlying79 info_rat _ _ (by rfl) ga (0) 5 5 0 (by omega) (by rfl) (by rfl) rfl) ?_
          refine jg (rz) (fun X hX hF => exec_ldc 23 _ (by rfl) ga (0 + 0 * 3) (by rfl) Tryz.underlying23 rfl [.bool false, .string ⟨#[]⟩, .string ⟨#[]⟩] X (Cl.part (hcga.below hX hbga) 0 _ (by rfl)) info_rat) ?_
          refine jc (.tuple #[.int .i64 (-1000), .int .i64 0]) (fun X hX hF => mo (leastV exPts _ false [] [] rq_zero tz_nil X ⟨some ⟨gp, 0, none⟩, 4, 4, rfl, Blk.rdP (hBp.bel hX) 4 rfl (by unfold maxLen; omega), rfl, by omega⟩ few_ex) (by rw [show vd false [] [] = true from rfl, le_ex0.1, le_ex0.2])) ?_
          refine jm (.tuple #[.int .i64 (-1000), .int .i64 0]) ?_
          refine jm (.int .i64 (-1000)) ?_
          refine jm (.int .i64 0) ?_
          refine jm (.int .i64 (-1000)) ?_
          refine jm (.int .i64 0) ?_
          refine jz fun X3 hX3 => ?_
          have hD1 := hD1.bel hX3
          have hBp := hBp.bel hX3
          have hBga := hBga.bel hX3
          have hBgw := hBgw.bel hX3
          have hcgw := hcgw.below hX3 hbgw
          have hcga := hcga.below hX3 hbga
          replace hbgw := Nat.lt_of_lt_of_le hbgw (hX3).size
          replace hbga := Nat.lt_of_lt_of_le hbga (hX3).size
          have hb := bel_next hb hX3
          clear hX3
          go_upto_region 17 with (fail)
          refine jp ?_
          refine jm (.int .i64 (-1000)) ?_
          refine jm (.int .i64 (-1000)) ?_
          refine jv (.bool false) (exec_nei _ _ _ _ (by rfl) .i64 (-1000) (-1000) (by rfl) (by rfl) false (by rw [decide_eq_true (by omega)]; rfl)) ?_
          refine jm (.bool false) ?_
          refine jm (.int .i64 0) ?_
          refine jv (.bool false) (exec_nei _ _ _ _ (by rfl) .i64 0 0 (by rfl) (by rfl) false (by rw [decide_eq_true (by omega)]; rfl)) ?_
          refine jm (.bool false) ?_
          refine jz fun X4 hX4 => ?_
          have hD1 := hD1.bel hX4
          have hBp := hBp.bel hX4
          have hBga := hBga.bel hX4
          have hBgw := hBgw.bel hX4
          have hb := bel_next hb hX4
          clear hX4
          go_upto_region 19 with (fail)
          refine jp ?_
          refine jv (.int .i64 ((0 + 1 : Nat) : Int)) (exec_add _ _ _ _ (by rfl) (0 : Int) 1 ((0 + 1 : Nat) : Int) (by rfl) (by rfl) (by decide) (by omega) (by omega)) ?_
          refine jm (.int .i64 ((0 + 1 : Nat) : Int)) ?_
          refine jz fun X5 hX5 => ?_
          have hD1 := hD1.bel hX5
          have hBp := hBp.bel hX5
          have hBga := hBga.bel hX5
          have hBgw := hBgw.bel hX5
          have hb := bel_next hb hX5
          clear hX5
          go_wp2
          go_roundw
          case rel => exact ⟨0 + 1, by omega, rfl, hD1, hBp, hBga, hBgw, hb⟩
          case measure => decide
        · rw [show ((1 : Nat) : Int) = 1 from rfl]
          go_upto_region 14 with (fail)
          refine jp ?_
          refine jv (.bool true) (exec_lss _ _ _ _ (by rfl) .i64 (1 : Int) (5 : Int) (by rfl) (by rfl) true (by decide)) ?_
          refine jz fun X1 hX1 => ?_
          have hD1 := hD1.bel hX1
          have hBp := hBp.bel hX1
          have hBga := hBga.bel hX1
          have hBgw := hBgw.bel hX1
          have hb := bel_next hb hX1
          clear hX1
          have hcgw : Cl X1 gw (0 + 1 * 1) [.int .i64 11] := hBgw.cl.part (1 * 1) [.int .i64 11] (by rfl)
          have hbgw := hBgw.lt
          have hcga : Cl X1 ga (0 + 1 * 3) [.bool (rN (rk 1 2)), .string ⟨(rP (rk 1 2)).toArray⟩, .string ⟨(rD (rk 1 2)).toArray⟩] := hBga.cl.part (1 * 3) [.bool (rN (rk 1 2)), .string ⟨(rP (rk 1 2)).toArray⟩, .string ⟨(rD (rk 1 2)).toArray⟩] (by rfl)
          have hbga := hBga.lt
          go_upto_region 15 with (fail)
          refine jp ?_
          refine jm (.int .i64 (1 : Int)) ?_
          refine jv (.pointer (some ⟨gw, 0 + 1 * 1, none⟩)) (exec_ixv Tryz.underlying108 info_int1 _ _ (by rfl) gw (0) 5 5 1 (by omega) (by rfl) (by rfl) rfl) ?_
          refine jg (.int .i64 11) (fun X hX hF => exec_ld 3 _ (by rfl) gw (0 + 1 * 1) (by rfl) _ X ((hcgw.below hX hbgw) 0 _ rfl) (fun X u h => load_int gw (0 + 1 * 1) X u h)) ?_
          refine jm (.int .i64 (1 : Int)) ?_
          refine jm (.int .i64 11) ?_
          refine jz fun X2 hX2 => ?_
          have hD1 := hD1.bel hX2
          have hBp := hBp.bel hX2
          have hBga := hBga.bel hX2
          have hBgw := hBgw.bel hX2
          have hcgw := hcgw.below hX2 hbgw
          have hcga := hcga.below hX2 hbga
          replace hbgw := Nat.lt_of_lt_of_le hbgw (hX2).size
          replace hbga := Nat.lt_of_lt_of_le hbga (hX2).size
          have hb := bel_next hb hX2
          clear hX2
          go_upto_region 16 with (fail)
          refine jd ?_
          refine ja hD1 Tryz.underlying48 (by rfl) info_cv ?_
          refine jm (.slice (some ⟨ga, 0, none⟩) 5 5) ?_
          refine jm (.int .i64 (1 : Int)) ?_
          refine jv (.pointer (some ⟨ga, 0 + 1 * 3, none⟩)) (exec_ixv Tryz.underlying79 info_rat _ _ (by rfl) ga (0) 5 5 1 (by omega) (by rfl) (by rfl) rfl) ?_
          refine jg (rt (rN (rk 1 2)) (rP (rk 1 2)) (rD (rk 1 2))) (fun X hX hF => exec_ldc 23 _ (by rfl) ga (0 + 1 * 3) (by rfl) Tryz.underlying23 rfl [.bool (rN (rk 1 2)), .string ⟨(rP (rk 1 2)).toArray⟩, .string ⟨(rD (rk 1 2)).toArray⟩] X (Cl.part (hcga.below hX hbga) 0 _ (by rfl)) info_rat) ?_
          refine jc (.tuple #[.int .i64 11, .int .i64 0]) (fun X hX hF => mo (leastV exPts _ (rN (rk 1 2)) (rP (rk 1 2)) (rD (rk 1 2)) (rq_rb (rk 1 2)) (tzR LB0 (by omega)) X ⟨some ⟨gp, 0, none⟩, 4, 4, rfl, Blk.rdP (hBp.bel hX) 4 rfl (by unfold maxLen; omega), rfl, by omega⟩ few_ex) (by rw [vd_rb, le_ex1.1, le_ex1.2])) ?_
          refine jm (.tuple #[.int .i64 11, .int .i64 0]) ?_
          refine jm (.int .i64 11) ?_
          refine jm (.int .i64 0) ?_
          refine jm (.int .i64 11) ?_
          refine jm (.int .i64 0) ?_
          refine jz fun X3 hX3 => ?_
          have hD1 := hD1.bel hX3
          have hBp := hBp.bel hX3
          have hBga := hBga.bel hX3
          have hBgw := hBgw.bel hX3
          have hcgw := hcgw.below hX3 hbgw
          have hcga := hcga.below hX3 hbga
          replace hbgw := Nat.lt_of_lt_of_le hbgw (hX3).size
          replace hbga := Nat.lt_of_lt_of_le hbga (hX3).size
          have hb := bel_next hb hX3
          clear hX3
          go_upto_region 17 with (fail)
          refine jp ?_
          refine jm (.int .i64 11) ?_
          refine jm (.int .i64 11) ?_
          refine jv (.bool false) (exec_nei _ _ _ _ (by rfl) .i64 11 11 (by rfl) (by rfl) false (by rw [decide_eq_true (by omega)]; rfl)) ?_
          refine jm (.bool false) ?_
          refine jm (.int .i64 0) ?_
          refine jv (.bool false) (exec_nei _ _ _ _ (by rfl) .i64 0 0 (by rfl) (by rfl) false (by rw [decide_eq_true (by omega)]; rfl)) ?_
          refine jm (.bool false) ?_
          refine jz fun X4 hX4 => ?_
          have hD1 := hD1.bel hX4
          have hBp := hBp.bel hX4
          have hBga := hBga.bel hX4
          have hBgw := hBgw.bel hX4
          have hb := bel_next hb hX4
          clear hX4
          go_upto_region 19 with (fail)
          refine jp ?_
          refine jv (.int .i64 ((1 + 1 : Nat) : Int)) (exec_add _ _ _ _ (by rfl) (1 : Int) 1 ((1 + 1 : Nat) : Int) (by rfl) (by rfl) (by decide) (by omega) (by omega)) ?_
          refine jm (.int .i64 ((1 + 1 : Nat) : Int)) ?_
          refine jz fun X5 hX5 => ?_
          have hD1 := hD1.bel hX5
          have hBp := hBp.bel hX5
          have hBga := hBga.bel hX5
          have hBgw := hBgw.bel hX5
          have hb := bel_next hb hX5
          clear hX5
          go_wp2
          go_roundw
          case rel => exact ⟨1 + 1, by omega, rfl, hD1, hBp, hBga, hBgw, hb⟩
          case measure => decide
        · rw [show ((2 : Nat) : Int) = 2 from rfl]
          go_upto_region 14 with (fail)
          refine jp ?_
          refine jv (.bool true) (exec_lss _ _ _ _ (by rfl) .i64 (2 : Int) (5 : Int) (by rfl) (by rfl) true (by decide)) ?_
          refine jz fun X1 hX1 => ?_
          have hD1 := hD1.bel hX1
          have hBp := hBp.bel hX1
          have hBga := hBga.bel hX1
          have hBgw := hBgw.bel hX1
          have hb := bel_next hb hX1
          clear hX1
          have hcgw : Cl X1 gw (0 + 2 * 1) [.int .i64 11] := hBgw.cl.part (2 * 1) [.int .i64 11] (by rfl)
          have hbgw := hBgw.lt
          have hcga : Cl X1 ga (0 + 2 * 3) [.bool (rN (rk 3 2)), .string ⟨(rP (rk 3 2)).toArray⟩, .string ⟨(rD (rk 3 2)).toArray⟩] := hBga.cl.part (2 * 3) [.bool (rN (rk 3 2)), .string ⟨(rP (rk 3 2)).toArray⟩, .string ⟨(rD (rk 3 2)).toArray⟩] (by rfl)
          have hbga := hBga.lt
          go_upto_region 15 with (fail)
          refine jp ?_
          refine jm (.int .i64 (2 : Int)) ?_
          refine jv (.pointer (some ⟨gw, 0 + 2 * 1, none⟩)) (exec_ixv Tryz.underlying108 info_int1 _ _ (by rfl) gw (0) 5 5 2 (by omega) (by rfl) (by rfl) rfl) ?_
          refine jg (.int .i64 11) (fun X hX hF => exec_ld 3 _ (by rfl) gw (0 + 2 * 1) (by rfl) _ X ((hcgw.below hX hbgw) 0 _ rfl) (fun X u h => load_int gw (0 + 2 * 1) X u h)) ?_
          refine jm (.int .i64 (2 : Int)) ?_
          refine jm (.int .i64 11) ?_
          refine jz fun X2 hX2 => ?_
          have hD1 := hD1.bel hX2
          have hBp := hBp.bel hX2
          have hBga := hBga.bel hX2
          have hBgw := hBgw.bel hX2
          have hcgw := hcgw.below hX2 hbgw
          have hcga := hcga.below hX2 hbga
          replace hbgw := Nat.lt_of_lt_of_le hbgw (hX2).size
          replace hbga := Nat.lt_of_lt_of_le hbga (hX2).size
          have hb := bel_next hb hX2
          clear hX2
          go_upto_region 16 with (fail)
          refine jd ?_
          refine ja hD1 Tryz.underlying48 (by rfl) info_cv ?_
          refine jm (.slice (some ⟨ga, 0, none⟩) 5 5) ?_
          refine jm (.int .i64 (2 : Int)) ?_
          refine jv (.pointer (some ⟨ga, 0 + 2 * 3, none⟩)) (exec_ixv Tryz.underlying79 info_rat _ _ (by rfl) ga (0) 5 5 2 (by omega) (by rfl) (by rfl) rfl) ?_
          refine jg (rt (rN (rk 3 2)) (rP (rk 3 2)) (rD (rk 3 2))) (fun X hX hF => exec_ldc 23 _ (by rfl) ga (0 + 2 * 3) (by rfl) Tryz.underlying23 rfl [.bool (rN (rk 3 2)), .string ⟨(rP (rk 3 2)).toArray⟩, .string ⟨(rD (rk 3 2)).toArray⟩] X (Cl.part (hcga.below hX hbga) 0 _ (by rfl)) info_rat) ?_
          refine jc (.tuple #[.int .i64 11, .int .i64 0]) (fun X hX hF => mo (leastV exPts _ (rN (rk 3 2)) (rP (rk 3 2)) (rD (rk 3 2)) (rq_rb (rk 3 2)) (tzR LB1 (by omega)) X ⟨some ⟨gp, 0, none⟩, 4, 4, rfl, Blk.rdP (hBp.bel hX) 4 rfl (by unfold maxLen; omega), rfl, by omega⟩ few_ex) (by rw [vd_rb, le_ex2.1, le_ex2.2])) ?_
          refine jm (.tuple #[.int .i64 11, .int .i64 0]) ?_
          refine jm (.int .i64 11) ?_
          refine jm (.int .i64 0) ?_
          refine jm (.int .i64 11) ?_
          refine jm (.int .i64 0) ?_
          refine jz fun X3 hX3 => ?_
          have hD1 := hD1.bel hX3
          have hBp := hBp.bel hX3
          have hBga := hBga.bel hX3
          have hBgw := hBgw.bel hX3
          have hcgw := hcgw.below hX3 hbgw
          have hcga := hcga.below hX3 hbga
          replace hbgw := Nat.lt_of_lt_of_le hbgw (hX3).size
          replace hbga := Nat.lt_of_lt_of_le hbga (hX3).size
          have hb := bel_next hb hX3
          clear hX3
          go_upto_region 17 with (fail)
          refine jp ?_
          refine jm (.int .i64 11) ?_
          refine jm (.int .i64 11) ?_
          refine jv (.bool false) (exec_nei _ _ _ _ (by rfl) .i64 11 11 (by rfl) (by rfl) false (by rw [decide_eq_true (by omega)]; rfl)) ?_
          refine jm (.bool false) ?_
          refine jm (.int .i64 0) ?_
          refine jv (.bool false) (exec_nei _ _ _ _ (by rfl) .i64 0 0 (by rfl) (by rfl) false (by rw [decide_eq_true (by omega)]; rfl)) ?_
          refine jm (.bool false) ?_
          refine jz fun X4 hX4 => ?_
          have hD1 := hD1.bel hX4
          have hBp := hBp.bel hX4
          have hBga := hBga.bel hX4
          have hBgw := hBgw.bel hX4
          have hb := bel_next hb hX4
          clear hX4
          go_upto_region 19 with (fail)
          refine jp ?_
          refine jv (.int .i64 ((2 + 1 : Nat) : Int)) (exec_add _ _ _ _ (by rfl) (2 : Int) 1 ((2 + 1 : Nat) : Int) (by rfl) (by rfl) (by decide) (by omega) (by omega)) ?_
          refine jm (.int .i64 ((2 + 1 : Nat) : Int)) ?_
          refine jz fun X5 hX5 => ?_
          have hD1 := hD1.bel hX5
          have hBp := hBp.bel hX5
          have hBga := hBga.bel hX5
          have hBgw := hBgw.bel hX5
          have hb := bel_next hb hX5
          clear hX5
          go_wp2
          go_roundw
          case rel => exact ⟨2 + 1, by omega, rfl, hD1, hBp, hBga, hBgw, hb⟩
          case measure => decide
        · rw [show ((3 : Nat) : Int) = 3 from rfl]
          go_upto_region 14 with (fail)
          refine jp ?_
          refine jv (.bool true) (exec_lss _ _ _ _ (by rfl) .i64 (3 : Int) (5 : Int) (by rfl) (by rfl) true (by decide)) ?_
          refine jz fun X1 hX1 => ?_
          have hD1 := hD1.bel hX1
          have hBp := hBp.bel hX1
          have hBga := hBga.bel hX1
          have hBgw := hBgw.bel hX1
          have hb := bel_next hb hX1
          clear hX1
          have hcgw : Cl X1 gw (0 + 3 * 1) [.int .i64 14] := hBgw.cl.part (3 * 1) [.int .i64 14] (by rfl)
          have hbgw := hBgw.lt
          have hcga : Cl X1 ga (0 + 3 * 3) [.bool (rN (ri 6)), .string ⟨(rP (ri 6)).toArray⟩, .string ⟨(rD (ri 6)).toArray⟩] := hBga.cl.part (3 * 3) [.bool (rN (ri 6)), .string ⟨(rP (ri 6)).toArray⟩, .string ⟨(rD (ri 6)).toArray⟩] (by rfl)
          have hbga := hBga.lt
          go_upto_region 15 with (fail)
          refine jp ?_
          refine jm (.int .i64 (3 : Int)) ?_
          refine jv (.pointer (some ⟨gw, 0 + 3 * 1, none⟩)) (exec_ixv Tryz.underlying108 info_int1 _ _ (by rfl) gw (0) 5 5 3 (by omega) (by rfl) (by rfl) rfl) ?_
          refine jg (.int .i64 14) (fun X hX hF => exec_ld 3 _ (by rfl) gw (0 + 3 * 1) (by rfl) _ X ((hcgw.below hX hbgw) 0 _ rfl) (fun X u h => load_int gw (0 + 3 * 1) X u h)) ?_
          refine jm (.int .i64 (3 : Int)) ?_
          refine jm (.int .i64 14) ?_
          refine jz fun X2 hX2 => ?_
          have hD1 := hD1.bel hX2
          have hBp := hBp.bel hX2
          have hBga := hBga.bel hX2
          have hBgw := hBgw.bel hX2
          have hcgw := hcgw.below hX2 hbgw
          have hcga := hcga.below hX2 hbga
          replace hbgw := Nat.lt_of_lt_of_le hbgw (hX2).size
          replace hbga := Nat.lt_of_lt_of_le hbga (hX2).size
          have hb := bel_next hb hX2
          clear hX2
          go_upto_region 16 with (fail)
          refine jd ?_
          refine ja hD1 Tryz.underlying48 (by rfl) info_cv ?_
          refine jm (.slice (some ⟨ga, 0, none⟩) 5 5) ?_
          refine jm (.int .i64 (3 : Int)) ?_
          refine jv (.pointer (some ⟨ga, 0 + 3 * 3, none⟩)) (exec_ixv Tryz.underlying79 info_rat _ _ (by rfl) ga (0) 5 5 3 (by omega) (by rfl) (by rfl) rfl) ?_
          refine jg (rt (rN (ri 6)) (rP (ri 6)) (rD (ri 6))) (fun X hX hF => exec_ldc 23 _ (by rfl) ga (0 + 3 * 3) (by rfl) Tryz.underlying23 rfl [.bool (rN (ri 6)), .string ⟨(rP (ri 6)).toArray⟩, .string ⟨(rD (ri 6)).toArray⟩] X (Cl.part (hcga.below hX hbga) 0 _ (by rfl)) info_rat) ?_
          refine jc (.tuple #[.int .i64 14, .int .i64 0]) (fun X hX hF => mo (leastV exPts _ (rN (ri 6)) (rP (ri 6)) (rD (ri 6)) (rq_rb (ri 6)) (tzR LB2 (by omega)) X ⟨some ⟨gp, 0, none⟩, 4, 4, rfl, Blk.rdP (hBp.bel hX) 4 rfl (by unfold maxLen; omega), rfl, by omega⟩ few_ex) (by rw [vd_rb, le_ex3.1, le_ex3.2])) ?_
          refine jm (.tuple #[.int .i64 14, .int .i64 0]) ?_
          refine jm (.int .i64 14) ?_
          refine jm (.int .i64 0) ?_
          refine jm (.int .i64 14) ?_
          refine jm (.int .i64 0) ?_
          refine jz fun X3 hX3 => ?_
          have hD1 := hD1.bel hX3
          have hBp := hBp.bel hX3
          have hBga := hBga.bel hX3
          have hBgw := hBgw.bel hX3
          have hcgw := hcgw.below hX3 hbgw
          have hcga := hcga.below hX3 hbga
          replace hbgw := Nat.lt_of_lt_of_le hbgw (hX3).size
          replace hbga := Nat.lt_of_lt_of_le hbga (hX3).size
          have hb := bel_next hb hX3
          clear hX3
          go_upto_region 17 with (fail)
          refine jp ?_
          refine jm (.int .i64 14) ?_
          refine jm (.int .i64 14) ?_
          refine jv (.bool false) (exec_nei _ _ _ _ (by rfl) .i64 14 14 (by rfl) (by rfl) false (by rw [decide_eq_true (by omega)]; rfl)) ?_
          refine jm (.bool false) ?_
          refine jm (.int .i64 0) ?_
          refine jv (.bool false) (exec_nei _ _ _ _ (by rfl) .i64 0 0 (by rfl) (by rfl) false (by rw [decide_eq_true (by omega)]; rfl)) ?_
          refine jm (.bool false) ?_
          refine jz fun X4 hX4 => ?_
          have hD1 := hD1.bel hX4
          have hBp := hBp.bel hX4
          have hBga := hBga.bel hX4
          have hBgw := hBgw.bel hX4
          have hb := bel_next hb hX4
          clear hX4
          go_upto_region 19 with (fail)
          refine jp ?_
          refine jv (.int .i64 ((3 + 1 : Nat) : Int)) (exec_add _ _ _ _ (by rfl) (3 : Int) 1 ((3 + 1 : Nat) : Int) (by rfl) (by rfl) (by decide) (by omega) (by omega)) ?_
          refine jm (.int .i64 ((3 + 1 : Nat) : Int)) ?_
          refine jz fun X5 hX5 => ?_
          have hD1 := hD1.bel hX5
          have hBp := hBp.bel hX5
          have hBga := hBga.bel hX5
          have hBgw := hBgw.bel hX5
          have hb := bel_next hb hX5
          clear hX5
          go_wp2
          go_roundw
          case rel => exact ⟨3 + 1, by omega, rfl, hD1, hBp, hBga, hBgw, hb⟩
          case measure => decide
        · rw [show ((4 : Nat) : Int) = 4 from rfl]
          go_upto_region 14 with (fail)
          refine jp ?_
          refine jv (.bool true) (exec_lss _ _ _ _ (by rfl) .i64 (4 : Int) (5 : Int) (by rfl) (by rfl) true (by decide)) ?_
          refine jz fun X1 hX1 => ?_
          have hD1 := hD1.bel hX1
          have hBp := hBp.bel hX1
          have hBga := hBga.bel hX1
          have hBgw := hBgw.bel hX1
          have hb := bel_next hb hX1
          clear hX1
          have hcgw : Cl X1 gw (0 + 4 * 1) [.int .i64 21] := hBgw.cl.part (4 * 1) [.int .i64 21] (by rfl)
          have hbgw := hBgw.lt
          have hcga : Cl X1 ga (0 + 4 * 3) [.bool (rN (rk 13 2)), .string ⟨(rP (rk 13 2)).toArray⟩, .string ⟨(rD (rk 13 2)).toArray⟩] := hBga.cl.part (4 * 3) [.bool (rN (rk 13 2)), .string ⟨(rP (rk 13 2)).toArray⟩, .string ⟨(rD (rk 13 2)).toArray⟩] (by rfl)
          have hbga := hBga.lt
          go_upto_region 15 with (fail)
          refine jp ?_
          refine jm (.int .i64 (4 : Int)) ?_
          refine jv (.pointer (some ⟨gw, 0 + 4 * 1, none⟩)) (exec_ixv Tryz.underlying108 info_int1 _ _ (by rfl) gw (0) 5 5 4 (by omega) (by rfl) (by rfl) rfl) ?_
          refine jg (.int .i64 21) (fun X hX hF => exec_ld 3 _ (by rfl) gw (0 + 4 * 1) (by rfl) _ X ((hcgw.below hX hbgw) 0 _ rfl) (fun X u h => load_int gw (0 + 4 * 1) X u h)) ?_
          refine jm (.int .i64 (4 : Int)) ?_
          refine jm (.int .i64 21) ?_
          refine jz fun X2 hX2 => ?_
          have hD1 := hD1.bel hX2
          have hBp := hBp.bel hX2
          have hBga := hBga.bel hX2
          have hBgw := hBgw.bel hX2
          have hcgw := hcgw.below hX2 hbgw
          have hcga := hcga.below hX2 hbga
          replace hbgw := Nat.lt_of_lt_of_le hbgw (hX2).size
          replace hbga := Nat.lt_of_lt_of_le hbga (hX2).size
          have hb := bel_next hb hX2
          clear hX2
          go_upto_region 16 with (fail)
          refine jd ?_
          refine ja hD1 Tryz.underlying48 (by rfl) info_cv ?_
          refine jm (.slice (some ⟨ga, 0, none⟩) 5 5) ?_
          refine jm (.int .i64 (4 : Int)) ?_
          refine jv (.pointer (some ⟨ga, 0 + 4 * 3, none⟩)) (exec_ixv Tryz.underlying79 info_rat _ _ (by rfl) ga (0) 5 5 4 (by omega) (by rfl) (by rfl) rfl) ?_
          refine jg (rt (rN (rk 13 2)) (rP (rk 13 2)) (rD (rk 13 2))) (fun X hX hF => exec_ldc 23 _ (by rfl) ga (0 + 4 * 3) (by rfl) Tryz.underlying23 rfl [.bool (rN (rk 13 2)), .string ⟨(rP (rk 13 2)).toArray⟩, .string ⟨(rD (rk 13 2)).toArray⟩] X (Cl.part (hcga.below hX hbga) 0 _ (by rfl)) info_rat) ?_
          refine jc (.tuple #[.int .i64 21, .int .i64 0]) (fun X hX hF => mo (leastV exPts _ (rN (rk 13 2)) (rP (rk 13 2)) (rD (rk 13 2)) (rq_rb (rk 13 2)) (tzR LB3 (by omega)) X ⟨some ⟨gp, 0, none⟩, 4, 4, rfl, Blk.rdP (hBp.bel hX) 4 rfl (by unfold maxLen; omega), rfl, by omega⟩ few_ex) (by rw [vd_rb, le_ex4.1, le_ex4.2])) ?_
          refine jm (.tuple #[.int .i64 21, .int .i64 0]) ?_
          refine jm (.int .i64 21) ?_
          refine jm (.int .i64 0) ?_
          refine jm (.int .i64 21) ?_
          refine jm (.int .i64 0) ?_
          refine jz fun X3 hX3 => ?_
          have hD1 := hD1.bel hX3
          have hBp := hBp.bel hX3
          have hBga := hBga.bel hX3
          have hBgw := hBgw.bel hX3
          have hcgw := hcgw.below hX3 hbgw
          have hcga := hcga.below hX3 hbga
          replace hbgw := Nat.lt_of_lt_of_le hbgw (hX3).size
          replace hbga := Nat.lt_of_lt_of_le hbga (hX3).size
          have hb := bel_next hb hX3
          clear hX3
          go_upto_region 17 with (fail)
          refine jp ?_
          refine jm (.int .i64 21) ?_
          refine jm (.int .i64 21) ?_
          refine jv (.bool false) (exec_nei _ _ _ _ (by rfl) .i64 21 21 (by rfl) (by rfl) false (by rw [decide_eq_true (by omega)]; rfl)) ?_
          refine jm (.bool false) ?_
          refine jm (.int .i64 0) ?_
          refine jv (.bool false) (exec_nei _ _ _ _ (by rfl) .i64 0 0 (by rfl) (by rfl) false (by rw [decide_eq_true (by omega)]; rfl)) ?_
          refine jm (.bool false) ?_
          refine jz fun X4 hX4 => ?_
          have hD1 := hD1.bel hX4
          have hBp := hBp.bel hX4
          have hBga := hBga.bel hX4
          have hBgw := hBgw.bel hX4
          have hb := bel_next hb hX4
          clear hX4
          go_upto_region 19 with (fail)
          refine jp ?_
          refine jv (.int .i64 ((4 + 1 : Nat) : Int)) (exec_add _ _ _ _ (by rfl) (4 : Int) 1 ((4 + 1 : Nat) : Int) (by rfl) (by rfl) (by decide) (by omega) (by omega)) ?_
          refine jm (.int .i64 ((4 + 1 : Nat) : Int)) ?_
          refine jz fun X5 hX5 => ?_
          have hD1 := hD1.bel hX5
          have hBp := hBp.bel hX5
          have hBga := hBga.bel hX5
          have hBgw := hBgw.bel hX5
          have hb := bel_next hb hX5
          clear hX5
          go_wp2
          go_roundw
          case rel => exact ⟨4 + 1, by omega, rfl, hD1, hBp, hBga, hBgw, hb⟩
          case measure => decide
        · rw [show ((5 : Nat) : Int) = 5 from rfl]
          go_upto_region 14 with (fail)
          refine jp ?_
          refine jv (.bool false) (exec_lss _ _ _ _ (by rfl) .i64 (5 : Int) (5 : Int) (by rfl) (by rfl) false (by decide)) ?_
          refine jz fun X1 hX1 => ?_
          have hD1 := hD1.bel hX1
          have hBp := hBp.bel hX1
          have hBga := hBga.bel hX1
          have hBgw := hBgw.bel hX1
          have hb := bel_next hb hX1
          clear hX1
          clear hBga hBgw
          go_upto_region 20 with (fail)
          refine jd ?_
          refine ja hD1 Tryz.underlying48 (by rfl) info_cv ?_
          refine jc (rt (rN (ri 8)) (rP (ri 8)) (rD (ri 8))) (fun X hX hF => rintQ (8) X (by decide)) ?_
          refine jc (.tuple #[.int .i64 0, .int .i64 8]) (fun X hX hF => mo (leastV exPts _ (rN (ri 8)) (rP (ri 8)) (rD (ri 8)) (rq_rb (ri 8)) (tzR LB4 (by omega)) X ⟨some ⟨gp, 0, none⟩, 4, 4, rfl, Blk.rdP (hBp.bel hX) 4 rfl (by unfold maxLen; omega), rfl, by omega⟩ few_ex) (by rw [vd_rb, le_ex5.1, le_ex5.2])) ?_
          refine jm (.tuple #[.int .i64 0, .int .i64 8]) ?_
          refine jm (.int .i64 0) ?_
          refine jm (.int .i64 8) ?_
          refine jm (.int .i64 0) ?_
          refine jm (.int .i64 8) ?_
          refine jz fun X2 hX2 => ?_
          have hD1 := hD1.bel hX2
          have hBp := hBp.bel hX2
          have hb := bel_next hb hX2
          clear hX2
          go_upto_region 21 with (fail)
          refine lx_plain_to 5 [none, some (Shv 0 shPts), none, some (Cvl shPts)] (lasts_none (lasts_some (Shv.lasts _ _) (lasts_none (lasts_some (Cvl.lasts _) (lasts_nil))))) ?_
          simp only [its, List.take, List.drop, Nat.zero_add, Nat.reduceAdd]
          refine ja hD1 Tryz.underlying48 (by rfl) info_cv ?_
          refine jk (fun X hX hF => shift_ex _ X ⟨some ⟨gp, 0, none⟩, 4, 4, rfl, Blk.rdP (hBp.bel hX) 4 rfl (by unfold maxLen; omega), rfl, by omega⟩) ?_
          intro v91
          refine jm (v91) ?_
          refine lx_new (by rfl) (fun X hX hF => Shv.ext _ (by rfl) (by rfl) (hF _ _ List.mem_cons_self rfl)) ?_
          intro v92
          simp only [pX]
          refine jg (.int .i64 0) (fun X hX hF => Shv.err _ (by rfl) (by rfl) (hF _ _ (List.mem_cons_of_mem _ List.mem_cons_self) rfl)) ?_
          refine lx_nil ?_
          intro X3 hX3 hF
          have hv91 := hF _ _ (List.mem_cons_of_mem _ List.mem_cons_self)
          have hv92 := hF _ _ List.mem_cons_self
          have hD1 := hD1.bel hX3
          have hBp := hBp.bel hX3
          have hb := bel_next hb hX3
          clear hF hX3
          obtain ⟨A13, n13, c13, rfl, hrd13, hn13, _⟩ := hv92
          obtain rfl : 4 = n13 := hn13
          obtain ⟨b13, o13, rfl⟩ := hrd13.someB (by omega)
          clear hv91
          go_upto_region 22 with (refine osn 48 13 92 #[.slice (some ⟨b13, o13, none⟩) 4 c13] info_cv ?_)
          obtain ⟨Y3, hY9, hD13, hS9⟩ := start1 X3 48 [.slice (some ⟨b13, o13, none⟩) 4 c13]
          rw [← hY9]
          clear hY9
          have hgs13 := hb.size
          have hlt13x0 := hD1.lt
          have hlt13x1 := hBp.lt
          have hrd13 := hrd13.below hS9
          have hD1 := hD1.bel hS9
          have hBp := hBp.bel hS9
          have hb := bel_next hb hS9
          clear hS9
          generalize X3.heap.size = g13 at *
          have hcp0 : Cl Y3 gp (0 + 0 * 4) [.int .i64 10, .bool false, .string ⟨#[]⟩, .string ⟨#[]⟩] := hBp.cl.part (0 * 4) [.int .i64 10, .bool false, .string ⟨#[]⟩, .string ⟨#[]⟩] (by rfl)
          have hbp0 := hBp.lt
          have hcp1 : Cl Y3 gp (0 + 1 * 4) [.int .i64 14, .bool (rN (ri 6)), .string ⟨(rP (ri 6)).toArray⟩, .string ⟨(rD (ri 6)).toArray⟩] := hBp.cl.part (1 * 4) [.int .i64 14, .bool (rN (ri 6)), .string ⟨(rP (ri 6)).toArray⟩, .string ⟨(rD (ri 6)).toArray⟩] (by rfl)
          have hbp1 := hBp.lt
          have hcp3 : Cl Y3 gp (0 + 3 * 4) [.int .i64 22, .bool (rN (ri 7)), .string ⟨(rP (ri 7)).toArray⟩, .string ⟨(rD (ri 7)).toArray⟩] := hBp.cl.part (3 * 4) [.int .i64 22, .bool (rN (ri 7)), .string ⟨(rP (ri 7)).toArray⟩, .string ⟨(rD (ri 7)).toArray⟩] (by rfl)
          have hbp3 := hBp.lt
          refine lx_region [none, none, none, none, none, none, none, none, none, none, none, none, none, some (Bsl 110 (fl ptc exPts3) 3), none, some (Dfv 0 [(15, 21)]), none, some (Dlv [(15, 21)])] (by kernel_rfl) (by kernel_rfl) (lasts_none (lasts_none (lasts_none (lasts_none (lasts_none (lasts_none (lasts_none (lasts_none (lasts_none (lasts_none (lasts_none (lasts_none (lasts_none (lasts_some (Bsl.lasts _ _ _) (lasts_none (lasts_some (Dfv.lasts _ _) (lasts_none (lasts_some (Dlv.lasts _) (lasts_nil))))))))))))))))))) ?_
          simp only [iX, Nat.reduceAdd]
          refine ja hD1 Tryz.underlying48 (by rfl) info_cv ?_
          refine jn (.pointer (some ⟨g1, 0, none⟩)) ?_
          refine jf (.slice (some ⟨gp, 0, none⟩) 4 4) hD1 0 load_pts ?_
          refine jv (.pointer (some ⟨gp, 0 + 0 * 4, none⟩)) (exec_ixv Tryz.underlying46 info_pt _ _ (by rfl) gp (0) 4 4 0 (by omega) (by rfl) (by rfl) rfl) ?_
          refine jg (.agg #[.int .i64 10, .bool false, .string ⟨#[]⟩, .string ⟨#[]⟩]) (fun X hX hF => exec_ldc 110 _ (by rfl) gp (0 + 0 * 4) (by rfl) Tryz.underlying110 rfl [.int .i64 10, .bool false, .string ⟨#[]⟩, .string ⟨#[]⟩] X (Cl.part (hcp0.below hX hbp0) 0 _ (by rfl)) info_pt) ?_
          refine jn (.pointer (some ⟨g1, 0, none⟩)) ?_
          refine jf (.slice (some ⟨gp, 0, none⟩) 4 4) hD1 0 load_pts ?_
          refine jv (.pointer (some ⟨gp, 0 + 1 * 4, none⟩)) (exec_ixv Tryz.underlying46 info_pt _ _ (by rfl) gp (0) 4 4 1 (by omega) (by rfl) (by rfl) rfl) ?_
          refine jg (.agg #[.int .i64 14, .bool (rN (ri 6)), st (rP (ri 6)), st (rD (ri 6))]) (fun X hX hF => exec_ldc 110 _ (by rfl) gp (0 + 1 * 4) (by rfl) Tryz.underlying110 rfl [.int .i64 14, .bool (rN (ri 6)), .string ⟨(rP (ri 6)).toArray⟩, .string ⟨(rD (ri 6)).toArray⟩] X (Cl.part (hcp1.below hX hbp1) 0 _ (by rfl)) info_pt) ?_
          refine jn (.pointer (some ⟨g1, 0, none⟩)) ?_
          refine jf (.slice (some ⟨gp, 0, none⟩) 4 4) hD1 0 load_pts ?_
          refine jv (.pointer (some ⟨gp, 0 + 3 * 4, none⟩)) (exec_ixv Tryz.underlying46 info_pt _ _ (by rfl) gp (0) 4 4 3 (by omega) (by rfl) (by rfl) rfl) ?_
          refine jg (.agg #[.int .i64 22, .bool (rN (ri 7)), st (rP (ri 7)), st (rD (ri 7))]) (fun X hX hF => exec_ldc 110 _ (by rfl) gp (0 + 3 * 4) (by rfl) Tryz.underlying110 rfl [.int .i64 22, .bool (rN (ri 7)), .string ⟨(rP (ri 7)).toArray⟩, .string ⟨(rD (ri 7)).toArray⟩] X (Cl.part (hcp3.below hX hbp3) 0 _ (by rfl)) info_pt) ?_
          refine lx_new (by rfl) (fun X hX hF => Bsl.mk 110 (fl ptc exPts3) 3 (by unfold execOp; go_simp; rfl)) ?_
          intro v108
          simp only [pX]
          refine jg (.agg #[v108]) (fun X hX hF => by obtain ⟨g9, h9, _⟩ := (hF _ _ List.mem_cons_self rfl); subst h9; unfold execOp; go_simp) ?_
          refine jk (fun X hX hF => differ_ex _ _ X ⟨some ⟨gp, 0, none⟩, 4, 4, rfl, Blk.rdP (hBp.bel hX) 4 rfl (by unfold maxLen; omega), rfl, by omega⟩ (Bsl.cvl (hF _ _ List.mem_cons_self rfl) rfl (by omega))) ?_
          intro v110
          refine jm (v110) ?_
          refine lx_new (by rfl) (fun X hX hF => Dfv.ext _ (by rfl) (by rfl) (hF _ _ List.mem_cons_self rfl)) ?_
          intro v111
          simp only [pX]
          refine jg (.int .i64 0) (fun X hX hF => Dfv.err _ (by rfl) (by rfl) (hF _ _ (List.mem_cons_of_mem _ List.mem_cons_self) rfl)) ?_
          refine jm (v111) ?_
          refine jm (.int .i64 0) ?_
          refine lx_nil ?_
          intro X4 hX4 hF
          have hv108 := hF _ _ (List.mem_cons_of_mem _ (List.mem_cons_of_mem _ List.mem_cons_self))
          have hv110 := hF _ _ (List.mem_cons_of_mem _ List.mem_cons_self)
          have hv111 := hF _ _ List.mem_cons_self
          have hrd13 := hrd13.below hX4
          have hD1 := hD1.bel hX4
          have hBp := hBp.bel hX4
          have hD13 := hD13.bel hX4
          have hcp0 := hcp0.below hX4 hbp0
          have hcp1 := hcp1.below hX4 hbp1
          have hcp3 := hcp3.below hX4 hbp3
          replace hbp0 := Nat.lt_of_lt_of_le hbp0 (hX4).size
          replace hbp1 := Nat.lt_of_lt_of_le hbp1 (hX4).size
          replace hbp3 := Nat.lt_of_lt_of_le hbp3 (hX4).size
          have hb := bel_next hb hX4
          clear hF hX4
          obtain ⟨A15, n15, c15, rfl, hrd15, hn15⟩ := hv111
          obtain rfl : 1 = n15 := hn15
          obtain ⟨b15, o15, rfl⟩ := hrd15.someB (by omega)
          clear hv108 hv110 hcp0 hcp1 hcp3 hbp0 hbp1 hbp3
          go_upto_region 23 with (fail)
          refine lq_region (oneV 6 48 [.slice none 0 0] (Cuq scPts)) [none, none, some (Shq 0 scPts), none, some (Cvq scPts), none, some (Gaq (oneV 6 48 [.slice none 0 0] (Cuq scPts)) X4.heap.size 6), some (fun _ X => Gsq (oneV 6 48 [.slice none 0 0] (Cuq scPts)) 6 undef X)] (oneV_las (Cuq.las scPts)) (by kernel_rfl) (by kernel_rfl) (lq_none (lq_none (lq_some (fun v X Y ⟨A, n, c, h1, h2, h3, h4⟩ hR => ⟨A, n, c, h1, h2.q hR.q, h3, h4⟩) (lq_none (lq_some (fun v X Y ⟨vs, h1, h2⟩ hR => ⟨vs, h1, Cuq.las _ _ _ _ h2 hR.q⟩) (lq_none (lq_some (fun v X Y h hR => Gaq.lasts v X Y h hR) (lq_some (fun v X Y h hR => Gsq.lasts undef X Y h hR) lq_nil)))))))) ?_
          simp only [iG, Nat.reduceAdd]
          refine qa hD1 Tryz.underlying48 rfl info_cv ?_
          refine qc (f := 18) (args := [.int .i64 2]) (.agg #[.bool (rN (ri 2)), .string ⟨(rP (ri 2)).toArray⟩, .string ⟨(rD (ri 2)).toArray⟩]) (fun X σ hX hk _ => rintQ 2 X (by decide)) ?_
          refine qk (f := 43) (args := [.agg #[.slice (some ⟨gp, 0, none⟩) 4 4], .agg #[.bool (rN (ri 2)), .string ⟨(rP (ri 2)).toArray⟩, .string ⟨(rD (ri 2)).toArray⟩]]) (fun X σ hX hk _ => (scaleC (some ⟨gp, 0, none⟩) 4 4 exPts (rN (ri 2)) (rP (ri 2)) (rD (ri 2)) (tzR LB5 (by omega)) X (Blk.rdP (hBp.bel hX) 4 rfl (by unfold maxLen; omega)) rfl (by omega) few_ex).mono fun e X' ⟨A', m, c', L, he, g1, g2, g3, g4, g5⟩ => ⟨_, by rw [he, sc_ex.1], ⟨A', m, c', rfl, Rdu.new (by rw [← sc_ex.2, ← g3]; exact g1) hk (fun b off k c9 h9 _ => by injection h9 with e1 _ _; exact g4 b off e1), by rw [← sc_ex.2, ← g3]; exact g2, by have h9 := scL_len exPts (tr (ri 2)); rw [← g3] at h9; have h8 : exPts.length = 4 := rfl; omega⟩, g5⟩) ?_
          intro v116
          refine qm v116 ?_
          refine qx (fun X σ hX hk hF => by
            obtain ⟨A, n, c, h9, h1, h2, h3⟩ := hF _ _ List.mem_cons_self rfl
            subst h9
            refine ⟨_, X, ?_, ⟨_, rfl, A, n, c, rfl, h1, h2, h3⟩, Below.refl _ _⟩
            unfold execOp
            go_simp) ?_
          intro v117
          refine qg (.int .i64 0) (fun X σ hX hk hF => by
            obtain ⟨A, n, c, h9, h1, h2, h3⟩ := hF _ _ (List.mem_cons_of_mem _ List.mem_cons_self) rfl
            subst h9
            unfold execOp
            go_simp) ?_
          refine ql (fun X => exec_alloc_cv (by rfl) X) ?_
          intro v17
          refine qt (y := .tmp 117) 6 6 v17 List.mem_cons_self info_cv (fun X σ hX hk hF => by
            obtain ⟨vs, h9, h1⟩ := hF _ _ (List.mem_cons_of_mem _ List.mem_cons_self) rfl
            have h8 := h1
            obtain ⟨A, n, c, h7, _⟩ := h8
            refine ⟨vs, h9, by rw [h7]; rfl, ?_, h1⟩
            rw [h7]
            intro u hu
            simp only [List.mem_cons, List.not_mem_nil, or_false] at hu
            subst hu
            rfl) ?_
          refine qm (.int .i64 0) ?_
          refine qz ?_
          intro X23 σ hX23 hF
          obtain ⟨g17, vs, rfl, _, hD17, ⟨A17, n17, c17, rfl, hrd17, hn17, hm17⟩, _⟩ := Gsq.at (hF _ _ (List.mem_cons_of_mem _ List.mem_cons_self)) (hF _ _ List.mem_cons_self)
          change Blk X23 g17 48 [.slice A17 n17 c17] at hD17
          have hrd17 : Rd X23 4 (.slice A17 n17 c17) n17 (fl ptc scPts) := hrd17.1
          obtain rfl : 4 = n17 := hn17
          clear hF hm17
          have hrd13 := hrd13.below hX23
          have hrd15 := hrd15.below hX23
          have hD1 := hD1.bel hX23
          have hBp := hBp.bel hX23
          have hD13 := hD13.bel hX23
          have hb := bel_next hb hX23
          clear hX23
          have hcd : Cl X23 b13 (o13 + 1 * 4) [.int .i64 4, .bool (rN (ri 6)), .string ⟨(rP (ri 6)).toArray⟩, .string ⟨(rD (ri 6)).toArray⟩] := (hrd13.ptIn rfl (show 1 < 4 by omega)).2
          have hbd := (hrd13.ptIn rfl (show 1 < 4 by omega)).1
          have hce : Cl X23 b15 (o15 + 0 * 2) [.int .i64 15, .int .i64 21] := (hrd15.btIn rfl (show 0 < 1 by omega)).2
          have hbe := (hrd15.btIn rfl (show 0 < 1 by omega)).1
          go_upto_region 24 with (fail)
          refine jd ?_
          refine jm (.int .i64 8) ?_
          refine jv (.bool true) (exec_eqi _ _ _ _ (by rfl) .i64 8 8 (by rfl) (by rfl) true (decide_eq_true (by omega))) ?_
          refine jm (.bool true) ?_
          refine jm (.int .i64 0) ?_
          refine jv (.bool true) (exec_eqi _ _ _ _ (by rfl) .i64 0 0 (by rfl) (by rfl) true (decide_eq_true (by omega))) ?_
          refine jm (.bool true) ?_
          refine jm (.bool true) ?_
          refine jn (.pointer (some ⟨g13, 0, none⟩)) ?_
          refine jf (.slice (some ⟨b13, o13, none⟩) 4 c13) hD13 0 load_pts ?_
          refine jv (.int .i64 (4 : Int)) (exec_lenv Tryz.underlying46 _ (by rfl) (some ⟨b13, o13, none⟩) 4 c13 (by rfl) _ rfl) ?_
          refine jv (.bool true) (exec_eqi _ _ _ _ (by rfl) .i64 (4 : Int) 4 (by rfl) (by rfl) true (decide_eq_true (by omega))) ?_
          refine jm (.bool true) ?_
          refine jm (.bool true) ?_
          refine jn (.pointer (some ⟨g13, 0, none⟩)) ?_
          refine jf (.slice (some ⟨b13, o13, none⟩) 4 c13) hD13 0 load_pts ?_
          refine jv (.pointer (some ⟨b13, o13 + 1 * 4, none⟩)) (exec_ixv Tryz.underlying46 info_pt _ _ (by rfl) b13 (o13) 4 c13 1 (by omega) (by rfl) (by rfl) rfl) ?_
          refine jg (.agg #[.int .i64 4, .bool (rN (ri 6)), st (rP (ri 6)), st (rD (ri 6))]) (fun X hX hF => exec_ldc 110 _ (by rfl) b13 (o13 + 1 * 4) (by rfl) Tryz.underlying110 rfl [.int .i64 4, .bool (rN (ri 6)), .string ⟨(rP (ri 6)).toArray⟩, .string ⟨(rD (ri 6)).toArray⟩] X (Cl.part (hcd.below hX hbd) 0 _ (by rfl)) info_pt) ?_
          refine jc (rt (rN (ri 6)) (rP (ri 6)) (rD (ri 6))) (fun X hX hF => rintQ (6) X (by decide)) ?_
          refine jn (.agg #[.int .i64 4, .bool (rN (ri 6)), st (rP (ri 6)), st (rD (ri 6))]) ?_
          refine jv (.bool true) (exec_eqp _ _ (by rfl) (4, tr (ri 6)) (4, tr (ri 6)) (by rfl) (by rfl) true (decide_eq_true rfl)) ?_
          refine jm (.bool true) ?_
          refine jm (.bool true) ?_
          refine ja hD13 Tryz.underlying48 (by rfl) info_cv ?_
          refine jc (rt (rN (rk 3 2)) (rP (rk 3 2)) (rD (rk 3 2))) (fun X hX hF => mo (flowV shPts _ 1 X ⟨_, 4, _, rfl, hrd13.below hX, rfl, by omega⟩ few_sh_ex) (by rw [flow_sh_ex])) ?_
          refine jc (rt (rN (rk 3 2)) (rP (rk 3 2)) (rD (rk 3 2))) (fun X hX hF => quotC (3) (2) (rk 3 2) rfl X (by decide) (by decide) (by decide)) ?_
          refine jv (.bool true) (exec_eqr _ _ (by rfl) (rN (rk 3 2)) (rP (rk 3 2)) (rD (rk 3 2)) (rN (rk 3 2)) (rP (rk 3 2)) (rD (rk 3 2)) (by rfl) (by rfl) true (rb_eqt rfl)) ?_
          refine jm (.bool true) ?_
          refine jm (.bool true) ?_
          refine jm (.int .i64 0) ?_
          refine jv (.bool true) (exec_eqi _ _ _ _ (by rfl) .i64 0 0 (by rfl) (by rfl) true (decide_eq_true (by omega))) ?_
          refine jm (.bool true) ?_
          refine jm (.bool true) ?_
          refine jm (.slice (some ⟨b15, o15, none⟩) 1 c15) ?_
          refine jv (.int .i64 (1 : Int)) (exec_lenv Tryz.underlying61 _ (by rfl) (some ⟨b15, o15, none⟩) 1 c15 (by rfl) _ rfl) ?_
          refine jv (.bool true) (exec_eqi _ _ _ _ (by rfl) .i64 (1 : Int) 1 (by rfl) (by rfl) true (decide_eq_true (by omega))) ?_
          refine jm (.bool true) ?_
          refine jm (.bool true) ?_
          refine jm (.slice (some ⟨b15, o15, none⟩) 1 c15) ?_
          refine jv (.pointer (some ⟨b15, o15 + 0 * 2, none⟩)) (exec_ixv Tryz.underlying61 info_bt _ _ (by rfl) b15 (o15) 1 c15 0 (by omega) (by rfl) (by rfl) rfl) ?_
          refine jg (.agg #[.int .i64 15, .int .i64 21]) (fun X hX hF => exec_ldc 73 _ (by rfl) b15 (o15 + 0 * 2) (by rfl) Tryz.underlying73 rfl [.int .i64 15, .int .i64 21] X (Cl.part (hce.below hX hbe) 0 _ (by rfl)) info_bt) ?_
          refine jn (.agg #[.int .i64 15, .int .i64 21]) ?_
          refine jn (.bool true) ?_
          refine jm (.bool true) ?_
          refine jm (.bool true) ?_
          refine jm (.int .i64 0) ?_
          refine jv (.bool true) (exec_eqi _ _ _ _ (by rfl) .i64 0 0 (by rfl) (by rfl) true (decide_eq_true (by omega))) ?_
          refine jm (.bool true) ?_
          refine jm (.bool true) ?_
          refine ja hD17 Tryz.underlying48 (by rfl) info_cv ?_
          refine jc (rt (rN (ri 3)) (rP (ri 3)) (rD (ri 3))) (fun X hX hF => mo (flowV scPts _ 11 X ⟨_, 4, _, rfl, hrd17.below hX, rfl, by omega⟩ few_sc_ex) (by rw [flow_sc_ex])) ?_
          refine jc (rt (rN (ri 3)) (rP (ri 3)) (rD (ri 3))) (fun X hX hF => rintQ (3) X (by decide)) ?_
          refine jv (.bool true) (exec_eqr _ _ (by rfl) (rN (ri 3)) (rP (ri 3)) (rD (ri 3)) (rN (ri 3)) (rP (ri 3)) (rD (ri 3)) (by rfl) (by rfl) true (rb_eqt rfl)) ?_
          refine jm (.bool true) ?_
          refine jm (.bool true) ?_
          refine jz fun X5 hX5 => ?_
          have hrd13 := hrd13.below hX5
          have hrd15 := hrd15.below hX5
          have hrd17 := hrd17.below hX5
          have hD1 := hD1.bel hX5
          have hBp := hBp.bel hX5
          have hD13 := hD13.bel hX5
          have hD17 := hD17.bel hX5
          have hcd := hcd.below hX5 hbd
          have hce := hce.below hX5 hbe
          replace hbd := Nat.lt_of_lt_of_le hbd (hX5).size
          replace hbe := Nat.lt_of_lt_of_le hbe (hX5).size
          have hb := bel_next hb hX5
          clear hX5
          go_wp2
          go_ret
          exact ⟨rfl, hb⟩
end Go.Proofs.YtchhlgcakjjncaaGreatDoor
