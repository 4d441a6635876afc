/-
  Law 48: what each statement checks first.
-/
import Derived.Test.YthinopepcmidmaaDoorSv48
import Derived.Test.YthinopepcmidmaaDoorPl48s
set_option linter.unusedSimpArgs false
set_option linter.unusedVariables false
set_option maxRecDepth 100000
set_option maxHeartbeats 1600000
namespace Go.Proofs.YthinopepcmidmaaDoor
open Go.RowKit
/-- The example's statements. -/
structure Ex (a b c d o : Sl) : Prop where
  oa : SlOk a
  ob : SlOk b
  oc : SlOk c
  od : SlOk d
  oo : SlOk o
  na : nxS mk48 nm48 exR [] (exQ 1 5 2 [120]) = a
  nb : nxS mk48 nm48 exR [a] (exQ 1 7 3 [121]) = b
  nc : nxS mk48 nm48 exR [a] (exQ 1 7 3 [122]) = c
  nd : nxS mk48 nm48 exR [] (exQ 0 5 2 [120]) = d
  ne : nxS mk48 nm48 exR [a, b] (exQ 1 6 1 []) = sl0
  ea : nxE mk48 nm48 exR [] (exQ 1 5 2 [120]) = 0
  eb : nxE mk48 nm48 exR [a] (exQ 1 7 3 [121]) = 0
  ec : nxE mk48 nm48 exR [a] (exQ 1 7 3 [122]) = 0
  ed : nxE mk48 nm48 exR [] (exQ 0 5 2 [120]) = 0
  ee : nxE mk48 nm48 exR [a, b] (exQ 1 6 1 []) = 4
  eo : o = ⟨b.st, b.sq, b.dy, b.kd, [122], b.pv, b.sl⟩
  coN : coN mk48 nm48 exR [a, b] [a] = 1
  coE : coE mk48 nm48 exR [a, b] [a] = 0
  lab : lgE mk48 nm48 exR [a, b] = 0
  lb : lgE mk48 nm48 exR [b] = 1
  laa : lgE mk48 nm48 exR [a, a] = 1
  lao : lgE mk48 nm48 exR [a, o] = 16
  cab : ctr mk48 nm48 exR a b = 0
  cbc : ctr mk48 nm48 exR b c = 1
  cad : ctr mk48 nm48 exR a d = 0
  ra : rgt mk48 exR a = true
  ro : rgt mk48 exR o = false
  ck : rckE exR = 0
  sl : a.sl ≠ d.sl
  pv : b.pv = nm48 a
  nm : nm48 a ≠ nm48 b
  ba : a.bd.length ≤ 5000
  bb : b.bd.length ≤ 5000
theorem ex_all : Ex exA exB exC exD exO := ⟨exA_ok, exB_ok, exC_ok, exD_ok, exO_ok, nxA, nxB, nxC, nxD, ex_eS, ex_a, ex_b, ex_c, ex_d, ex_e, rfl, ex_coN, ex_coE, ex_lgab, ex_lgb, ex_lgaa, ex_lgao, ex_ctAB, ex_ctBC, ex_ctAD, ex_rgA, ex_rgO, ex_ck, ex_sl, exB_pv, ex_nm, by decide, by decide⟩
theorem all1 {a : Sl} (h : SlOk a) : ∀ s ∈ [a], SlOk s := by intro s hs; simp only [List.mem_cons, List.not_mem_nil, or_false] at hs; subst hs; exact h
theorem all2 {a b : Sl} (h : SlOk a) (h2 : SlOk b) : ∀ s ∈ [a, b], SlOk s := by intro s hs; simp only [List.mem_cons, List.not_mem_nil, or_false] at hs; rcases hs with rfl | rfl; exact h; exact h2
theorem all0 : ∀ s ∈ ([] : List Sl), SlOk s := fun s h => by cases h
theorem sanC (w : World) (hK : KK w) : Calls Tryd.prog 10 #[] w fun e w' => e = .returned (.bool true) ∧ Since w w' := by
  have HKK : Hid (∀ X, Since w X → KK X) := fun X h => hK.below h hK.1
  clear hK
  go_enter Tryd.func10, Tryd.ntmps10
  go_upto_region 1 with (fail)
  refine lx_plain_to 1 [some (Sts exR)] (lasts_some (Sts.lasts _) (lasts_nil)) ?_
  simp only [its, List.take, List.drop, Nat.zero_add, Nat.reduceAdd]
  refine lx_new (by rfl) (fun X hX hF => exec_bsS2 _ _ (by rfl) [97] [98] (by rfl) (by rfl) X) ?_
  intro v18
  simp only [pX]
  refine lx_nil ?_
  intro X1 hX1 hF
  have hv18 := hF _ _ List.mem_cons_self
  have hb : Below w.heap.size w X1 := hX1
  clear hF hX1
  obtain ⟨A9, c9, rfl, hrR⟩ := hv18
  go_upto_region 2 with (refine op_store_new _ _ _ rfl 24 (.tmp 1) (.tmp 19) (by rfl) (by rfl) #[.slice A9 exR.length c9] (by rfl) rfl (by intro u hu; simp only [List.mem_cons, List.not_mem_nil, or_false] at hu; subst hu; rfl) info_rg ?_)
  obtain ⟨Y1, hY9, hD1, hS9⟩ := start1 X1 24 [.slice A9 exR.length c9]
  rw [← hY9]
  clear hY9
  have hrR := hrR.below hS9
  have hb := bel_next hb hS9
  clear hS9
  generalize X1.heap.size = g1 at *
  obtain ⟨a, b, c, d, o, hE⟩ : ∃ a b c d o, Ex a b c d o := ⟨_, _, _, _, _, ex_all⟩
  have oa := hE.oa
  have ob := hE.ob
  have oc := hE.oc
  have od := hE.od
  have oo := hE.oo
  have HE := Lib.hid hE
  clear hE
  refine jq 6 ?_
  refine ja hD1 Tryd.underlying24 (by rfl) info_rg ?_
  refine jv (.agg (slc (exQ 1 5 2 [120])).toArray) (exec_bq4 _ _ _ _ (by rfl) 1 5 2 [120] (by rfl) (by rfl) (by rfl) (by rfl)) ?_
  refine jc (.tuple #[.agg (slc a).toArray, .int .i64 0]) (fun X hX hF => mo (snxV exR (.slice A9 exR.length c9) [] (.slice none 0 0) (exQ 1 5 2 [120]) X ⟨A9, c9, rfl, hrR.below hX⟩ (Slv.nil X) all0 (exQ_ok _ _ _ _ (by decide) (by decide) (by decide) (by decide)) (HKK.out X (bel_next hb hX))) (by rw [HE.out.na, HE.out.ea])) ?_
  refine jm (.tuple #[.agg (slc a).toArray, .int .i64 0]) ?_
  refine jm (.agg (slc a).toArray) ?_
  refine jm (.int .i64 0) ?_
  refine jz fun X2 hX2 => ?_
  have hrR := hrR.below hX2
  have hD1 := hD1.bel hX2
  have hb := bel_next hb hX2
  clear hX2
  go_upto_region 3 with (refine op_store_new _ _ _ rfl 28 (.tmp 2) (.tmp 24) (by rfl) (by rfl) (slc a).toArray (by rfl) (by show (slc a).toArray.size = (slc sl0).toArray.size; simp [SlOk.len oa, SlOk.len ok0]) (fun v hv => slc_one v (by simpa using hv)) (by rw [show (slc a).toArray.size = (slc a).length from by simp]; exact info_slc oa) ?_)
  obtain ⟨Y2, hY9, hD2, hS9⟩ := start1 X2 28 (slc a)
  rw [← hY9]
  clear hY9
  have hgs2 := hb.size
  have hlt2x0 := hD1.lt
  have hrR := hrR.below hS9
  have hD1 := hD1.bel hS9
  have hb := bel_next hb hS9
  clear hS9
  generalize X2.heap.size = g2 at *
  refine lx_plain [none, some (Slv [a])] (lasts_none (lasts_some (Slv.lasts _) (lasts_nil))) ?_
  simp only [iX, Nat.reduceAdd]
  refine jg (.agg (slc a).toArray) (fun X hX hF => exec_lda 28 _ (by rfl) g2 (by rfl) Tryd.underlying28 rfl X (hD2.bel hX) (info_slc oa)) ?_
  refine lx_new (by rfl) (fun X hX hF => exec_bsl1 _ (by rfl) a oa (by rfl) X) ?_
  intro v27
  simp only [pX]
  refine jm (v27) ?_
  refine lx_nil ?_
  intro X3 hX3 hF
  have hv27 := hF _ _ List.mem_cons_self
  have hrR := hrR.below hX3
  have hD1 := hD1.bel hX3
  have hD2 := hD2.bel hX3
  have hb := bel_next hb hX3
  clear hF hX3
  go_upto_region 4 with (fail)
  refine jq 7 ?_
  refine ja hD1 Tryd.underlying24 (by rfl) info_rg ?_
  refine jm (v27) ?_
  refine jv (.agg (slc (exQ 1 7 3 [121])).toArray) (exec_bq4 _ _ _ _ (by rfl) 1 7 3 [121] (by rfl) (by rfl) (by rfl) (by rfl)) ?_
  refine jc (.tuple #[.agg (slc b).toArray, .int .i64 0]) (fun X hX hF => mo (snxV exR (.slice A9 exR.length c9) [a] (v27) (exQ 1 7 3 [121]) X ⟨A9, c9, rfl, hrR.below hX⟩ ((Slv.lasts _) _ _ _ hv27 hX) (all1 oa) (exQ_ok _ _ _ _ (by decide) (by decide) (by decide) (by decide)) (HKK.out X (bel_next hb hX))) (by rw [HE.out.nb, HE.out.eb])) ?_
  refine jm (.tuple #[.agg (slc b).toArray, .int .i64 0]) ?_
  refine jm (.agg (slc b).toArray) ?_
  refine jm (.int .i64 0) ?_
  refine jz fun X4 hX4 => ?_
  have hv27 := (Slv.lasts _) _ _ _ hv27 hX4
  have hrR := hrR.below hX4
  have hD1 := hD1.bel hX4
  have hD2 := hD2.bel hX4
  have hb := bel_next hb hX4
  clear hX4
  go_upto_region 5 with (refine op_store_new _ _ _ rfl 28 (.tmp 5) (.tmp 33) (by rfl) (by rfl) (slc b).toArray (by rfl) (by show (slc b).toArray.size = (slc sl0).toArray.size; simp [SlOk.len ob, SlOk.len ok0]) (fun v hv => slc_one v (by simpa using hv)) (by rw [show (slc b).toArray.size = (slc b).length from by simp]; exact info_slc ob) ?_)
  obtain ⟨Y4, hY9, hD5, hS9⟩ := start1 X4 28 (slc b)
  rw [← hY9]
  clear hY9
  have hgs5 := hb.size
  have hlt5x0 := hD1.lt
  have hlt5x1 := hD2.lt
  have hrR := hrR.below hS9
  have hD1 := hD1.bel hS9
  have hD2 := hD2.bel hS9
  have hv27 := (Slv.lasts _) _ _ _ hv27 hS9
  have hb := bel_next hb hS9
  clear hS9
  generalize X4.heap.size = g5 at *
  refine jq 7 ?_
  refine ja hD1 Tryd.underlying24 (by rfl) info_rg ?_
  refine jm (v27) ?_
  refine jv (.agg (slc (exQ 1 7 3 [122])).toArray) (exec_bq4 _ _ _ _ (by rfl) 1 7 3 [122] (by rfl) (by rfl) (by rfl) (by rfl)) ?_
  refine jc (.tuple #[.agg (slc c).toArray, .int .i64 0]) (fun X hX hF => mo (snxV exR (.slice A9 exR.length c9) [a] (v27) (exQ 1 7 3 [122]) X ⟨A9, c9, rfl, hrR.below hX⟩ ((Slv.lasts _) _ _ _ hv27 hX) (all1 oa) (exQ_ok _ _ _ _ (by decide) (by decide) (by decide) (by decide)) (HKK.out X (bel_next hb hX))) (by rw [HE.out.nc, HE.out.ec])) ?_
  refine jm (.tuple #[.agg (slc c).toArray, .int .i64 0]) ?_
  refine jm (.agg (slc c).toArray) ?_
  refine jm (.int .i64 0) ?_
  refine jz fun X5 hX5 => ?_
  have hv27 := (Slv.lasts _) _ _ _ hv27 hX5
  have hrR := hrR.below hX5
  have hD1 := hD1.bel hX5
  have hD2 := hD2.bel hX5
  have hD5 := hD5.bel hX5
  have hb := bel_next hb hX5
  clear hX5
  go_upto_region 6 with (refine op_store_new _ _ _ rfl 28 (.tmp 7) (.tmp 40) (by rfl) (by rfl) (slc c).toArray (by rfl) (by show (slc c).toArray.size = (slc sl0).toArray.size; simp [SlOk.len oc, SlOk.len ok0]) (fun v hv => slc_one v (by simpa using hv)) (by rw [show (slc c).toArray.size = (slc c).length from by simp]; exact info_slc oc) ?_)
  obtain ⟨Y5, hY9, hD7, hS9⟩ := start1 X5 28 (slc c)
  rw [← hY9]
  clear hY9
  have hgs7 := hb.size
  have hlt7x0 := hD1.lt
  have hlt7x1 := hD2.lt
  have hlt7x2 := hD5.lt
  have hrR := hrR.below hS9
  have hD1 := hD1.bel hS9
  have hD2 := hD2.bel hS9
  have hD5 := hD5.bel hS9
  have hv27 := (Slv.lasts _) _ _ _ hv27 hS9
  have hb := bel_next hb hS9
  clear hS9
  generalize X5.heap.size = g7 at *
  refine jq 6 ?_
  refine ja hD1 Tryd.underlying24 (by rfl) info_rg ?_
  refine jv (.agg (slc (exQ 0 5 2 [120])).toArray) (exec_bq4 _ _ _ _ (by rfl) 0 5 2 [120] (by rfl) (by rfl) (by rfl) (by rfl)) ?_
  refine jc (.tuple #[.agg (slc d).toArray, .int .i64 0]) (fun X hX hF => mo (snxV exR (.slice A9 exR.length c9) [] (.slice none 0 0) (exQ 0 5 2 [120]) X ⟨A9, c9, rfl, hrR.below hX⟩ (Slv.nil X) all0 (exQ_ok _ _ _ _ (by decide) (by decide) (by decide) (by decide)) (HKK.out X (bel_next hb hX))) (by rw [HE.out.nd, HE.out.ed])) ?_
  refine jm (.tuple #[.agg (slc d).toArray, .int .i64 0]) ?_
  refine jm (.agg (slc d).toArray) ?_
  refine jm (.int .i64 0) ?_
  refine jz fun X6 hX6 => ?_
  have hv27 := (Slv.lasts _) _ _ _ hv27 hX6
  have hrR := hrR.below hX6
  have hD1 := hD1.bel hX6
  have hD2 := hD2.bel hX6
  have hD5 := hD5.bel hX6
  have hD7 := hD7.bel hX6
  have hb := bel_next hb hX6
  clear hX6
  go_upto_region 7 with (refine op_store_new _ _ _ rfl 28 (.tmp 9) (.tmp 46) (by rfl) (by rfl) (slc d).toArray (by rfl) (by show (slc d).toArray.size = (slc sl0).toArray.size; simp [SlOk.len od, SlOk.len ok0]) (fun v hv => slc_one v (by simpa using hv)) (by rw [show (slc d).toArray.size = (slc d).length from by simp]; exact info_slc od) ?_)
  obtain ⟨Y6, hY9, hD9, hS9⟩ := start1 X6 28 (slc d)
  rw [← hY9]
  clear hY9
  have hgs9 := hb.size
  have hlt9x0 := hD1.lt
  have hlt9x1 := hD2.lt
  have hlt9x2 := hD5.lt
  have hlt9x3 := hD7.lt
  have hrR := hrR.below hS9
  have hD1 := hD1.bel hS9
  have hD2 := hD2.bel hS9
  have hD5 := hD5.bel hS9
  have hD7 := hD7.bel hS9
  have hv27 := (Slv.lasts _) _ _ _ hv27 hS9
  have hb := bel_next hb hS9
  clear hS9
  generalize X6.heap.size = g9 at *
  refine lx_plain_to 9 [none, none, none, some (Slv [a, b])] (lasts_none (lasts_none (lasts_none (lasts_some (Slv.lasts _) (lasts_nil))))) ?_
  simp only [its, List.take, List.drop, Nat.zero_add, Nat.reduceAdd]
  refine ja hD1 Tryd.underlying24 (by rfl) info_rg ?_
  refine jg (.agg (slc a).toArray) (fun X hX hF => exec_lda 28 _ (by rfl) g2 (by rfl) Tryd.underlying28 rfl X (hD2.bel hX) (info_slc oa)) ?_
  refine jg (.agg (slc b).toArray) (fun X hX hF => exec_lda 28 _ (by rfl) g5 (by rfl) Tryd.underlying28 rfl X (hD5.bel hX) (info_slc ob)) ?_
  refine lx_new (by rfl) (fun X hX hF => exec_bsl2 _ _ (by rfl) a b oa ob (by rfl) (by rfl) X) ?_
  intro v52
  simp only [pX]
  refine jv (.agg (slc (exQ 1 6 1 [])).toArray) (exec_bq3 _ _ _ (by rfl) 1 6 1 (by rfl) (by rfl) (by rfl)) ?_
  refine jc (.tuple #[.agg (slc sl0).toArray, .int .i64 4]) (fun X hX hF => mo (snxV exR (.slice A9 exR.length c9) [a, b] (v52) (exQ 1 6 1 []) X ⟨A9, c9, rfl, hrR.below hX⟩ (hF _ _ List.mem_cons_self rfl) (all2 oa ob) (exQ_ok _ _ _ _ (by decide) (by decide) (by decide) (by decide)) (HKK.out X (bel_next hb hX))) (by rw [HE.out.ne, HE.out.ee])) ?_
  refine jm (.tuple #[.agg (slc sl0).toArray, .int .i64 4]) ?_
  refine jm (.agg (slc sl0).toArray) ?_
  refine jm (.int .i64 4) ?_
  refine lx_nil ?_
  intro X7 hX7 hF
  have hv27 := (Slv.lasts _) _ _ _ hv27 hX7
  have hv52 := hF _ _ List.mem_cons_self
  have hrR := hrR.below hX7
  have hD1 := hD1.bel hX7
  have hD2 := hD2.bel hX7
  have hD5 := hD5.bel hX7
  have hD7 := hD7.bel hX7
  have hD9 := hD9.bel hX7
  have hb := bel_next hb hX7
  clear hF hX7
  go_upto_region 8 with (refine op_store_new _ _ _ rfl 28 (.tmp 11) (.tmp 55) (by rfl) (by rfl) (slc sl0).toArray (by rfl) (by show (slc sl0).toArray.size = (slc sl0).toArray.size; simp [SlOk.len ok0, SlOk.len ok0]) (fun v hv => slc_one v (by simpa using hv)) (by rw [show (slc sl0).toArray.size = (slc sl0).length from by simp]; exact info_slc ok0) ?_)
  obtain ⟨Y7, hY9, hD11, hS9⟩ := start1 X7 28 (slc sl0)
  rw [← hY9]
  clear hY9
  have hgs11 := hb.size
  have hlt11x0 := hD1.lt
  have hlt11x1 := hD2.lt
  have hlt11x2 := hD5.lt
  have hlt11x3 := hD7.lt
  have hlt11x4 := hD9.lt
  have hrR := hrR.below hS9
  have hD1 := hD1.bel hS9
  have hD2 := hD2.bel hS9
  have hD5 := hD5.bel hS9
  have hD7 := hD7.bel hS9
  have hD9 := hD9.bel hS9
  have hv27 := (Slv.lasts _) _ _ _ hv27 hS9
  have hv52 := (Slv.lasts _) _ _ _ hv52 hS9
  have hb := bel_next hb hS9
  clear hS9
  generalize X7.heap.size = g11 at *
  clear hv52
  refine jq 1 ?_
  refine jg (.agg (slc b).toArray) (fun X hX hF => exec_lda 28 _ (by rfl) g5 (by rfl) Tryd.underlying28 rfl X (hD5.bel hX) (info_slc ob)) ?_
  refine jz fun X8 hX8 => ?_
  have hv27 := (Slv.lasts _) _ _ _ hv27 hX8
  have hrR := hrR.below hX8
  have hD1 := hD1.bel hX8
  have hD2 := hD2.bel hX8
  have hD5 := hD5.bel hX8
  have hD7 := hD7.bel hX8
  have hD9 := hD9.bel hX8
  have hD11 := hD11.bel hX8
  have hb := bel_next hb hX8
  clear hX8
  go_upto_region 9 with (refine op_store_new _ _ _ rfl 28 (.tmp 13) (.tmp 57) (by rfl) (by rfl) (slc b).toArray (by rfl) (by show (slc b).toArray.size = (slc sl0).toArray.size; simp [SlOk.len ob, SlOk.len ok0]) (fun v hv => slc_one v (by simpa using hv)) (by rw [show (slc b).toArray.size = (slc b).length from by simp]; exact info_slc ob) ?_)
  obtain ⟨Y8, hY9, hD13, hS9⟩ := start1 X8 28 (slc b)
  rw [← hY9]
  clear hY9
  have hgs13 := hb.size
  have hlt13x0 := hD1.lt
  have hlt13x1 := hD2.lt
  have hlt13x2 := hD5.lt
  have hlt13x3 := hD7.lt
  have hlt13x4 := hD9.lt
  have hlt13x5 := hD11.lt
  have hf8 := fun (Z : World) (hZ : ∀ B W, Below B W Y8 → B ≤ X8.heap.size → Below B W Z) => And.intro (hrR.below (hZ _ _ hS9 (Nat.le_refl _))) (Slv.lasts _ _ _ _ hv27 (hZ _ _ hS9 (Nat.le_refl _)))
  have hrR := hrR.below hS9
  have hD1 := hD1.bel hS9
  have hD2 := hD2.bel hS9
  have hD5 := hD5.bel hS9
  have hD7 := hD7.bel hS9
  have hD9 := hD9.bel hS9
  have hD11 := hD11.bel hS9
  have hv27 := (Slv.lasts _) _ _ _ hv27 hS9
  have hb := bel_next hb hS9
  clear hS9
  generalize X8.heap.size = g13 at *
  refine jq 1 ?_
  refine jn (.pointer (some ⟨g13, 4, none⟩)) ?_
  refine jz fun X9 hX9 => ?_
  have hv27 := (Slv.lasts _) _ _ _ hv27 hX9
  have hrR := hrR.below hX9
  have hf8 := fun (Z : World) (hZ : ∀ B W, Below B W X9 → B ≤ g13 → Below B W Z) => hf8 Z fun B W h1 h2 => hZ B W (h1.trans ((hX9).mono (Nat.le_of_lt (Nat.lt_of_le_of_lt h2 hD13.lt)))) h2
  have hD1 := hD1.bel hX9
  have hD2 := hD2.bel hX9
  have hD5 := hD5.bel hX9
  have hD7 := hD7.bel hX9
  have hD9 := hD9.bel hX9
  have hD11 := hD11.bel hX9
  have hD13 := hD13.bel hX9
  have hb := bel_next hb hX9
  clear hX9
  refine op_store1 rfl g13 4 28 _ hD13 (.string ⟨([122] : List UInt8).toArray⟩) (by rw [ob.len]; decide) (fun X u h1 h2 => exec_sts4 _ _ (by rfl) _ _ (by rfl) (by rfl) u X h1 h2) ?_
  intro w9 hR9 hO9 hB9
  have hb := hB9 _ _ hb (by omega)
  have hD1 := hO9 _ _ _ (by omega) hD1
  have hD2 := hO9 _ _ _ (by omega) hD2
  have hD5 := hO9 _ _ _ (by omega) hD5
  have hD7 := hO9 _ _ _ (by omega) hD7
  have hD9 := hO9 _ _ _ (by omega) hD9
  have hD11 := hO9 _ _ _ (by omega) hD11
  obtain ⟨hrR, hv27⟩ := hf8 w9 hB9
  clear hf8
  have hD13 : Blk w9 g13 28 (slc o) := by rw [show slc o = (slc b).set 4 (.string ⟨([122] : List UInt8).toArray⟩) from by rw [HE.out.eo]; rfl]; exact hR9
  clear hR9 hO9 hB9
  go_upto_region 10 with (fail)
  refine lx_plain [none, none, none, some (Slv [a, b])] (lasts_none (lasts_none (lasts_none (lasts_some (Slv.lasts _) (lasts_nil))))) ?_
  simp only [iX, Nat.reduceAdd]
  refine ja hD1 Tryd.underlying24 (by rfl) info_rg ?_
  refine jg (.agg (slc a).toArray) (fun X hX hF => exec_lda 28 _ (by rfl) g2 (by rfl) Tryd.underlying28 rfl X (hD2.bel hX) (info_slc oa)) ?_
  refine jg (.agg (slc b).toArray) (fun X hX hF => exec_lda 28 _ (by rfl) g5 (by rfl) Tryd.underlying28 rfl X (hD5.bel hX) (info_slc ob)) ?_
  refine lx_new (by rfl) (fun X hX hF => exec_bsl2 _ _ (by rfl) a b oa ob (by rfl) (by rfl) X) ?_
  intro v63
  simp only [pX]
  refine jm (v27) ?_
  refine jc (.tuple #[.int .i64 1, .int .i64 0]) (fun X hX hF => mo (scoV exR (.slice A9 exR.length c9) [a, b] v63 [a] v27 X ⟨A9, c9, rfl, hrR.below hX⟩ (hF _ _ List.mem_cons_self rfl) (all2 oa ob) ((Slv.lasts _) _ _ _ hv27 hX) (all1 oa) (HKK.out X (bel_next hb hX))) (by rw [HE.out.coN, HE.out.coE])) ?_
  refine jm (.tuple #[.int .i64 1, .int .i64 0]) ?_
  refine jm (.int .i64 1) ?_
  refine jm (.int .i64 0) ?_
  refine jm (.int .i64 1) ?_
  refine jm (.int .i64 0) ?_
  refine lx_nil ?_
  intro X10 hX10 hF
  have hv27 := (Slv.lasts _) _ _ _ hv27 hX10
  have hv63 := hF _ _ List.mem_cons_self
  have hrR := hrR.below hX10
  have hD1 := hD1.bel hX10
  have hD2 := hD2.bel hX10
  have hD5 := hD5.bel hX10
  have hD7 := hD7.bel hX10
  have hD9 := hD9.bel hX10
  have hD11 := hD11.bel hX10
  have hD13 := hD13.bel hX10
  have hb := bel_next hb hX10
  clear hF hX10
  clear hv63
  clear hv27
  go_upto_region 11 with (fail)
  refine jp ?_
  refine jm (.int .i64 0) ?_
  refine jv (.bool false) (exec_nei _ _ _ _ (by rfl) .i64 0 0 (by rfl) (by rfl) false (by rfl)) ?_
  refine jm (.bool false) ?_
  refine jm (.int .i64 0) ?_
  refine jv (.bool false) (exec_nei _ _ _ _ (by rfl) .i64 0 0 (by rfl) (by rfl) false (by rfl)) ?_
  refine jm (.bool false) ?_
  refine jm (.bool false) ?_
  refine jm (.int .i64 0) ?_
  refine jv (.bool false) (exec_nei _ _ _ _ (by rfl) .i64 0 0 (by rfl) (by rfl) false (by rfl)) ?_
  refine jm (.bool false) ?_
  refine jm (.bool false) ?_
  refine jm (.int .i64 0) ?_
  refine jv (.bool false) (exec_nei _ _ _ _ (by rfl) .i64 0 0 (by rfl) (by rfl) false (by rfl)) ?_
  refine jm (.bool false) ?_
  refine jm (.bool false) ?_
  refine jm (.int .i64 4) ?_
  refine jv (.bool false) (exec_nei _ _ _ _ (by rfl) .i64 4 4 (by rfl) (by rfl) false (by rfl)) ?_
  refine jm (.bool false) ?_
  refine jm (.bool false) ?_
  refine jm (.int .i64 0) ?_
  refine jv (.bool false) (exec_nei _ _ _ _ (by rfl) .i64 0 0 (by rfl) (by rfl) false (by rfl)) ?_
  refine jm (.bool false) ?_
  refine jm (.bool false) ?_
  refine jm (.int .i64 1) ?_
  refine jv (.bool false) (exec_nei _ _ _ _ (by rfl) .i64 1 1 (by rfl) (by rfl) false (by rfl)) ?_
  refine jm (.bool false) ?_
  refine jz fun X11 hX11 => ?_
  have hrR := hrR.below hX11
  have hD1 := hD1.bel hX11
  have hD2 := hD2.bel hX11
  have hD5 := hD5.bel hX11
  have hD7 := hD7.bel hX11
  have hD9 := hD9.bel hX11
  have hD11 := hD11.bel hX11
  have hD13 := hD13.bel hX11
  have hb := bel_next hb hX11
  clear hX11
  go_upto_region 13 with (fail)
  refine lx_plain [none, none, none, some (Slv [a, b]), none, none, none, none, none, some (Slv [b]), none, none, none, none, none, none, none, some (Slv [a, a]), none, none, none, none, none, none, none, some (Slv [a, o])] (lasts_none (lasts_none (lasts_none (lasts_some (Slv.lasts _) (lasts_none (lasts_none (lasts_none (lasts_none (lasts_none (lasts_some (Slv.lasts _) (lasts_none (lasts_none (lasts_none (lasts_none (lasts_none (lasts_none (lasts_none (lasts_some (Slv.lasts _) (lasts_none (lasts_none (lasts_none (lasts_none (lasts_none (lasts_none (lasts_none (lasts_some (Slv.lasts _) (lasts_nil))))))))))))))))))))))))))) ?_
  simp only [iX, Nat.reduceAdd]
  refine ja hD1 Tryd.underlying24 (by rfl) info_rg ?_
  refine jg (.agg (slc a).toArray) (fun X hX hF => exec_lda 28 _ (by rfl) g2 (by rfl) Tryd.underlying28 rfl X (hD2.bel hX) (info_slc oa)) ?_
  refine jg (.agg (slc b).toArray) (fun X hX hF => exec_lda 28 _ (by rfl) g5 (by rfl) Tryd.underlying28 rfl X (hD5.bel hX) (info_slc ob)) ?_
  refine lx_new (by rfl) (fun X hX hF => exec_bsl2 _ _ (by rfl) a b oa ob (by rfl) (by rfl) X) ?_
  intro v97
  simp only [pX]
  refine jc (.int .i64 0) (fun X hX hF => mo (slgV exR (.slice A9 exR.length c9) [a, b] v97 X ⟨A9, c9, rfl, hrR.below hX⟩ (hF _ _ List.mem_cons_self rfl) (all2 oa ob) (HKK.out X (bel_next hb hX))) (by rw [HE.out.lab])) ?_
  refine jv (.bool true) (exec_eqi _ _ _ _ (by rfl) .i64 0 0 (by rfl) (by rfl) true (by rfl)) ?_
  refine jm (.bool true) ?_
  refine ja hD1 Tryd.underlying24 (by rfl) info_rg ?_
  refine jg (.agg (slc b).toArray) (fun X hX hF => exec_lda 28 _ (by rfl) g5 (by rfl) Tryd.underlying28 rfl X (hD5.bel hX) (info_slc ob)) ?_
  refine lx_new (by rfl) (fun X hX hF => exec_bsl1 _ (by rfl) b ob (by rfl) X) ?_
  intro v103
  simp only [pX]
  refine jc (.int .i64 1) (fun X hX hF => mo (slgV exR (.slice A9 exR.length c9) [b] v103 X ⟨A9, c9, rfl, hrR.below hX⟩ (hF _ _ List.mem_cons_self rfl) (all1 ob) (HKK.out X (bel_next hb hX))) (by rw [HE.out.lb])) ?_
  refine jv (.bool true) (exec_eqi _ _ _ _ (by rfl) .i64 1 1 (by rfl) (by rfl) true (by rfl)) ?_
  refine jm (.bool true) ?_
  refine jm (.bool true) ?_
  refine ja hD1 Tryd.underlying24 (by rfl) info_rg ?_
  refine jg (.agg (slc a).toArray) (fun X hX hF => exec_lda 28 _ (by rfl) g2 (by rfl) Tryd.underlying28 rfl X (hD2.bel hX) (info_slc oa)) ?_
  refine jg (.agg (slc a).toArray) (fun X hX hF => exec_lda 28 _ (by rfl) g2 (by rfl) Tryd.underlying28 rfl X (hD2.bel hX) (info_slc oa)) ?_
  refine lx_new (by rfl) (fun X hX hF => exec_bsl2 _ _ (by rfl) a a oa oa (by rfl) (by rfl) X) ?_
  intro v111
  simp only [pX]
  refine jc (.int .i64 1) (fun X hX hF => mo (slgV exR (.slice A9 exR.length c9) [a, a] v111 X ⟨A9, c9, rfl, hrR.below hX⟩ (hF _ _ List.mem_cons_self rfl) (all2 oa oa) (HKK.out X (bel_next hb hX))) (by rw [HE.out.laa])) ?_
  refine jv (.bool true) (exec_eqi _ _ _ _ (by rfl) .i64 1 1 (by rfl) (by rfl) true (by rfl)) ?_
  refine jm (.bool true) ?_
  refine jm (.bool true) ?_
  refine ja hD1 Tryd.underlying24 (by rfl) info_rg ?_
  refine jg (.agg (slc a).toArray) (fun X hX hF => exec_lda 28 _ (by rfl) g2 (by rfl) Tryd.underlying28 rfl X (hD2.bel hX) (info_slc oa)) ?_
  refine jg (.agg (slc o).toArray) (fun X hX hF => exec_lda 28 _ (by rfl) g13 (by rfl) Tryd.underlying28 rfl X (hD13.bel hX) (info_slc oo)) ?_
  refine lx_new (by rfl) (fun X hX hF => exec_bsl2 _ _ (by rfl) a o oa oo (by rfl) (by rfl) X) ?_
  intro v119
  simp only [pX]
  refine jc (.int .i64 16) (fun X hX hF => mo (slgV exR (.slice A9 exR.length c9) [a, o] v119 X ⟨A9, c9, rfl, hrR.below hX⟩ (hF _ _ List.mem_cons_self rfl) (all2 oa oo) (HKK.out X (bel_next hb hX))) (by rw [HE.out.lao])) ?_
  refine jv (.bool true) (exec_eqi _ _ _ _ (by rfl) .i64 16 16 (by rfl) (by rfl) true (by rfl)) ?_
  refine jm (.bool true) ?_
  refine jm (.bool true) ?_
  refine lx_nil ?_
  intro X12 hX12 hF
  have hv97 := hF _ _ (List.mem_cons_of_mem _ (List.mem_cons_of_mem _ (List.mem_cons_of_mem _ List.mem_cons_self)))
  have hv103 := hF _ _ (List.mem_cons_of_mem _ (List.mem_cons_of_mem _ List.mem_cons_self))
  have hv111 := hF _ _ (List.mem_cons_of_mem _ List.mem_cons_self)
  have hv119 := hF _ _ List.mem_cons_self
  have hrR := hrR.below hX12
  have hD1 := hD1.bel hX12
  have hD2 := hD2.bel hX12
  have hD5 := hD5.bel hX12
  have hD7 := hD7.bel hX12
  have hD9 := hD9.bel hX12
  have hD11 := hD11.bel hX12
  have hD13 := hD13.bel hX12
  have hb := bel_next hb hX12
  clear hF hX12
  clear hv97
  clear hv103
  clear hv111
  clear hv119
  go_upto_region 14 with (fail)
  refine jp ?_
  refine ja hD1 Tryd.underlying24 (by rfl) info_rg ?_
  refine jg (.agg (slc a).toArray) (fun X hX hF => exec_lda 28 _ (by rfl) g2 (by rfl) Tryd.underlying28 rfl X (hD2.bel hX) (info_slc oa)) ?_
  refine jg (.agg (slc b).toArray) (fun X hX hF => exec_lda 28 _ (by rfl) g5 (by rfl) Tryd.underlying28 rfl X (hD5.bel hX) (info_slc ob)) ?_
  refine jc (.int .i64 0) (fun X hX hF => mo (sctV exR (.slice A9 exR.length c9) a b X ⟨A9, c9, rfl, hrR.below hX⟩ oa ob (HKK.out X (bel_next hb hX))) (by rw [HE.out.cab])) ?_
  refine jv (.bool true) (exec_eqi _ _ _ _ (by rfl) .i64 0 0 (by rfl) (by rfl) true (by rfl)) ?_
  refine jm (.bool true) ?_
  refine ja hD1 Tryd.underlying24 (by rfl) info_rg ?_
  refine jg (.agg (slc b).toArray) (fun X hX hF => exec_lda 28 _ (by rfl) g5 (by rfl) Tryd.underlying28 rfl X (hD5.bel hX) (info_slc ob)) ?_
  refine jg (.agg (slc c).toArray) (fun X hX hF => exec_lda 28 _ (by rfl) g7 (by rfl) Tryd.underlying28 rfl X (hD7.bel hX) (info_slc oc)) ?_
  refine jc (.int .i64 1) (fun X hX hF => mo (sctV exR (.slice A9 exR.length c9) b c X ⟨A9, c9, rfl, hrR.below hX⟩ ob oc (HKK.out X (bel_next hb hX))) (by rw [HE.out.cbc])) ?_
  refine jv (.bool true) (exec_eqi _ _ _ _ (by rfl) .i64 1 1 (by rfl) (by rfl) true (by rfl)) ?_
  refine jm (.bool true) ?_
  refine jm (.bool true) ?_
  refine ja hD1 Tryd.underlying24 (by rfl) info_rg ?_
  refine jg (.agg (slc a).toArray) (fun X hX hF => exec_lda 28 _ (by rfl) g2 (by rfl) Tryd.underlying28 rfl X (hD2.bel hX) (info_slc oa)) ?_
  refine jg (.agg (slc d).toArray) (fun X hX hF => exec_lda 28 _ (by rfl) g9 (by rfl) Tryd.underlying28 rfl X (hD9.bel hX) (info_slc od)) ?_
  refine jc (.int .i64 0) (fun X hX hF => mo (sctV exR (.slice A9 exR.length c9) a d X ⟨A9, c9, rfl, hrR.below hX⟩ oa od (HKK.out X (bel_next hb hX))) (by rw [HE.out.cad])) ?_
  refine jv (.bool true) (exec_eqi _ _ _ _ (by rfl) .i64 0 0 (by rfl) (by rfl) true (by rfl)) ?_
  refine jm (.bool true) ?_
  refine jm (.bool true) ?_
  refine jz fun X13 hX13 => ?_
  have hrR := hrR.below hX13
  have hD1 := hD1.bel hX13
  have hD2 := hD2.bel hX13
  have hD5 := hD5.bel hX13
  have hD7 := hD7.bel hX13
  have hD9 := hD9.bel hX13
  have hD11 := hD11.bel hX13
  have hD13 := hD13.bel hX13
  have hb := bel_next hb hX13
  clear hX13
  go_upto_region 15 with (fail)
  refine jd ?_
  refine jm (.bool true) ?_
  refine jm (.bool true) ?_
  refine jm (.bool true) ?_
  refine jm (.bool true) ?_
  refine jm (.bool true) ?_
  refine ja hD1 Tryd.underlying24 (by rfl) info_rg ?_
  refine jg (.agg (slc a).toArray) (fun X hX hF => exec_lda 28 _ (by rfl) g2 (by rfl) Tryd.underlying28 rfl X (hD2.bel hX) (info_slc oa)) ?_
  refine jc (.bool true) (fun X hX hF => mo (srgV exR (.slice A9 exR.length c9) a X ⟨A9, c9, rfl, hrR.below hX⟩ oa (HKK.out X (bel_next hb hX))) (by rw [HE.out.ra])) ?_
  refine jm (.bool true) ?_
  refine jm (.bool true) ?_
  refine ja hD1 Tryd.underlying24 (by rfl) info_rg ?_
  refine jg (.agg (slc o).toArray) (fun X hX hF => exec_lda 28 _ (by rfl) g13 (by rfl) Tryd.underlying28 rfl X (hD13.bel hX) (info_slc oo)) ?_
  refine jc (.bool false) (fun X hX hF => mo (srgV exR (.slice A9 exR.length c9) o X ⟨A9, c9, rfl, hrR.below hX⟩ oo (HKK.out X (bel_next hb hX))) (by rw [HE.out.ro])) ?_
  refine jm (.bool true) ?_
  refine jm (.bool true) ?_
  refine jm (.bool true) ?_
  refine ja hD1 Tryd.underlying24 (by rfl) info_rg ?_
  refine jc (.int .i64 0) (fun X hX hF => mo (sckV exR (.slice A9 exR.length c9) X ⟨A9, c9, rfl, hrR.below hX⟩) (by rw [HE.out.ck])) ?_
  refine jv (.bool true) (exec_eqi _ _ _ _ (by rfl) .i64 0 0 (by rfl) (by rfl) true (by rfl)) ?_
  refine jm (.bool true) ?_
  refine jm (.bool true) ?_
  refine jn (.pointer (some ⟨g2, 21, none⟩)) ?_
  refine jg (.agg (a.sl.map B8).toArray) (fun X hX hF => exec_inr 26 _ (by rfl) g2 21 (a.sl.map B8) (by rfl) Tryd.underlying26 rfl X (hD2.bel hX) (slc_sl oa) (info_d16 oa.sl)) ?_
  refine jn (.pointer (some ⟨g9, 21, none⟩)) ?_
  refine jg (.agg (d.sl.map B8).toArray) (fun X hX hF => exec_inr 26 _ (by rfl) g9 21 (d.sl.map B8) (by rfl) Tryd.underlying26 rfl X (hD9.bel hX) (slc_sl od) (info_d16 od.sl)) ?_
  refine jv (.bool true) (exec_nedg _ _ _ (by rfl) a.sl d.sl oa.sl od.sl (by rfl) (by rfl) _ (nes_t HE.out.sl)) ?_
  refine jm (.bool true) ?_
  refine jm (.bool true) ?_
  refine jn (.pointer (some ⟨g5, 5, none⟩)) ?_
  refine jg (.agg (b.pv.map B8).toArray) (fun X hX hF => exec_inr 26 _ (by rfl) g5 5 (b.pv.map B8) (by rfl) Tryd.underlying26 rfl X (hD5.bel hX) (slc_pv ob) (info_d16 ob.pv)) ?_
  refine jg (.agg (slc a).toArray) (fun X hX hF => exec_lda 28 _ (by rfl) g2 (by rfl) Tryd.underlying28 rfl X (hD2.bel hX) (info_slc oa)) ?_
  refine jc (.agg ((nm48 a).map B8).toArray) (fun X hX hF => snmC a X oa HE.out.ba (HKK.out X (bel_next hb hX))) ?_
  refine jv (.bool true) (exec_eqdg _ _ _ (by rfl) b.pv (nm48 a) ob.pv (nm_len _) (by rfl) (by rfl) _ (eqs_t HE.out.pv)) ?_
  refine jm (.bool true) ?_
  refine jm (.bool true) ?_
  refine jg (.agg (slc a).toArray) (fun X hX hF => exec_lda 28 _ (by rfl) g2 (by rfl) Tryd.underlying28 rfl X (hD2.bel hX) (info_slc oa)) ?_
  refine jc (.agg ((nm48 a).map B8).toArray) (fun X hX hF => snmC a X oa HE.out.ba (HKK.out X (bel_next hb hX))) ?_
  refine jg (.agg (slc b).toArray) (fun X hX hF => exec_lda 28 _ (by rfl) g5 (by rfl) Tryd.underlying28 rfl X (hD5.bel hX) (info_slc ob)) ?_
  refine jc (.agg ((nm48 b).map B8).toArray) (fun X hX hF => snmC b X ob HE.out.bb (HKK.out X (bel_next hb hX))) ?_
  refine jv (.bool true) (exec_nedg _ _ _ (by rfl) (nm48 a) (nm48 b) (nm_len _) (nm_len _) (by rfl) (by rfl) _ (nes_t HE.out.nm)) ?_
  refine jm (.bool true) ?_
  refine jm (.bool true) ?_
  refine jz fun X14 hX14 => ?_
  have hrR := hrR.below hX14
  have hD1 := hD1.bel hX14
  have hD2 := hD2.bel hX14
  have hD5 := hD5.bel hX14
  have hD7 := hD7.bel hX14
  have hD9 := hD9.bel hX14
  have hD11 := hD11.bel hX14
  have hD13 := hD13.bel hX14
  have hb := bel_next hb hX14
  clear hX14
  go_wp2
  go_ret
  exact ⟨rfl, hb⟩
end Go.Proofs.YthinopepcmidmaaDoor
