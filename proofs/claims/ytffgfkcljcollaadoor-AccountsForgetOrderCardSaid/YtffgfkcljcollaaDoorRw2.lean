/-
  Drawn regions with a store of a whole struct among other operations.
-/
import Derived.Test.YtffgfkcljcollaaDoorQop
set_option linter.unusedSimpArgs false
set_option linter.unusedVariables false
set_option maxRecDepth 100000
set_option maxHeartbeats 1600000
namespace Go.Proofs.YtffgfkcljcollaaDoor
open Go.RowKit
/-- Whether an int is from -MaxInt to MaxInt. -/
def insB (n : Int) : Bool := decide (-999999999999999 ≤ n ∧ n ≤ 999999999999999)
theorem insB_t {n : Int} (h : insB n = true) : -999999999999999 ≤ n ∧ n ≤ 999999999999999 := by unfold insB at h; exact of_decide_eq_true h
theorem ins0 (n : Int) (w : World) (h : n < -999999999999999) : Calls Tryd.prog 42 #[.int .i64 n] w fun e w' => e = .returned (.bool (insB n)) ∧ Since w w' := by
 have HI : Hid (insB n = false) := by unfold insB; exact decide_eq_false (by omega)
 go_enter Tryd.func42, Tryd.ntmps42
 go_upto_region 1 with fail;refine jp ?_;refine jm (.int .i64 n) ?_;refine jv (.bool false) (exec_geq _ _ _ _ (by rfl) .i64 n (-999999999999999) (by rfl) (by rfl) false (decide_eq_false (by omega))) ?_;refine jm (.bool false) ?_;refine js ?_;refine js ?_;refine jm (.bool false) ?_;refine jm (.bool false) ?_;refine jz fun X1 hX1 => ?_;have hb : Below w.heap.size w X1 := hX1;clear hX1
 go_wp2
 go_ret
 exact ⟨by rw [HI.out]; rfl, hb⟩
theorem ins1 (n : Int) (w : World) (h : 999999999999999 < n) : Calls Tryd.prog 42 #[.int .i64 n] w fun e w' => e = .returned (.bool (insB n)) ∧ Since w w' := by
 have HI : Hid (insB n = false) := by unfold insB; exact decide_eq_false (by omega)
 go_enter Tryd.func42, Tryd.ntmps42
 go_upto_region 1 with fail;refine jp ?_;refine jm (.int .i64 n) ?_;refine jv (.bool true) (exec_geq _ _ _ _ (by rfl) .i64 n (-999999999999999) (by rfl) (by rfl) true (decide_eq_true (by omega))) ?_;refine jm (.bool true) ?_;refine jm (.int .i64 n) ?_;refine jv (.bool false) (exec_leq _ _ _ _ (by rfl) .i64 n 999999999999999 (by rfl) (by rfl) false (decide_eq_false (by omega))) ?_;refine jm (.bool false) ?_;refine jm (.bool false) ?_;refine jz fun X1 hX1 => ?_;have hb : Below w.heap.size w X1 := hX1;clear hX1
 go_wp2
 go_ret
 exact ⟨by rw [HI.out]; rfl, hb⟩
theorem ins2 (n : Int) (w : World) (h1 : -999999999999999 ≤ n) (h2 : n ≤ 999999999999999) : Calls Tryd.prog 42 #[.int .i64 n] w fun e w' => e = .returned (.bool (insB n)) ∧ Since w w' := by
 have HI : Hid (insB n = true) := by unfold insB; exact decide_eq_true (by omega)
 go_enter Tryd.func42, Tryd.ntmps42
 go_upto_region 1 with fail;refine jp ?_;refine jm (.int .i64 n) ?_;refine jv (.bool true) (exec_geq _ _ _ _ (by rfl) .i64 n (-999999999999999) (by rfl) (by rfl) true (decide_eq_true (by omega))) ?_;refine jm (.bool true) ?_;refine jm (.int .i64 n) ?_;refine jv (.bool true) (exec_leq _ _ _ _ (by rfl) .i64 n 999999999999999 (by rfl) (by rfl) true (decide_eq_true (by omega))) ?_;refine jm (.bool true) ?_;refine jm (.bool true) ?_;refine jz fun X1 hX1 => ?_;have hb : Below w.heap.size w X1 := hX1;clear hX1
 go_wp2
 go_ret
 exact ⟨by rw [HI.out]; rfl, hb⟩
theorem insQ (n : Int) (w : World) : Calls Tryd.prog 42 #[.int .i64 n] w fun e w' => e = .returned (.bool (insB n)) ∧ Since w w' := by
 by_cases h1 : n < -999999999999999
 ·exact ins0 n w h1
 ·by_cases h2 : 999999999999999 < n
  ·exact ins1 n w h2
  ·exact ins2 n w (by omega) (by omega)
theorem int_true (n : Int) (w : World) (hn : insB n = true) (h : n < 0) : Calls Tryd.prog 43 #[.int .i64 n] w fun e w' => e = .returned (.agg #[.bool true, .string ⟨(be n.natAbs).toArray⟩, .string ⟨([1] : List UInt8).toArray⟩]) ∧ Since w w' := by
 have hnn := insB_t hn
 go_enter Tryd.func43, Tryd.ntmps43
 go_upto_region 1 with fail;obtain ⟨W0, hW0, hB0, hb⟩ := start1 w 77 [.bool false, .string ⟨#[]⟩, .string ⟨#[]⟩];rw [← hW0];clear hW0;refine jp ?_;refine jm (.int .i64 n) ?_;refine jm (.int .i64 n) ?_;refine jv (.int .i64 (-n)) (exec_neg _ _ (by rfl) n (-n) (by rfl) rfl (by omega) (by omega)) ?_;refine jv (.int .i64 ((n.natAbs : Nat) : Int)) (exec_max _ _ (by rfl) .i64 n (-n) ((n.natAbs : Nat) : Int) (by rfl) (by rfl) (by omega)) ?_;refine jc (.tuple #[st (be n.natAbs), .int .i64 0]) (fun X hX hF => nintC n.natAbs X (by omega)) ?_;refine jm (.tuple #[st (be n.natAbs), .int .i64 0]) ?_;refine jm (st (be n.natAbs)) ?_;refine jm (.int .i64 0) ?_;refine jm (st (be n.natAbs)) ?_;refine jm (.int .i64 0) ?_;refine jzb hb fun X1 hX1 hb => ?_;have hB0 := hB0.bel hX1;clear hX1;go_upto_region 2 with fail;refine jq 4 ?_;refine jm (.int .i64 n) ?_;refine jv (.bool true) (exec_lss _ _ _ _ (by rfl) .i64 n 0 (by rfl) (by rfl) true (decide_eq_true (by omega))) ?_;refine jm (st (be n.natAbs)) ?_;refine jn (rt true (be n.natAbs) ([1] : List UInt8)) ?_;refine jzb hb fun X2 hX2 hb => ?_;have hB0 := hB0.bel hX2;clear hX2;refine osb 77 2 16 w.heap.size 77 hB0 [.bool true, .string ⟨(be n.natAbs).toArray⟩, .string ⟨([1] : List UInt8).toArray⟩] info_fr ?_;intro w9 hR9 hO9 hB9 hs9;have hb9 := hB9 _ _ hb (by omega);clear hO9 hB9
 go_wp2
 refine post_cell rfl rfl (by rfl) Tryd.underlying77 rfl hR9 info_fr ⟨rfl, hb9⟩
theorem int_false (n : Int) (w : World) (hn : insB n = true) (h : 0 ≤ n) : Calls Tryd.prog 43 #[.int .i64 n] w fun e w' => e = .returned (.agg #[.bool false, .string ⟨(be n.natAbs).toArray⟩, .string ⟨([1] : List UInt8).toArray⟩]) ∧ Since w w' := by
 have hnn := insB_t hn
 go_enter Tryd.func43, Tryd.ntmps43
 go_upto_region 1 with fail;obtain ⟨W0, hW0, hB0, hb⟩ := start1 w 77 [.bool false, .string ⟨#[]⟩, .string ⟨#[]⟩];rw [← hW0];clear hW0;refine jp ?_;refine jm (.int .i64 n) ?_;refine jm (.int .i64 n) ?_;refine jv (.int .i64 (-n)) (exec_neg _ _ (by rfl) n (-n) (by rfl) rfl (by omega) (by omega)) ?_;refine jv (.int .i64 ((n.natAbs : Nat) : Int)) (exec_max _ _ (by rfl) .i64 n (-n) ((n.natAbs : Nat) : Int) (by rfl) (by rfl) (by omega)) ?_;refine jc (.tuple #[st (be n.natAbs), .int .i64 0]) (fun X hX hF => nintC n.natAbs X (by omega)) ?_;refine jm (.tuple #[st (be n.natAbs), .int .i64 0]) ?_;refine jm (st (be n.natAbs)) ?_;refine jm (.int .i64 0) ?_;refine jm (st (be n.natAbs)) ?_;refine jm (.int .i64 0) ?_;refine jzb hb fun X1 hX1 hb => ?_;have hB0 := hB0.bel hX1;clear hX1;go_upto_region 2 with fail;refine jq 4 ?_;refine jm (.int .i64 n) ?_;refine jv (.bool false) (exec_lss _ _ _ _ (by rfl) .i64 n 0 (by rfl) (by rfl) false (decide_eq_false (by omega))) ?_;refine jm (st (be n.natAbs)) ?_;refine jn (rt false (be n.natAbs) ([1] : List UInt8)) ?_;refine jzb hb fun X2 hX2 hb => ?_;have hB0 := hB0.bel hX2;clear hX2;refine osb 77 2 16 w.heap.size 77 hB0 [.bool false, .string ⟨(be n.natAbs).toArray⟩, .string ⟨([1] : List UInt8).toArray⟩] info_fr ?_;intro w9 hR9 hO9 hB9 hs9;have hb9 := hB9 _ _ hb (by omega);clear hO9 hB9
 go_wp2
 refine post_cell rfl rfl (by rfl) Tryd.underlying77 rfl hR9 info_fr ⟨rfl, hb9⟩
theorem mk_int (n : Int) : mkRat (sg (decide (n < 0)) n.natAbs) 1 = (n : Rat) := by
 have h : sg (decide (n < 0)) n.natAbs = n := by
  by_cases h : n < 0
  ·rw [decide_eq_true h]; simp [sg]; omega
  ·rw [decide_eq_false h]; simp [sg]; omega
 rw [h];exact Rat.mkRat_one n
theorem intQ (n : Int) (w : World) (hn : insB n = true) : Calls Tryd.prog 43 #[.int .i64 n] w fun e w' => ∃ u, e = .returned u ∧ IsF (n : Rat) 8 u w' ∧ Since w w' := by
 have hnn := insB_t hn;have hl : (be n.natAbs).length ≤ 8 := be_len (by omega);have key := mk_int n
 by_cases h : n < 0
 ·rw [decide_eq_true h] at key
  exact (int_true n w hn h).mono fun e' w' ⟨h1, h2⟩ => ⟨_, h1, ⟨true, n.natAbs, 1, (fv_one _ _).symm, by omega, key, hl, by rw [be_one]; decide⟩, h2⟩
 ·rw [decide_eq_false h] at key
  exact (int_false n w hn (by omega)).mono fun e' w' ⟨h1, h2⟩ => ⟨_, h1, ⟨false, n.natAbs, 1, (fv_one _ _).symm, by omega, key, hl, by rw [be_one]; decide⟩, h2⟩
theorem makeC (m n : Int) (w : World) (hm : insB m = true) (hn : insB n = true) (h0 : n ≠ 0) : Calls Tryd.prog 45 #[.int .i64 m, .int .i64 n] w fun e w' => e = .returned (.tuple #[.agg #[.bool (rN ((m : Rat) / (n : Rat))), .string ⟨(rP ((m : Rat) / (n : Rat))).toArray⟩, .string ⟨(rD ((m : Rat) / (n : Rat))).toArray⟩], .int .i64 0]) ∧ Since w w' := by
 have HM : Hid (insB m = true) := hm;have HN : Hid (insB n = true) := hn
 have HN0 : Hid ((n : Rat) ≠ 0) := fun h9 => h0 (by exact_mod_cast h9)
 have h9 : n < 0 ∨ 0 < n := by omega
 clear hm hn h0
 go_enter Tryd.func45, Tryd.ntmps45
 go_upto_region 1 with fail;obtain ⟨W0, hW0, hB0, hb⟩ := start1 w 30 [.bool false, .string ⟨#[]⟩, .string ⟨#[]⟩];rw [← hW0];clear hW0;refine jp ?_;refine jm (.int .i64 m) ?_;refine jc (.bool true) (fun X hX hF => mo (insQ m X) (by rw [HM.out])) ?_;refine jm (.bool false) ?_;refine jm (.bool false) ?_;refine jm (.int .i64 n) ?_;refine jc (.bool true) (fun X hX hF => mo (insQ n X) (by rw [HN.out])) ?_;refine jm (.bool false) ?_;refine jm (.bool false) ?_;refine jzb hb fun X1 hX1 hb => ?_;have hB0 := hB0.bel hX1;clear hX1;go_upto_region 3 with fail;refine jp ?_;refine jm (.int .i64 n) ?_;refine jv (.bool false) (exec_eqi _ _ _ _ (by rfl) .i64 n 0 (by rfl) (by rfl) false (decide_eq_false (by omega))) ?_;refine jzb hb fun X2 hX2 hb => ?_;have hB0 := hB0.bel hX2;clear hX2;go_upto_region 5 with fail;refine lx_plain_to 6 [none, some (IsF (m : Rat) 8), none, some (IsF (n : Rat) 8), some (IsF ((m : Rat) / (n : Rat)) (8 + 8))] (lasts_none (lasts_some (IsF.lasts _ _) (lasts_none (lasts_some (IsF.lasts _ _) (lasts_some (IsF.lasts _ _) (lasts_nil)))))) ?_;simp only [its, List.take, List.drop, Nat.zero_add, Nat.reduceAdd];refine jm (.int .i64 m) ?_;refine jk (fun X hX hF => intQ m X HM.out) ?_;intro v19;refine jm (.int .i64 n) ?_;refine jk (fun X hX hF => intQ n X HN.out) ?_;intro v21;refine jk (fun X hX hF => overQ _ _ 8 8 _ _ X (hF _ _ (List.mem_cons_of_mem _ List.mem_cons_self) rfl) (hF _ _ List.mem_cons_self rfl) (by omega) HN0.out) ?_;intro v22;refine jc (rt (rN ((m : Rat) / (n : Rat))) (rP ((m : Rat) / (n : Rat))) (rD ((m : Rat) / (n : Rat)))) (fun X hX hF => lowQ _ _ v22 X (hF _ _ List.mem_cons_self rfl) (by omega)) ?_
 refine lx_nil ?_;intro X3 hX3 hF;have hv19 := hF _ _ (List.mem_cons_of_mem _ (List.mem_cons_of_mem _ List.mem_cons_self));have hv21 := hF _ _ (List.mem_cons_of_mem _ List.mem_cons_self);have hv22 := hF _ _ List.mem_cons_self;have hB0 := hB0.bel hX3;have hb := bel_next hb hX3;clear hF hX3;refine osb 30 4 23 w.heap.size 30 hB0 [.bool (rN ((m : Rat) / (n : Rat))), .string ⟨(rP ((m : Rat) / (n : Rat))).toArray⟩, .string ⟨(rD ((m : Rat) / (n : Rat))).toArray⟩] info_rat ?_;intro w9 hR9 hO9 hB9 hs9;have hb9 := hB9 _ _ hb (by omega);clear hO9 hB9
 go_wp2
 refine post_cell2 (v := .int .i64 0) rfl rfl (by rfl) (by rfl) Tryd.underlying30 rfl hR9 info_rat ⟨rfl, hb9⟩
theorem rintQ (n : Int) (w : World) (hn : insB n = true) : Calls Tryd.prog 21 #[.int .i64 n] w fun e w' => e = .returned (rbv (n : Rat)) ∧ Since w w' := by
 have HN : Hid (insB n = true) := hn;clear hn
 go_enter Tryd.func21, Tryd.ntmps21
 go_upto_region 1 with fail;obtain ⟨W0, hW0, hB0, hb⟩ := start1 w 30 [.bool false, .string ⟨#[]⟩, .string ⟨#[]⟩];rw [← hW0];clear hW0;refine jp ?_;refine jm (.int .i64 n) ?_;refine jc (.bool true) (fun X hX hF => mo (insQ n X) (by rw [HN.out])) ?_;refine jm (.bool false) ?_;refine jzb hb fun X1 hX1 hb => ?_;have hB0 := hB0.bel hX1;clear hX1;go_upto_region 3 with fail;refine lx_plain_to 3 [none, some (IsF (n : Rat) 8)] (lasts_none (lasts_some (IsF.lasts _ _) (lasts_nil))) ?_;simp only [its, List.take, List.drop, Nat.zero_add, Nat.reduceAdd];refine jm (.int .i64 n) ?_;refine jk (fun X hX hF => intQ n X HN.out) ?_;intro v8;refine jc (rt (rN (n : Rat)) (rP (n : Rat)) (rD (n : Rat))) (fun X hX hF => lowQ _ _ v8 X (hF _ _ List.mem_cons_self rfl) (by omega)) ?_;refine lx_nil ?_;intro X2 hX2 hF;have hv8 := hF _ _ List.mem_cons_self;have hB0 := hB0.bel hX2;have hb := bel_next hb hX2;clear hF hX2;refine osb 30 2 9 w.heap.size 30 hB0 [.bool (rN (n : Rat)), .string ⟨(rP (n : Rat)).toArray⟩, .string ⟨(rD (n : Rat)).toArray⟩] info_rat ?_;intro w9 hR9 hO9 hB9 hs9;have hb9 := hB9 _ _ hb (by omega);clear hO9 hB9
 go_wp2
 refine post_cell rfl rfl (by rfl) Tryd.underlying30 rfl hR9 info_rat ⟨rfl, hb9⟩
theorem isF_zero (X : World) : IsF 0 1 (.agg #[.bool false, .string ⟨([] : List UInt8).toArray⟩, .string ⟨([1] : List UInt8).toArray⟩]) X := ⟨false, 0, 1, (fv_one false 0).symm, by omega, low_zero false 1, by decide, by rw [be_one]; decide⟩
theorem negQ (n : Bool) (p q : List UInt8) (w : World) (hp : p.length ≤ 1000000) (hq : q.length ≤ 1000000) : Calls Tryd.prog 18 #[.agg #[.bool n, .string ⟨p.toArray⟩, .string ⟨q.toArray⟩]] w fun e w' => e = .returned (rbv (-(rq n p q))) ∧ Since w w' := by
 go_enter Tryd.func18, Tryd.ntmps18
 go_upto_region 1 with fail;obtain ⟨W0, hW0, hB0, hB1, hb⟩ := start2 w 30 30 [.bool n, .string ⟨p.toArray⟩, .string ⟨q.toArray⟩] [.bool false, .string ⟨#[]⟩, .string ⟨#[]⟩];rw [← hW0];clear hW0;refine jq 4 ?_;refine jn (rt false [] ([1] : List UInt8)) ?_;refine jv (.func (.func 35) #[rt false [] ([1] : List UInt8)] #[]) (exec_mkf _ _ (by rfl) _ (by rfl)) ?_;refine ja hB0 Tryd.underlying30 (by rfl) info_rat ?_;refine jc (rt (rN (-(rq n p q))) (rP (-(rq n p q))) (rD (-(rq n p q)))) (fun X hX hF => doQ 35 (.agg #[.bool false, .string ⟨([] : List UInt8).toArray⟩, .string ⟨([1] : List UInt8).toArray⟩]) n p q (-(rq n p q)) 1000000 1000002 X hp hq (by omega) (by omega) (by omega) (fun v X => by go_simp) (fun v X hv => (lessQ 0 _ 1 1000000 _ v X (isF_zero X) hv (by omega)).mono fun e X' ⟨u, h1, h2, h3⟩ => ⟨u, h1, by rw [Rat.sub_eq_add_neg, Rat.zero_add] at h2; exact h2, h3⟩)) ?_;refine jzb hb fun X1 hX1 hb => ?_;have hB0 := hB0.bel hX1;have hB1 := hB1.bel hX1;clear hX1;refine osb 30 2 6 (w.heap.size + 1) 30 hB1 [.bool (rN (-(rq n p q))), .string ⟨(rP (-(rq n p q))).toArray⟩, .string ⟨(rD (-(rq n p q))).toArray⟩] info_rat ?_;intro w9 hR9 hO9 hB9 hs9;have hb9 := hB9 _ _ hb (by omega);clear hO9 hB9
 go_wp2
 refine post_cell rfl rfl (by rfl) Tryd.underlying30 rfl hR9 info_rat ⟨rfl, hb9⟩
theorem addQ (n : Bool) (p q : List UInt8) (n' : Bool) (p' q' : List UInt8) (w : World) (hp : p.length ≤ 1000000) (hq : q.length ≤ 1000000) (hp' : p'.length ≤ 1000000) (hq' : q'.length ≤ 1000000) : Calls Tryd.prog 15 #[.agg #[.bool n, .string ⟨p.toArray⟩, .string ⟨q.toArray⟩], .agg #[.bool n', .string ⟨p'.toArray⟩, .string ⟨q'.toArray⟩]] w fun e w' => e = .returned (rbv ((rq n p q) + (rq n' p' q'))) ∧ Since w w' := by
 go_enter Tryd.func15, Tryd.ntmps15
 go_upto_region 1 with fail;obtain ⟨W0, hW0, hB0, hB1, hB2, hb⟩ := start3 w 30 30 30 [.bool n, .string ⟨p.toArray⟩, .string ⟨q.toArray⟩] [.bool n', .string ⟨p'.toArray⟩, .string ⟨q'.toArray⟩] [.bool false, .string ⟨#[]⟩, .string ⟨#[]⟩];rw [← hW0];clear hW0;refine lx_region_tail [] (by kernel_rfl) (by kernel_rfl) (by kernel_rfl) rfl (lasts_nil) ?_;simp only [its, List.dropLast, Nat.zero_add, Nat.reduceAdd];refine ja hB0 Tryd.underlying30 (by rfl) info_rat ?_;refine jc (rt (rN (rq n p q)) (be (rq n p q).num.natAbs) (be (rq n p q).den)) (fun X hX hF => ofQ n p q X (by omega) (by omega)) ?_;refine jv (.func (.func 36) #[rt (rN (rq n p q)) (be (rq n p q).num.natAbs) (be (rq n p q).den)] #[]) (exec_mkf _ _ (by rfl) _ (by rfl)) ?_;refine ja hB1 Tryd.underlying30 (by rfl) info_rat ?_;refine jc (rt (rN ((rq n p q) + (rq n' p' q'))) (rP ((rq n p q) + (rq n' p' q'))) (rD ((rq n p q) + (rq n' p' q')))) (fun X hX hF => doQ 36 (.agg #[.bool (rN (rq n p q)), .string ⟨(be (rq n p q).num.natAbs).toArray⟩, .string ⟨(be (rq n p q).den).toArray⟩]) n' p' q' ((rq n p q) + (rq n' p' q')) 1000000 2000001 X hp' hq' (by omega) (by omega) (by omega) (fun v X => by go_simp) (fun v X hv => plusQ _ _ 1000000 1000000 _ v X (isF_of n p q hp hq (by omega) X) hv (by omega))) ?_;refine jzb hb fun X1 hX1 hb => ?_;have hB0 := hB0.bel hX1;have hB1 := hB1.bel hX1;have hB2 := hB2.bel hX1;clear hX1;refine osb 30 4 9 (w.heap.size + 2) 30 hB2 [.bool (rN ((rq n p q) + (rq n' p' q'))), .string ⟨(rP ((rq n p q) + (rq n' p' q'))).toArray⟩, .string ⟨(rD ((rq n p q) + (rq n' p' q'))).toArray⟩] info_rat ?_
 intro w9 hR9 hO9 hB9 hs9;have hb9 := hB9 _ _ hb (by omega);clear hO9 hB9
 go_wp2
 refine post_cell rfl rfl (by rfl) Tryd.underlying30 rfl hR9 info_rat ⟨rfl, hb9⟩
theorem subQ (n : Bool) (p q : List UInt8) (n' : Bool) (p' q' : List UInt8) (w : World) (hp : p.length ≤ 1000000) (hq : q.length ≤ 1000000) (hp' : p'.length ≤ 1000000) (hq' : q'.length ≤ 1000000) : Calls Tryd.prog 14 #[.agg #[.bool n, .string ⟨p.toArray⟩, .string ⟨q.toArray⟩], .agg #[.bool n', .string ⟨p'.toArray⟩, .string ⟨q'.toArray⟩]] w fun e w' => e = .returned (rbv ((rq n p q) - (rq n' p' q'))) ∧ Since w w' := by
 go_enter Tryd.func14, Tryd.ntmps14
 go_upto_region 1 with fail;obtain ⟨W0, hW0, hB0, hB1, hB2, hb⟩ := start3 w 30 30 30 [.bool n, .string ⟨p.toArray⟩, .string ⟨q.toArray⟩] [.bool n', .string ⟨p'.toArray⟩, .string ⟨q'.toArray⟩] [.bool false, .string ⟨#[]⟩, .string ⟨#[]⟩];rw [← hW0];clear hW0;refine lx_region_tail [] (by kernel_rfl) (by kernel_rfl) (by kernel_rfl) rfl (lasts_nil) ?_;simp only [its, List.dropLast, Nat.zero_add, Nat.reduceAdd];refine ja hB0 Tryd.underlying30 (by rfl) info_rat ?_;refine jc (rt (rN (rq n p q)) (be (rq n p q).num.natAbs) (be (rq n p q).den)) (fun X hX hF => ofQ n p q X (by omega) (by omega)) ?_;refine jv (.func (.func 35) #[rt (rN (rq n p q)) (be (rq n p q).num.natAbs) (be (rq n p q).den)] #[]) (exec_mkf _ _ (by rfl) _ (by rfl)) ?_;refine ja hB1 Tryd.underlying30 (by rfl) info_rat ?_;refine jc (rt (rN ((rq n p q) - (rq n' p' q'))) (rP ((rq n p q) - (rq n' p' q'))) (rD ((rq n p q) - (rq n' p' q')))) (fun X hX hF => doQ 35 (.agg #[.bool (rN (rq n p q)), .string ⟨(be (rq n p q).num.natAbs).toArray⟩, .string ⟨(be (rq n p q).den).toArray⟩]) n' p' q' ((rq n p q) - (rq n' p' q')) 1000000 2000001 X hp' hq' (by omega) (by omega) (by omega) (fun v X => by go_simp) (fun v X hv => lessQ _ _ 1000000 1000000 _ v X (isF_of n p q hp hq (by omega) X) hv (by omega))) ?_;refine jzb hb fun X1 hX1 hb => ?_;have hB0 := hB0.bel hX1;have hB1 := hB1.bel hX1;have hB2 := hB2.bel hX1;clear hX1;refine osb 30 4 9 (w.heap.size + 2) 30 hB2 [.bool (rN ((rq n p q) - (rq n' p' q'))), .string ⟨(rP ((rq n p q) - (rq n' p' q'))).toArray⟩, .string ⟨(rD ((rq n p q) - (rq n' p' q'))).toArray⟩] info_rat ?_
 intro w9 hR9 hO9 hB9 hs9;have hb9 := hB9 _ _ hb (by omega);clear hO9 hB9
 go_wp2
 refine post_cell rfl rfl (by rfl) Tryd.underlying30 rfl hR9 info_rat ⟨rfl, hb9⟩
end Go.Proofs.YtffgfkcljcollaaDoor
namespace Go.Proofs.YtffgfkcljcollaaDoor
open Go.RowKit
theorem Turns.of_since {g : Nat} {t : TypeId} {xs ys : List Value} {X Y : World} (h : Since X Y) : Turns g t xs ys X Y :=
 ⟨⟨h.os, h.tape, h.output, h.size, fun k hk _ => h.block k hk⟩, fun hx => .inl (hx.bel h), fun hy => hy.bel h⟩
section
variable {P : Program} {l : List Oper} {ops : Array Oper} {w : World} {Q : Act → World → Prop} {pre : Nat → Nat → Bool} {a : Act} {k : Nat} {o : Oper} {rest : List (Nat × Oper × Spec)} {Fs : List (Nat × (World → Prop))}
end
end Go.Proofs.YtffgfkcljcollaaDoor
