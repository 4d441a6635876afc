/-
  The reference of layer 13: Least, Shift.
-/
import Derived.Test.YtchhlgcakjjncaaGreatDoorRc2
import Derived.Test.YtchhlgcakjjncaaGreatDoorLa
set_option linter.unusedSimpArgs false
set_option linter.unusedVariables false
set_option maxRecDepth 100000
set_option maxHeartbeats 1600000
namespace Go.Proofs.YtchhlgcakjjncaaGreatDoor
open Go.RowKit
theorem info_st13 : (Tryz.prog.info? 51).map (·.size) = some 2 := by kernel_rfl
theorem le_ok {l : List Pt} (hc : ck l = 0) {x : Rat} {r : Nat} (hr : lst (l.map kp) x = r) (h : r < 3001) : leN l true x = -1000 + (r : Int) ∧ leE l true x = 0 := by
  unfold leN leE
  rw [if_neg (show ¬ (ck l ≠ 0) from fun h9 => h9 hc), if_neg (show ¬ (ck l ≠ 0) from fun h9 => h9 hc), hr, if_pos h, if_pos h]
  exact ⟨rfl, rfl⟩
theorem le_no {l : List Pt} (hc : ck l = 0) {x : Rat} {r : Nat} (hr : lst (l.map kp) x = r) (h : ¬ r < 3001) : leN l true x = 0 ∧ leE l true x = 8 := by
  unfold leN leE
  rw [if_neg (show ¬ (ck l ≠ 0) from fun h9 => h9 hc), if_neg (show ¬ (ck l ≠ 0) from fun h9 => h9 hc), hr, if_neg h, if_neg h]
  exact ⟨rfl, rfl⟩
theorem info_md13 : (Tryz.prog.info? 65).map (·.size) = some 2 := by kernel_rfl
theorem rleastCe (A : Option Addr) (n c : Nat) (l : List Pt) (n' : Bool) (p q : List UInt8) (x : Rat) (HX : Hid (rq n' p q = x)) (ht : tz p q 1000000) (w : World) (hr : Rd w 4 (.slice A n c) n (fl ptc l)) (hln : l.length = n) (hn1 : n ≤ 9223372036854775807) (hf : fewP l 1000) (hc : ck l ≠ 0) : Calls Tryz.prog 37 #[.agg #[.slice A n c], .agg #[.bool n', .string ⟨p.toArray⟩, .string ⟨q.toArray⟩]] w fun e w' => e = .returned (.agg #[.int .i64 (leN l (vd n' p q) x), .int .i64 (leE l (vd n' p q) x)]) ∧ Since w w' := by
  have HRX : Hid (∀ X, Since w X → Rd X 4 (.slice A n c) n (fl ptc l)) := fun X h => hr.below h
  have HFL : Hid (leN l (vd n' p q) x = 0 ∧ leE l (vd n' p q) x = ck l) := ⟨if_pos hc, if_pos hc⟩
  clear hr
  go_enter Tryz.func37, Tryz.ntmps37
  go_upto_region 1 with (fail)
  obtain ⟨W0, hW0, hB0, hB1, hB2, hb⟩ := start3 w 48 23 51 [.slice A n c] [.bool n', .string ⟨p.toArray⟩, .string ⟨q.toArray⟩] [.int .i64 0, .int .i64 0]
  rw [← hW0]
  clear hW0
  refine jp ?_
  refine ja hB0 Tryz.underlying48 (by rfl) info_cv ?_
  refine jc (.int .i64 (ck l)) (fun X hX hF => rcheckC A n c l X (HRX.out X (hb.trans (Below.mono hX hb.size))) hln hn1 hf.mono) ?_
  refine jm (.int .i64 (ck l)) ?_
  refine jz fun X1 hX1 => ?_
  have hB0 := hB0.bel hX1
  have hB1 := hB1.bel hX1
  have hB2 := hB2.bel hX1
  have hb := bel_next hb hX1
  clear hX1
  go_upto_region 2 with (fail)
  refine jp ?_
  refine jm (.int .i64 (ck l)) ?_
  refine jv (.bool true) (exec_nei _ _ _ _ (by rfl) .i64 (ck l) 0 (by rfl) (by rfl) true (by rw [decide_eq_false (by omega)]; rfl)) ?_
  refine jz fun X2 hX2 => ?_
  have hB0 := hB0.bel hX2
  have hB1 := hB1.bel hX2
  have hB2 := hB2.bel hX2
  have hb := bel_next hb hX2
  clear hX2
  go_upto_region 3 with (fail)
  refine jq 2 ?_
  refine jm (.int .i64 (ck l)) ?_
  refine jn (.agg #[.int .i64 0, .int .i64 (ck l)]) ?_
  refine jz fun X3 hX3 => ?_
  have hB0 := hB0.bel hX3
  have hB1 := hB1.bel hX3
  have hB2 := hB2.bel hX3
  have hb := bel_next hb hX3
  clear hX3
  refine osb 51 4 13 (w.heap.size + 2) 51 hB2 [.int .i64 0, .int .i64 (ck l)] info_st13 ?_
  intro w9 hR9 hO9 hB9 hs9
  have hb9 := hB9 _ _ hb (by omega)
  clear hO9 hB9
  go_wp2
  refine post_cell rfl rfl (by rfl) Tryz.underlying51 rfl hR9 info_st13 ⟨by rw [HFL.out.1, HFL.out.2], hb9⟩
theorem rleastCv (b off n c : Nat) (l : List Pt) (n' : Bool) (p q : List UInt8) (x : Rat) (HX : Hid (rq n' p q = x)) (ht : tz p q 1000000) (w : World) (hr : Rd w 4 (.slice (some ⟨b, off, none⟩) n c) n (fl ptc l)) (hln : l.length = n) (hn1 : n ≤ 9223372036854775807) (hf : fewP l 1000) (hc : ck l = 0) (HV : Hid (vd n' p q = false)) : Calls Tryz.prog 37 #[.agg #[.slice (some ⟨b, off, none⟩) n c], .agg #[.bool n', .string ⟨p.toArray⟩, .string ⟨q.toArray⟩]] w fun e w' => e = .returned (.agg #[.int .i64 (leN l (vd n' p q) x), .int .i64 (leE l (vd n' p q) x)]) ∧ Since w w' := by
  have HRX : Hid (∀ X, Since w X → Rd X 4 (.slice (some ⟨b, off, none⟩) n c) n (fl ptc l)) := fun X h => hr.below h
  have HFL : Hid (leN l (vd n' p q) x = 0 ∧ leE l (vd n' p q) x = 1) := ⟨by unfold leN; rw [if_neg (fun h9 => h9 hc), HV.out]; rfl, by unfold leE; rw [if_neg (fun h9 => h9 hc), HV.out]; rfl⟩
  clear hr
  go_enter Tryz.func37, Tryz.ntmps37
  go_upto_region 1 with (fail)
  obtain ⟨W0, hW0, hB0, hB1, hB2, hb⟩ := start3 w 48 23 51 [.slice (some ⟨b, off, none⟩) n c] [.bool n', .string ⟨p.toArray⟩, .string ⟨q.toArray⟩] [.int .i64 0, .int .i64 0]
  rw [← hW0]
  clear hW0
  refine jp ?_
  refine ja hB0 Tryz.underlying48 (by rfl) info_cv ?_
  refine jc (.int .i64 0) (fun X hX hF => mo (rcheckC (some ⟨b, off, none⟩) n c l X (HRX.out X (hb.trans (Below.mono hX hb.size))) hln hn1 hf.mono) (by rw [hc])) ?_
  refine jm (.int .i64 0) ?_
  refine jz fun X1 hX1 => ?_
  have hB0 := hB0.bel hX1
  have hB1 := hB1.bel hX1
  have hB2 := hB2.bel hX1
  have hb := bel_next hb hX1
  clear hX1
  go_upto_region 2 with (fail)
  refine jp ?_
  refine jm (.int .i64 0) ?_
  refine jv (.bool false) (exec_nei _ _ _ _ (by rfl) .i64 0 0 (by rfl) (by rfl) false (by rw [decide_eq_true (by omega)]; rfl)) ?_
  refine jz fun X2 hX2 => ?_
  have hB0 := hB0.bel hX2
  have hB1 := hB1.bel hX2
  have hB2 := hB2.bel hX2
  have hb := bel_next hb hX2
  clear hX2
  go_upto_region 4 with (fail)
  refine jp ?_
  refine ja hB1 Tryz.underlying23 (by rfl) info_rat ?_
  refine jc (.bool false) (fun X hX hF => mo (rvQ5 n' p q X (Nat.le_trans ht.1 (by omega)) (Nat.le_trans ht.2 (by omega))) (by rw [HV.out])) ?_
  refine jm (.bool false) ?_
  refine jz fun X3 hX3 => ?_
  have hB0 := hB0.bel hX3
  have hB1 := hB1.bel hX3
  have hB2 := hB2.bel hX3
  have hb := bel_next hb hX3
  clear hX3
  go_upto_region 5 with (fail)
  refine jp ?_
  refine jm (.bool false) ?_
  refine jm (.bool true) ?_
  refine jz fun X4 hX4 => ?_
  have hB0 := hB0.bel hX4
  have hB1 := hB1.bel hX4
  have hB2 := hB2.bel hX4
  have hb := bel_next hb hX4
  clear hX4
  go_upto_region 6 with (fail)
  refine jq 1 ?_
  refine jn (.agg #[.int .i64 0, .int .i64 1]) ?_
  refine jz fun X5 hX5 => ?_
  have hB0 := hB0.bel hX5
  have hB1 := hB1.bel hX5
  have hB2 := hB2.bel hX5
  have hb := bel_next hb hX5
  clear hX5
  refine osb 51 4 18 (w.heap.size + 2) 51 hB2 [.int .i64 0, .int .i64 1] info_st13 ?_
  intro w9 hR9 hO9 hB9 hs9
  have hb9 := hB9 _ _ hb (by omega)
  clear hO9 hB9
  go_wp2
  refine post_cell rfl rfl (by rfl) Tryz.underlying51 rfl hR9 info_st13 ⟨by rw [HFL.out.1, HFL.out.2], hb9⟩
theorem rleastCo (b off n c : Nat) (l : List Pt) (n' : Bool) (p q : List UInt8) (x : Rat) (HX : Hid (rq n' p q = x)) (ht : tz p q 1000000) (w : World) (hr : Rd w 4 (.slice (some ⟨b, off, none⟩) n c) n (fl ptc l)) (hln : l.length = n) (hn1 : n ≤ 9223372036854775807) (hf : fewP l 1000) (hc : ck l = 0) (HV : Hid (vd n' p q = true)) (r : Nat) (HR : Hid (lst (l.map kp) x = r)) (hr3 : r ≤ 3001) : Calls Tryz.prog 37 #[.agg #[.slice (some ⟨b, off, none⟩) n c], .agg #[.bool n', .string ⟨p.toArray⟩, .string ⟨q.toArray⟩]] w fun e w' => e = .returned (.agg #[.int .i64 (leN l (vd n' p q) x), .int .i64 (leE l (vd n' p q) x)]) ∧ Since w w' := by
  have HRX : Hid (∀ X, Since w X → Rd X 4 (.slice (some ⟨b, off, none⟩) n c) n (fl ptc l)) := fun X h => hr.below h
  have hok := ck_zero hc
  clear hr
  go_enter Tryz.func37, Tryz.ntmps37
  go_upto_region 1 with (fail)
  obtain ⟨W0, hW0, hB0, hB1, hB2, hb⟩ := start3 w 48 23 51 [.slice (some ⟨b, off, none⟩) n c] [.bool n', .string ⟨p.toArray⟩, .string ⟨q.toArray⟩] [.int .i64 0, .int .i64 0]
  rw [← hW0]
  clear hW0
  refine jp ?_
  refine ja hB0 Tryz.underlying48 (by rfl) info_cv ?_
  refine jc (.int .i64 0) (fun X hX hF => mo (rcheckC (some ⟨b, off, none⟩) n c l X (HRX.out X (hb.trans (Below.mono hX hb.size))) hln hn1 hf.mono) (by rw [hc])) ?_
  refine jm (.int .i64 0) ?_
  refine jz fun X1 hX1 => ?_
  have hB0 := hB0.bel hX1
  have hB1 := hB1.bel hX1
  have hB2 := hB2.bel hX1
  have hb := bel_next hb hX1
  clear hX1
  go_upto_region 2 with (fail)
  refine jp ?_
  refine jm (.int .i64 0) ?_
  refine jv (.bool false) (exec_nei _ _ _ _ (by rfl) .i64 0 0 (by rfl) (by rfl) false (by rw [decide_eq_true (by omega)]; rfl)) ?_
  refine jz fun X2 hX2 => ?_
  have hB0 := hB0.bel hX2
  have hB1 := hB1.bel hX2
  have hB2 := hB2.bel hX2
  have hb := bel_next hb hX2
  clear hX2
  go_upto_region 4 with (fail)
  refine jp ?_
  refine ja hB1 Tryz.underlying23 (by rfl) info_rat ?_
  refine jc (.bool true) (fun X hX hF => mo (rvQ5 n' p q X (Nat.le_trans ht.1 (by omega)) (Nat.le_trans ht.2 (by omega))) (by rw [HV.out])) ?_
  refine jm (.bool true) ?_
  refine jz fun X3 hX3 => ?_
  have hB0 := hB0.bel hX3
  have hB1 := hB1.bel hX3
  have hB2 := hB2.bel hX3
  have hb := bel_next hb hX3
  clear hX3
  go_upto_region 5 with (fail)
  refine jp ?_
  refine jm (.bool true) ?_
  refine jm (.bool false) ?_
  refine jz fun X4 hX4 => ?_
  have hB0 := hB0.bel hX4
  have hB1 := hB1.bel hX4
  have hB2 := hB2.bel hX4
  have hb := bel_next hb hX4
  clear hX4
  go_upto_region 7 with (fail)
  refine jp ?_
  refine jm (.int .i64 (-1000)) ?_
  refine jz fun X5 hX5 => ?_
  have hB0 := hB0.bel hX5
  have hB1 := hB1.bel hX5
  have hB2 := hB2.bel hX5
  have hb := bel_next hb hX5
  clear hX5
  go_wp2
  go_loopw [7] (fun kv wr => ∃ k : Nat, k ≤ 3001 ∧ k ≤ r ∧ kv = .int .i64 (-1000 + (k : Int)) ∧ Blk wr w.heap.size 48 [.slice (some ⟨b, off, none⟩) n c] ∧ Blk wr (w.heap.size + 1) 23 [.bool n', .string ⟨p.toArray⟩, .string ⟨q.toArray⟩] ∧ Blk wr (w.heap.size + 2) 51 [.int .i64 0, .int .i64 0] ∧ Below w.heap.size w wr) (fun kv _ => 3001 - (intOf kv + 1000).toNat)
  case atStart => exact ⟨0, by omega, by omega, rfl, hB0, hB1, hB2, hb⟩
  case round =>
    clear hB0 hB1 hB2 hb
    obtain ⟨k, hk, hkr, rfl, hB0, hB1, hB2, hb⟩ := hrel
    rcases Nat.lt_or_ge k 3001 with hlt | hlt
    · have hcmp := cmp_dec (flowAt (l.map kp) (-1000 + (k : Int))) x
      rw [lst_dec hok.crv x hlt, HR.out] at hcmp
      go_upto_region 8 with (fail)
      refine jp ?_
      refine jm (.int .i64 (-1000 + (k : Int))) ?_
      refine jv (.bool true) (exec_leq _ _ _ _ (by rfl) .i64 (-1000 + (k : Int)) 2000 (by rfl) (by rfl) true (decide_eq_true (by omega))) ?_
      refine jz fun X1 hX1 => ?_
      have hB0 := hB0.bel hX1
      have hB1 := hB1.bel hX1
      have hB2 := hB2.bel hX1
      have hb := bel_next hb hX1
      clear hX1
      rcases Nat.lt_or_ge k r with hkr2 | hkr2
      · have hge : ¬ 0 ≤ cmpR (flowAt (l.map kp) (-1000 + (k : Int))) x := by
          rw [decide_eq_false (show ¬ r ≤ k by omega)] at hcmp
          exact of_decide_eq_false hcmp
        clear hcmp
        go_upto_region 10 with (fail)
        refine jd ?_
        refine ja hB0 Tryz.underlying48 (by rfl) info_cv ?_
        refine jm (.int .i64 (-1000 + (k : Int))) ?_
        refine jc (.agg #[.bool (rN (flowAt (l.map kp) (-1000 + (k : Int)))), st (rP (flowAt (l.map kp) (-1000 + (k : Int)))), st (rD (flowAt (l.map kp) (-1000 + (k : Int))))]) (fun X hX hF => ratC b off n c l (-1000 + (k : Int)) X (HRX.out X (hb.trans (Below.mono hX hb.size))) hln hok hf) ?_
        refine ja hB1 Tryz.underlying23 (by rfl) info_rat ?_
        refine jc (.int .i64 (cmpR (flowAt (l.map kp) (-1000 + (k : Int))) x)) (fun X hX hF => cmpS (rN (flowAt (l.map kp) (-1000 + (k : Int)))) (rP (flowAt (l.map kp) (-1000 + (k : Int)))) (rD (flowAt (l.map kp) (-1000 + (k : Int)))) n' p q (rq_rb _) HX.out X (tzR (flow_sz hok hf _) (by omega)) ht) ?_
        refine jv (.bool false) (exec_geq _ _ _ _ (by rfl) .i64 (cmpR (flowAt (l.map kp) (-1000 + (k : Int))) x) 0 (by rfl) (by rfl) false (decide_eq_false (by omega))) ?_
        refine jz fun X2 hX2 => ?_
        have hB0 := hB0.bel hX2
        have hB1 := hB1.bel hX2
        have hB2 := hB2.bel hX2
        have hb := bel_next hb hX2
        clear hX2
        go_upto_region 9 with (fail)
        refine jp ?_
        refine jm (.int .i64 (-1000 + (k : Int))) ?_
        refine jv (.int .i64 (-1000 + ((k + 1 : Nat) : Int))) (exec_add _ _ _ _ (by rfl) (-1000 + (k : Int)) 1 (-1000 + ((k + 1 : Nat) : Int)) (by rfl) (by rfl) (by omega) (by omega) (by omega)) ?_
        refine jm (.int .i64 (-1000 + ((k + 1 : Nat) : Int))) ?_
        refine jz fun X3 hX3 => ?_
        have hB0 := hB0.bel hX3
        have hB1 := hB1.bel hX3
        have hB2 := hB2.bel hX3
        have hb := bel_next hb hX3
        clear hX3
        go_wp2
        go_roundw
        case rel => exact ⟨k + 1, by omega, by omega, rfl, hB0, hB1, hB2, hb⟩
        case measure => simp [intOf]; omega
      · have hge : 0 ≤ cmpR (flowAt (l.map kp) (-1000 + (k : Int))) x := by
          rw [decide_eq_true (show r ≤ k by omega)] at hcmp
          exact of_decide_eq_true hcmp
        clear hcmp
        have HLE := Lib.hid (le_ok hc HR.out (show r < 3001 by omega))
        obtain rfl : k = r := by omega
        go_upto_region 10 with (fail)
        refine jd ?_
        refine ja hB0 Tryz.underlying48 (by rfl) info_cv ?_
        refine jm (.int .i64 (-1000 + (k : Int))) ?_
        refine jc (.agg #[.bool (rN (flowAt (l.map kp) (-1000 + (k : Int)))), st (rP (flowAt (l.map kp) (-1000 + (k : Int)))), st (rD (flowAt (l.map kp) (-1000 + (k : Int))))]) (fun X hX hF => ratC b off n c l (-1000 + (k : Int)) X (HRX.out X (hb.trans (Below.mono hX hb.size))) hln hok hf) ?_
        refine ja hB1 Tryz.underlying23 (by rfl) info_rat ?_
        refine jc (.int .i64 (cmpR (flowAt (l.map kp) (-1000 + (k : Int))) x)) (fun X hX hF => cmpS (rN (flowAt (l.map kp) (-1000 + (k : Int)))) (rP (flowAt (l.map kp) (-1000 + (k : Int)))) (rD (flowAt (l.map kp) (-1000 + (k : Int)))) n' p q (rq_rb _) HX.out X (tzR (flow_sz hok hf _) (by omega)) ht) ?_
        refine jv (.bool true) (exec_geq _ _ _ _ (by rfl) .i64 (cmpR (flowAt (l.map kp) (-1000 + (k : Int))) x) 0 (by rfl) (by rfl) true (decide_eq_true (by omega))) ?_
        refine jz fun X2 hX2 => ?_
        have hB0 := hB0.bel hX2
        have hB1 := hB1.bel hX2
        have hB2 := hB2.bel hX2
        have hb := bel_next hb hX2
        clear hX2
        go_upto_region 11 with (fail)
        refine jq 2 ?_
        refine jm (.int .i64 (-1000 + (k : Int))) ?_
        refine jn (.agg #[.int .i64 (-1000 + (k : Int)), .int .i64 0]) ?_
        refine jz fun X3 hX3 => ?_
        have hB0 := hB0.bel hX3
        have hB1 := hB1.bel hX3
        have hB2 := hB2.bel hX3
        have hb := bel_next hb hX3
        clear hX3
        refine osb 51 4 30 (w.heap.size + 2) 51 hB2 [.int .i64 (-1000 + (k : Int)), .int .i64 0] info_st13 ?_
        intro w9 hR9 hO9 hB9 hs9
        have hb9 := hB9 _ _ hb (by omega)
        clear hO9 hB9
        go_wp2
        refine post_cell rfl rfl (by rfl) Tryz.underlying51 rfl hR9 info_st13 ⟨by rw [HV.out, HLE.out.1, HLE.out.2], hb9⟩
    · have HLE := Lib.hid (le_no hc HR.out (show ¬ r < 3001 by omega))
      go_upto_region 8 with (fail)
      refine jp ?_
      refine jm (.int .i64 (-1000 + (k : Int))) ?_
      refine jv (.bool false) (exec_leq _ _ _ _ (by rfl) .i64 (-1000 + (k : Int)) 2000 (by rfl) (by rfl) false (decide_eq_false (by omega))) ?_
      refine jz fun X1 hX1 => ?_
      have hB0 := hB0.bel hX1
      have hB1 := hB1.bel hX1
      have hB2 := hB2.bel hX1
      have hb := bel_next hb hX1
      clear hX1
      go_upto_region 12 with (fail)
      refine jq 1 ?_
      refine jn (.agg #[.int .i64 0, .int .i64 8]) ?_
      refine jz fun X2 hX2 => ?_
      have hB0 := hB0.bel hX2
      have hB1 := hB1.bel hX2
      have hB2 := hB2.bel hX2
      have hb := bel_next hb hX2
      clear hX2
      refine osb 51 4 31 (w.heap.size + 2) 51 hB2 [.int .i64 0, .int .i64 8] info_st13 ?_
      intro w9 hR9 hO9 hB9 hs9
      have hb9 := hB9 _ _ hb (by omega)
      clear hO9 hB9
      go_wp2
      refine post_cell rfl rfl (by rfl) Tryz.underlying51 rfl hR9 info_st13 ⟨by rw [HV.out, HLE.out.1, HLE.out.2], hb9⟩
theorem rleastC (A : Option Addr) (n c : Nat) (l : List Pt) (n' : Bool) (p q : List UInt8) {x : Rat} (hx : rq n' p q = x) (ht : tz p q 1000000) (w : World) (hr : Rd w 4 (.slice A n c) n (fl ptc l)) (hln : l.length = n) (hn1 : n ≤ 9223372036854775807) (hf : fewP l 1000) : Calls Tryz.prog 37 #[.agg #[.slice A n c], .agg #[.bool n', .string ⟨p.toArray⟩, .string ⟨q.toArray⟩]] w fun e w' => e = .returned (.agg #[.int .i64 (leN l (vd n' p q) x), .int .i64 (leE l (vd n' p q) x)]) ∧ Since w w' := by
  by_cases hc : ck l = 0
  · obtain ⟨b, off, rfl⟩ := some_addr hr hln hc
    rcases hv : vd n' p q with _ | _
    · have h1 := rleastCv b off n c l n' p q x hx ht w hr hln hn1 hf hc hv
      rwa [hv] at h1
    · have h1 := rleastCo b off n c l n' p q x hx ht w hr hln hn1 hf hc hv _ rfl (lst_le _ _)
      rwa [hv] at h1
  · exact rleastCe A n c l n' p q x hx ht w hr hln hn1 hf hc
end Go.Proofs.YtchhlgcakjjncaaGreatDoor
