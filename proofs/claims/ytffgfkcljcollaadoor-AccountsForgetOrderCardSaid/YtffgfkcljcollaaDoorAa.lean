/-
  account: isDay, Right.
-/
import Derived.Test.YtffgfkcljcollaaDoorAw
set_option linter.unusedSimpArgs false
set_option linter.unusedVariables false
set_option maxRecDepth 100000
set_option maxHeartbeats 1600000
namespace Go.Proofs.YtffgfkcljcollaaDoor
open Go.RowKit
theorem dayC (z : Int) (w : World) : Calls Tryd.prog 29 #[.int .i64 z] w fun e w' => e = .returned (.bool (decide (0 ≤ z) && decide (z ≤ 14609))) ∧ Since w w' := by
 rcases (show z < 0 ∨ 14609 < z ∨ (0 ≤ z ∧ z ≤ 14609) by omega) with hy | hy | hy
 ·have HB : (decide (0 ≤ z) && decide (z ≤ 14609)) = false := by rw [decide_eq_false (show ¬ 0 ≤ z by omega)]; rfl
  rw [HB];clear HB
  go_enter Tryd.func29, Tryd.ntmps29
  go_upto_region 1 with fail;refine jp ?_;refine jm (.int .i64 z) ?_;refine jv (.bool false) (exec_geq _ _ _ _ (by rfl) .i64 z 0 (by rfl) (by rfl) false (decide_eq_false (by omega))) ?_;refine jm (.bool false) ?_;refine js ?_;refine js ?_;refine jm (.bool false) ?_;refine jm (.bool false) ?_;refine jz fun X1 hX1 => ?_;have hb : Below w.heap.size w X1 := hX1;clear hX1
  go_wp2
  go_ret
  exact ⟨rfl, hb⟩
 ·have HB : (decide (0 ≤ z) && decide (z ≤ 14609)) = false := by rw [decide_eq_false (show ¬ z ≤ 14609 by omega), Bool.and_false]
  rw [HB];clear HB
  go_enter Tryd.func29, Tryd.ntmps29
  go_upto_region 1 with fail;refine jp ?_;refine jm (.int .i64 z) ?_;refine jv (.bool true) (exec_geq _ _ _ _ (by rfl) .i64 z 0 (by rfl) (by rfl) true (decide_eq_true (by omega))) ?_;refine jm (.bool true) ?_;refine jm (.int .i64 z) ?_;refine jv (.bool false) (exec_leq _ _ _ _ (by rfl) .i64 z 14609 (by rfl) (by rfl) false (decide_eq_false (by omega))) ?_;refine jm (.bool false) ?_;refine jm (.bool false) ?_;refine jz fun X1 hX1 => ?_;have hb : Below w.heap.size w X1 := hX1;clear hX1
  go_wp2
  go_ret
  exact ⟨rfl, hb⟩
 ·have HB : (decide (0 ≤ z) && decide (z ≤ 14609)) = true := by rw [decide_eq_true hy.1, decide_eq_true hy.2]; rfl
  rw [HB];clear HB
  go_enter Tryd.func29, Tryd.ntmps29
  go_upto_region 1 with fail;refine jp ?_;refine jm (.int .i64 z) ?_;refine jv (.bool true) (exec_geq _ _ _ _ (by rfl) .i64 z 0 (by rfl) (by rfl) true (decide_eq_true (by omega))) ?_;refine jm (.bool true) ?_;refine jm (.int .i64 z) ?_;refine jv (.bool true) (exec_leq _ _ _ _ (by rfl) .i64 z 14609 (by rfl) (by rfl) true (decide_eq_true (by omega))) ?_;refine jm (.bool true) ?_;refine jm (.bool true) ?_;refine jz fun X1 hX1 => ?_;have hb : Below w.heap.size w X1 := hX1;clear hX1
  go_wp2
  go_ret
  exact ⟨rfl, hb⟩
theorem rgtC (c : Int) (A : Option Addr) (n cp : Nat) (x : En) (w : World) (hn : n ≤ 9223372036854775807) (hx : tz x.am.2.1 x.am.2.2 1000000) : Calls Tryd.prog 27 #[.agg #[.int .i64 c, .slice A n cp], .agg #[.int .i64 x.day, .int .i64 x.deb, .int .i64 x.cre, .bool x.am.1, .string ⟨x.am.2.1.toArray⟩, .string ⟨x.am.2.2.toArray⟩, .int .i64 x.kd, .int .i64 x.pd, .int .i64 x.rf, .int .i64 x.w1, .int .i64 x.w2, .int .i64 x.w3, .int .i64 x.w4]] w fun e w' => e = .returned (.bool (rgt c n x)) ∧ Since w w' := by
 obtain ⟨day, deb, cre, ⟨g, nn, dd⟩, kd, pd, rf, w1, w2, w3, w4⟩ := x
 dsimp only at hx ⊢
 go_enter Tryd.func27, Tryd.ntmps27
 go_upto_region 1 with fail;obtain ⟨W0, hW0, hB0, hB1, hb⟩ := start2 w 26 36 [.int .i64 c, .slice A n cp] [.int .i64 day, .int .i64 deb, .int .i64 cre, .bool g, .string ⟨nn.toArray⟩, .string ⟨dd.toArray⟩, .int .i64 kd, .int .i64 pd, .int .i64 rf, .int .i64 w1, .int .i64 w2, .int .i64 w3, .int .i64 w4];rw [← hW0];clear hW0;refine lx_plain [none, none, none, none, some (Ks [deb, cre])] (lasts_none (lasts_none (lasts_none (lasts_none (lasts_some (Ks.lasts _) (lasts_nil)))))) ?_;simp only [iX, Nat.reduceAdd];refine jn (.pointer (some ⟨(w.heap.size + 1), 1, none⟩)) ?_;refine jf (.int .i64 deb) hB1 1 load_int ?_;refine jn (.pointer (some ⟨(w.heap.size + 1), 2, none⟩)) ?_;refine jf (.int .i64 cre) hB1 2 load_int ?_;refine lx_new (by rfl) (fun X hX hF => Ks.mk [deb, cre] 2 rfl (by decide) (by unfold execOp; go_simp)) ?_;intro v12;simp only [pX];refine jg (.int .i64 ([deb, cre].length : Int)) (fun X hX hF => by obtain ⟨A9, c9, h9, _⟩ := (hF _ _ List.mem_cons_self rfl); subst h9; exact exec_lenv Tryd.underlying28 _ (by rfl) A9 _ c9 (by rfl) _ rfl X) ?_;refine jm (.int .i64 0) ?_;refine lx_nil ?_;intro X1 hX1 hF;have hv12 := hF _ _ List.mem_cons_self;replace hB0 := hB0.bel hX1;replace hB1 := hB1.bel hX1;have hb := bel_next hb hX1;clear hF hX1;obtain ⟨AK, nk, ck, ek, hlk, _, hrk⟩ := hv12.at;subst ek;obtain rfl : 2 = nk := hlk;clear hv12;obtain ⟨WB, rfl⟩ : ∃ W, W = X1 := ⟨_, rfl⟩
 have HRX : Hid (∀ X, Since WB X → Rd X 1 (.slice AK 2 ck) 2 ([deb, cre].map I64)) := fun X h => hrk.below h
 clear hrk;have hb9 := hb
 have HB0 : Hid (∀ X, Since WB X → Blk X w.heap.size 26 [.int .i64 c, .slice A n cp]) := fun X h => hB0.bel h
 have HB1 : Hid (∀ X, Since WB X → Blk X (w.heap.size + 1) 36 [.int .i64 day, .int .i64 deb, .int .i64 cre, .bool g, .string ⟨nn.toArray⟩, .string ⟨dd.toArray⟩, .int .i64 kd, .int .i64 pd, .int .i64 rf, .int .i64 w1, .int .i64 w2, .int .i64 w3, .int .i64 w4]) := fun X h => hB1.bel h
 clear hB0 hB1 hb;have hb : Below WB.heap.size WB WB := Below.refl _ _
 go_wp2
 go_loopw [14] (fun kv wr => ∃ k : Nat, k ≤ 2 ∧ kv = .int .i64 (k : Int) ∧ Hid (∀ j, j < k → 0 ≤ wt [deb, cre] j ∧ wt [deb, cre] j < c) ∧ Below WB.heap.size WB wr) (fun kv _ => 2 - (intOf kv).toNat)
 case atStart => exact ⟨0, by omega, rfl, (fun j hj => by omega), hb⟩
 case round =>
  clear hb;obtain ⟨k, hk, rfl, HZ, hb⟩ := hrel;have hB0 := HB0.out _ hb;have hB1 := HB1.out _ hb
  rcases Nat.lt_or_ge k 2 with hlt | hlt
  ·obtain ⟨b, off, rfl, hbb, hcx⟩ := wtIn (HRX.out _ hb) rfl hlt
   obtain ⟨z, z9⟩ : ∃ z, z = wt [deb, cre] k := ⟨_, rfl⟩;have HX := Lib.hid z9;clear z9;rw [← HX.out] at hcx;go_upto_region 2 with fail;refine jp ?_;refine jv (.bool true) (exec_lss _ _ _ _ (by rfl) .i64 (k : Int) ((2 : Nat) : Int) (by rfl) (by rfl) true (decide_eq_true (by omega))) ?_;refine jzb hb fun X1 hX1 hb => ?_;replace hB0 := hB0.bel hX1;replace hB1 := hB1.bel hX1;have hcx := hcx.below hX1 hbb;replace hbb := Nat.lt_of_lt_of_le hbb (hX1).size;clear hX1;go_upto_region 3 with fail;refine jp ?_;refine jv (.pointer (some ⟨b, off + k * 1, none⟩)) (exec_ixv Tryd.underlying28 info_i1 _ _ (by rfl) b (off) 2 ck k (by omega) (by rfl) (by rfl) rfl) ?_;refine jg (.int .i64 z) (fun X hX hF => exec_ld 3 _ (by rfl) b (off + k * 1) (by rfl) _ X ((hcx.below hX hbb) 0 _ rfl) (fun X u h => load_int b (off + k * 1) X u h)) ?_;refine jm (.int .i64 z) ?_;refine jzb hb fun X2 hX2 hb => ?_;replace hB0 := hB0.bel hX2;replace hB1 := hB1.bel hX2;have hcx := hcx.below hX2 hbb;replace hbb := Nat.lt_of_lt_of_le hbb (hX2).size;clear hX2
   rcases (show z < 0 ∨ (0 ≤ z ∧ c ≤ z) ∨ (0 ≤ z ∧ z < c) by omega) with hz | hz | hz
   ·go_upto_region 4 with fail
    refine jp ?_;refine jm (.int .i64 z) ?_;refine jv (.bool true) (exec_lss _ _ _ _ (by rfl) .i64 z 0 (by rfl) (by rfl) true (decide_eq_true (by omega))) ?_;refine jm (.bool true) ?_;refine js ?_;refine js ?_;refine js ?_;refine js ?_;refine jm (.bool true) ?_;refine jzb hb fun X3 hX3 hb => ?_;replace hB0 := hB0.bel hX3;replace hB1 := hB1.bel hX3;clear hX3;go_upto_region 5 with fail;refine jp ?_;refine jm (.bool false) ?_;refine jzb hb fun X4 hX4 hb => ?_;replace hB0 := hB0.bel hX4;replace hB1 := hB1.bel hX4;clear hX4;have hb := hb9.trans (hb.mono hb9.size)
    have HC : Hid (rgt c n (⟨day, deb, cre, (g, nn, dd), kd, pd, rf, w1, w2, w3, w4⟩ : En) = false) := rgt_f (fun h => by
     have h8 : k = 0 ∨ k = 1 := by omega
     have h7 := HX.out
     rcases h8 with rfl | rfl
     ·have h6 : z = deb := h7
      have := h.d0;have := h.d1
      dsimp only at *
      omega
     ·have h6 : z = cre := h7
      have := h.c0;have := h.c1
      dsimp only at *
      omega)
    go_wp2
    go_ret
    exact ⟨by rw [HC.out]; rfl, hb⟩
   ·go_upto_region 4 with fail
    refine jp ?_;refine jm (.int .i64 z) ?_;refine jv (.bool false) (exec_lss _ _ _ _ (by rfl) .i64 z 0 (by rfl) (by rfl) false (decide_eq_false (by omega))) ?_;refine jm (.bool false) ?_;refine jm (.int .i64 z) ?_;refine jn (.pointer (some ⟨w.heap.size, 0, none⟩)) ?_;refine jf (.int .i64 c) hB0 0 load_int ?_;refine jv (.bool true) (exec_geq _ _ _ _ (by rfl) .i64 z c (by rfl) (by rfl) true (decide_eq_true (by omega))) ?_;refine jm (.bool true) ?_;refine jzb hb fun X3 hX3 hb => ?_;replace hB0 := hB0.bel hX3;replace hB1 := hB1.bel hX3;clear hX3;go_upto_region 5 with fail;refine jp ?_;refine jm (.bool false) ?_;refine jzb hb fun X4 hX4 hb => ?_;replace hB0 := hB0.bel hX4;replace hB1 := hB1.bel hX4;clear hX4;have hb := hb9.trans (hb.mono hb9.size)
    have HC : Hid (rgt c n (⟨day, deb, cre, (g, nn, dd), kd, pd, rf, w1, w2, w3, w4⟩ : En) = false) := rgt_f (fun h => by
     have h8 : k = 0 ∨ k = 1 := by omega
     have h7 := HX.out
     rcases h8 with rfl | rfl
     ·have h6 : z = deb := h7
      have := h.d0;have := h.d1
      dsimp only at *
      omega
     ·have h6 : z = cre := h7
      have := h.c0;have := h.c1
      dsimp only at *
      omega)
    go_wp2
    go_ret
    exact ⟨by rw [HC.out]; rfl, hb⟩
   ·go_upto_region 4 with fail
    refine jp ?_;refine jm (.int .i64 z) ?_;refine jv (.bool false) (exec_lss _ _ _ _ (by rfl) .i64 z 0 (by rfl) (by rfl) false (decide_eq_false (by omega))) ?_;refine jm (.bool false) ?_;refine jm (.int .i64 z) ?_;refine jn (.pointer (some ⟨w.heap.size, 0, none⟩)) ?_;refine jf (.int .i64 c) hB0 0 load_int ?_;refine jv (.bool false) (exec_geq _ _ _ _ (by rfl) .i64 z c (by rfl) (by rfl) false (decide_eq_false (by omega))) ?_;refine jm (.bool false) ?_;refine jzb hb fun X3 hX3 hb => ?_;replace hB0 := hB0.bel hX3;replace hB1 := hB1.bel hX3;clear hX3;go_upto_region 6 with fail;refine jp ?_;refine jv (.int .i64 ((k + 1 : Nat) : Int)) (exec_add _ _ _ _ (by rfl) (k : Int) 1 ((k + 1 : Nat) : Int) (by rfl) (by rfl) (by omega) (by omega) (by omega)) ?_;refine jm (.int .i64 ((k + 1 : Nat) : Int)) ?_;refine jzb hb fun X4 hX4 hb => ?_;replace hB0 := hB0.bel hX4;replace hB1 := hB1.bel hX4;clear hX4
    have HZ2 : Hid (∀ j, j < k + 1 → 0 ≤ wt [deb, cre] j ∧ wt [deb, cre] j < c) := fun j hj => by
     rcases Nat.lt_or_ge j k with h9 | h9
     ·exact HZ.out j h9
     ·rw [show j = k by omega, ← HX.out]; exact hz
    go_wp2
    go_roundw
    case rel => exact ⟨k + 1, by omega, rfl, HZ2, hb⟩
    case measure => simp [intOf]; omega
  ·have hk2 : k = 2 := by omega
   subst hk2;obtain ⟨hd0, hd1⟩ : 0 ≤ deb ∧ deb < c := HZ.out 0 (by omega);obtain ⟨hc0, hc1⟩ : 0 ≤ cre ∧ cre < c := HZ.out 1 (by omega);have hb := hb9.trans (hb.mono hb9.size);clear HB0 HB1 HRX hb9 HZ;go_upto_region 2 with fail;refine jp ?_;refine jv (.bool false) (exec_lss _ _ _ _ (by rfl) .i64 ((2 : Nat) : Int) ((2 : Nat) : Int) (by rfl) (by rfl) false (decide_eq_false (by omega))) ?_;refine jzb hb fun X1 hX1 hb => ?_;replace hB0 := hB0.bel hX1;replace hB1 := hB1.bel hX1;clear hX1
   rcases (show deb = cre ∨ deb ≠ cre by omega) with hne | hne
   ·go_upto_region 7 with fail
    refine jp ?_;refine jn (.pointer (some ⟨(w.heap.size + 1), 1, none⟩)) ?_;refine jf (.int .i64 deb) hB1 1 load_int ?_;refine jn (.pointer (some ⟨(w.heap.size + 1), 2, none⟩)) ?_;refine jf (.int .i64 cre) hB1 2 load_int ?_;refine jv (.bool true) (exec_eqi _ _ _ _ (by rfl) .i64 deb cre (by rfl) (by rfl) true (decide_eq_true (by omega))) ?_;refine jm (.bool true) ?_;refine js ?_;refine js ?_;refine js ?_;refine js ?_;refine jm (.bool true) ?_;refine jm (.bool true) ?_;refine js ?_;refine js ?_;refine js ?_;refine jm (.bool true) ?_;refine jm (.bool true) ?_;refine js ?_;refine js ?_;refine js ?_;refine js ?_;refine jm (.bool true) ?_;refine jm (.bool true) ?_;refine js ?_;refine js ?_;refine js ?_;refine js ?_;refine jm (.bool true) ?_;refine jzb hb fun X2 hX2 hb => ?_;replace hB0 := hB0.bel hX2;replace hB1 := hB1.bel hX2;clear hX2;go_upto_region 8 with fail;refine jp ?_;refine jm (.bool false) ?_;refine jzb hb fun X3 hX3 hb => ?_;replace hB0 := hB0.bel hX3;replace hB1 := hB1.bel hX3;clear hX3;have HC : Hid (rgt c n (⟨day, deb, cre, (g, nn, dd), kd, pd, rf, w1, w2, w3, w4⟩ : En) = false) := rgt_f (fun h => by exact h.ne hne)
    go_wp2
    go_ret
    exact ⟨by rw [HC.out]; rfl, hb⟩
   ·rcases (show (day < 0 ∨ 14609 < day) ∨ (0 ≤ day ∧ day ≤ 14609) by omega) with hy | hy
    ·have HD : Hid ((decide (0 ≤ day) && decide (day ≤ 14609)) = false) := by
      show _ = _
      rcases hy with h9 | h9
      ·rw [decide_eq_false (show ¬ 0 ≤ day by omega)]; rfl
      ·rw [decide_eq_false (show ¬ day ≤ 14609 by omega), Bool.and_false]
     go_upto_region 7 with fail;refine jp ?_;refine jn (.pointer (some ⟨(w.heap.size + 1), 1, none⟩)) ?_;refine jf (.int .i64 deb) hB1 1 load_int ?_;refine jn (.pointer (some ⟨(w.heap.size + 1), 2, none⟩)) ?_;refine jf (.int .i64 cre) hB1 2 load_int ?_;refine jv (.bool false) (exec_eqi _ _ _ _ (by rfl) .i64 deb cre (by rfl) (by rfl) false (decide_eq_false (by omega))) ?_;refine jm (.bool false) ?_;refine jn (.pointer (some ⟨(w.heap.size + 1), 0, none⟩)) ?_;refine jf (.int .i64 day) hB1 0 load_int ?_;refine jc (.bool false) (fun X hX hF => mo (dayC day X) (by rw [HD.out])) ?_;refine jm (.bool true) ?_;refine jm (.bool true) ?_;refine jm (.bool true) ?_;refine js ?_;refine js ?_;refine js ?_;refine jm (.bool true) ?_;refine jm (.bool true) ?_;refine js ?_;refine js ?_;refine js ?_;refine js ?_;refine jm (.bool true) ?_;refine jm (.bool true) ?_;refine js ?_;refine js ?_;refine js ?_;refine js ?_;refine jm (.bool true) ?_;refine jzb hb fun X2 hX2 hb => ?_;replace hB0 := hB0.bel hX2;replace hB1 := hB1.bel hX2;clear hX2;go_upto_region 8 with fail;refine jp ?_;refine jm (.bool false) ?_;refine jzb hb fun X3 hX3 hb => ?_;replace hB0 := hB0.bel hX3;replace hB1 := hB1.bel hX3;clear hX3;have HC : Hid (rgt c n (⟨day, deb, cre, (g, nn, dd), kd, pd, rf, w1, w2, w3, w4⟩ : En) = false) := rgt_f (fun h => by have := h.y0; have := h.y1; dsimp only at *; omega)
     go_wp2
     go_ret
     exact ⟨by rw [HC.out]; rfl, hb⟩
    ·have HD : Hid ((decide (0 ≤ day) && decide (day ≤ 14609)) = true) := by
      show _ = _
      rw [decide_eq_true hy.1, decide_eq_true hy.2]; rfl
     rcases g with _ | _
     ·obtain hzq | hzq : zam (false, nn, dd) = true ∨ zam (false, nn, dd) = false := by cases zam (false, nn, dd) <;> simp
      ·have HZQ : Hid ((false == false && nn == [] && dd == []) = true) := hzq
       go_upto_region 7 with fail;refine jp ?_;refine jn (.pointer (some ⟨(w.heap.size + 1), 1, none⟩)) ?_;refine jf (.int .i64 deb) hB1 1 load_int ?_;refine jn (.pointer (some ⟨(w.heap.size + 1), 2, none⟩)) ?_;refine jf (.int .i64 cre) hB1 2 load_int ?_;refine jv (.bool false) (exec_eqi _ _ _ _ (by rfl) .i64 deb cre (by rfl) (by rfl) false (decide_eq_false (by omega))) ?_;refine jm (.bool false) ?_;refine jn (.pointer (some ⟨(w.heap.size + 1), 0, none⟩)) ?_;refine jf (.int .i64 day) hB1 0 load_int ?_;refine jc (.bool true) (fun X hX hF => mo (dayC day X) (by rw [HD.out])) ?_;refine jm (.bool false) ?_;refine jm (.bool false) ?_;refine jm (.bool false) ?_;refine jn (.pointer (some ⟨(w.heap.size + 1), 3, none⟩)) ?_;refine jn (.pointer (some ⟨(w.heap.size + 1), 3, none⟩)) ?_;refine jf (.bool false) hB1 3 load_bool ?_;refine jm (.bool false) ?_;refine jm (.bool false) ?_;refine jn (.pointer (some ⟨(w.heap.size + 1), 3, none⟩)) ?_;refine jg (rt false nn dd) (fun X hX hF => exec_inr 30 _ (by rfl) (w.heap.size + 1) 3 [.bool false, .string ⟨nn.toArray⟩, .string ⟨dd.toArray⟩] (by rfl) Tryd.underlying30 rfl X (hB1.bel hX) (by rfl) info_rat) ?_;refine jn (rz) ?_;refine jv (.bool true) (exec_eqr _ _ (by rfl) false nn dd false [] [] (by rfl) (by rfl) true HZQ.out) ?_;refine jm (.bool true) ?_;refine jm (.bool true) ?_;refine js ?_;refine js ?_;refine js ?_;refine js ?_;refine jm (.bool true) ?_;refine jzb hb fun X2 hX2 hb => ?_;replace hB0 := hB0.bel hX2;replace hB1 := hB1.bel hX2;clear hX2
       go_upto_region 8 with fail;refine jp ?_;refine jm (.bool false) ?_;refine jzb hb fun X3 hX3 hb => ?_;replace hB0 := hB0.bel hX3;replace hB1 := hB1.bel hX3;clear hX3;have HC : Hid (rgt c n (⟨day, deb, cre, (false, nn, dd), kd, pd, rf, w1, w2, w3, w4⟩ : En) = false) := rgt_f (fun h => by have := h.nz; rw [hzq] at this; cases this)
       go_wp2
       go_ret
       exact ⟨by rw [HC.out]; rfl, hb⟩
      ·have HZQ : Hid ((false == false && nn == [] && dd == []) = false) := hzq
       obtain ⟨vv, hvv⟩ : ∃ vv, vd false nn dd = vv := ⟨_, rfl⟩;have HV := Lib.hid hvv;clear hvv
       rcases vv with _ | _
       ·go_upto_region 7 with fail
        refine jp ?_;refine jn (.pointer (some ⟨(w.heap.size + 1), 1, none⟩)) ?_;refine jf (.int .i64 deb) hB1 1 load_int ?_;refine jn (.pointer (some ⟨(w.heap.size + 1), 2, none⟩)) ?_;refine jf (.int .i64 cre) hB1 2 load_int ?_;refine jv (.bool false) (exec_eqi _ _ _ _ (by rfl) .i64 deb cre (by rfl) (by rfl) false (decide_eq_false (by omega))) ?_;refine jm (.bool false) ?_;refine jn (.pointer (some ⟨(w.heap.size + 1), 0, none⟩)) ?_;refine jf (.int .i64 day) hB1 0 load_int ?_;refine jc (.bool true) (fun X hX hF => mo (dayC day X) (by rw [HD.out])) ?_;refine jm (.bool false) ?_;refine jm (.bool false) ?_;refine jm (.bool false) ?_;refine jn (.pointer (some ⟨(w.heap.size + 1), 3, none⟩)) ?_;refine jn (.pointer (some ⟨(w.heap.size + 1), 3, none⟩)) ?_;refine jf (.bool false) hB1 3 load_bool ?_;refine jm (.bool false) ?_;refine jm (.bool false) ?_;refine jn (.pointer (some ⟨(w.heap.size + 1), 3, none⟩)) ?_;refine jg (rt false nn dd) (fun X hX hF => exec_inr 30 _ (by rfl) (w.heap.size + 1) 3 [.bool false, .string ⟨nn.toArray⟩, .string ⟨dd.toArray⟩] (by rfl) Tryd.underlying30 rfl X (hB1.bel hX) (by rfl) info_rat) ?_;refine jn (rz) ?_;refine jv (.bool false) (exec_eqr _ _ (by rfl) false nn dd false [] [] (by rfl) (by rfl) false HZQ.out) ?_;refine jm (.bool false) ?_;refine jm (.bool false) ?_;refine jn (.pointer (some ⟨(w.heap.size + 1), 3, none⟩)) ?_;refine jg (rt false nn dd) (fun X hX hF => exec_inr 30 _ (by rfl) (w.heap.size + 1) 3 [.bool false, .string ⟨nn.toArray⟩, .string ⟨dd.toArray⟩] (by rfl) Tryd.underlying30 rfl X (hB1.bel hX) (by rfl) info_rat) ?_
        refine jc (.bool false) (fun X hX hF => mo (validG false nn dd X hx) (by rw [HV.out])) ?_;refine jm (.bool true) ?_;refine jm (.bool true) ?_;refine jzb hb fun X2 hX2 hb => ?_;replace hB0 := hB0.bel hX2;replace hB1 := hB1.bel hX2;clear hX2;go_upto_region 8 with fail;refine jp ?_;refine jm (.bool false) ?_;refine jzb hb fun X3 hX3 hb => ?_;replace hB0 := hB0.bel hX3;replace hB1 := hB1.bel hX3;clear hX3;have HC : Hid (rgt c n (⟨day, deb, cre, (false, nn, dd), kd, pd, rf, w1, w2, w3, w4⟩ : En) = false) := rgt_f (fun h => by have := h.vl; dsimp only at *; rw [HV.out] at this; cases this)
        go_wp2
        go_ret
        exact ⟨by rw [HC.out]; rfl, hb⟩
       ·go_upto_region 7 with fail
        refine jp ?_;refine jn (.pointer (some ⟨(w.heap.size + 1), 1, none⟩)) ?_;refine jf (.int .i64 deb) hB1 1 load_int ?_;refine jn (.pointer (some ⟨(w.heap.size + 1), 2, none⟩)) ?_;refine jf (.int .i64 cre) hB1 2 load_int ?_;refine jv (.bool false) (exec_eqi _ _ _ _ (by rfl) .i64 deb cre (by rfl) (by rfl) false (decide_eq_false (by omega))) ?_;refine jm (.bool false) ?_;refine jn (.pointer (some ⟨(w.heap.size + 1), 0, none⟩)) ?_;refine jf (.int .i64 day) hB1 0 load_int ?_;refine jc (.bool true) (fun X hX hF => mo (dayC day X) (by rw [HD.out])) ?_;refine jm (.bool false) ?_;refine jm (.bool false) ?_;refine jm (.bool false) ?_;refine jn (.pointer (some ⟨(w.heap.size + 1), 3, none⟩)) ?_;refine jn (.pointer (some ⟨(w.heap.size + 1), 3, none⟩)) ?_;refine jf (.bool false) hB1 3 load_bool ?_;refine jm (.bool false) ?_;refine jm (.bool false) ?_;refine jn (.pointer (some ⟨(w.heap.size + 1), 3, none⟩)) ?_;refine jg (rt false nn dd) (fun X hX hF => exec_inr 30 _ (by rfl) (w.heap.size + 1) 3 [.bool false, .string ⟨nn.toArray⟩, .string ⟨dd.toArray⟩] (by rfl) Tryd.underlying30 rfl X (hB1.bel hX) (by rfl) info_rat) ?_;refine jn (rz) ?_;refine jv (.bool false) (exec_eqr _ _ (by rfl) false nn dd false [] [] (by rfl) (by rfl) false HZQ.out) ?_;refine jm (.bool false) ?_;refine jm (.bool false) ?_;refine jn (.pointer (some ⟨(w.heap.size + 1), 3, none⟩)) ?_;refine jg (rt false nn dd) (fun X hX hF => exec_inr 30 _ (by rfl) (w.heap.size + 1) 3 [.bool false, .string ⟨nn.toArray⟩, .string ⟨dd.toArray⟩] (by rfl) Tryd.underlying30 rfl X (hB1.bel hX) (by rfl) info_rat) ?_
        refine jc (.bool true) (fun X hX hF => mo (validG false nn dd X hx) (by rw [HV.out])) ?_;refine jm (.bool false) ?_;refine jm (.bool false) ?_;refine jzb hb fun X2 hX2 hb => ?_;replace hB0 := hB0.bel hX2;replace hB1 := hB1.bel hX2;clear hX2;go_upto_region 9 with fail;refine jq 2 ?_;refine jn (.pointer (some ⟨(w.heap.size + 1), 6, none⟩)) ?_;refine jg (.agg #[.int .i64 kd, .int .i64 pd, .int .i64 rf, .int .i64 w1, .int .i64 w2, .int .i64 w3, .int .i64 w4]) (fun X hX hF => exec_inr 34 _ (by rfl) (w.heap.size + 1) 6 [.int .i64 kd, .int .i64 pd, .int .i64 rf, .int .i64 w1, .int .i64 w2, .int .i64 w3, .int .i64 w4] (by rfl) Tryd.underlying34 rfl X (hB1.bel hX) (by rfl) info_cs) ?_;refine jzb hb fun X3 hX3 hb => ?_;replace hB0 := hB0.bel hX3;replace hB1 := hB1.bel hX3;clear hX3;go_upto_region 10 with (refine osn 34 7 56 #[.int .i64 kd, .int .i64 pd, .int .i64 rf, .int .i64 w1, .int .i64 w2, .int .i64 w3, .int .i64 w4] info_cs ?_);obtain ⟨Y3, hY9, hD7, hS9⟩ := start1 X3 34 [.int .i64 kd, .int .i64 pd, .int .i64 rf, .int .i64 w1, .int .i64 w2, .int .i64 w3, .int .i64 w4];rw [← hY9];clear hY9;have hgs7 := hb.size;have hlt7x0 := hB0.lt;have hlt7x1 := hB1.lt;have hB0 := hB0.bel hS9;have hB1 := hB1.bel hS9;have hb := bel_next hb hS9;clear hS9;generalize X3.heap.size = g7 at *
        rcases (show kd < 1 ∨ (1 ≤ kd ∧ 5 < kd) ∨ (1 ≤ kd ∧ kd ≤ 5 ∧ pd < 0) ∨ (1 ≤ kd ∧ kd ≤ 5 ∧ 0 ≤ pd ∧ 4000 < pd) ∨ (1 ≤ kd ∧ kd ≤ 5 ∧ 0 ≤ pd ∧ pd ≤ 4000) by omega) with hkp | hkp | hkp | hkp | hkp
        ·go_upto_region 10 with fail
         refine jp ?_;refine jn (.pointer (some ⟨g7, 0, none⟩)) ?_;refine jf (.int .i64 kd) hD7 0 load_int ?_;refine jv (.bool true) (exec_lss _ _ _ _ (by rfl) .i64 kd 1 (by rfl) (by rfl) true (decide_eq_true (by omega))) ?_;refine jm (.bool true) ?_;refine js ?_;refine js ?_;refine js ?_;refine jm (.bool true) ?_;refine jm (.bool true) ?_;refine js ?_;refine js ?_;refine js ?_;refine jm (.bool true) ?_;refine jm (.bool true) ?_;refine js ?_;refine js ?_;refine js ?_;refine jm (.bool true) ?_;refine jzb hb fun X4 hX4 hb => ?_;replace hB0 := hB0.bel hX4;replace hB1 := hB1.bel hX4;replace hD7 := hD7.bel hX4;clear hX4;go_upto_region 11 with fail;refine jp ?_;refine jm (.bool false) ?_;refine jzb hb fun X5 hX5 hb => ?_;replace hB0 := hB0.bel hX5;replace hB1 := hB1.bel hX5;replace hD7 := hD7.bel hX5;clear hX5;have HC : Hid (rgt c n (⟨day, deb, cre, (false, nn, dd), kd, pd, rf, w1, w2, w3, w4⟩ : En) = false) := rgt_f (fun h => by have := h.k1; have := h.k5; have := h.p0; have := h.p4; dsimp only at *; omega)
         go_wp2
         go_ret
         exact ⟨by rw [HC.out]; rfl, hb⟩
        ·go_upto_region 10 with fail
         refine jp ?_;refine jn (.pointer (some ⟨g7, 0, none⟩)) ?_;refine jf (.int .i64 kd) hD7 0 load_int ?_;refine jv (.bool false) (exec_lss _ _ _ _ (by rfl) .i64 kd 1 (by rfl) (by rfl) false (decide_eq_false (by omega))) ?_;refine jm (.bool false) ?_;refine jn (.pointer (some ⟨g7, 0, none⟩)) ?_;refine jf (.int .i64 kd) hD7 0 load_int ?_;refine jv (.bool true) (exec_gtr _ _ _ _ (by rfl) .i64 kd 5 (by rfl) (by rfl) true (decide_eq_true (by omega))) ?_;refine jm (.bool true) ?_;refine jm (.bool true) ?_;refine js ?_;refine js ?_;refine js ?_;refine jm (.bool true) ?_;refine jm (.bool true) ?_;refine js ?_;refine js ?_;refine js ?_;refine jm (.bool true) ?_;refine jzb hb fun X4 hX4 hb => ?_;replace hB0 := hB0.bel hX4;replace hB1 := hB1.bel hX4;replace hD7 := hD7.bel hX4;clear hX4;go_upto_region 11 with fail;refine jp ?_;refine jm (.bool false) ?_;refine jzb hb fun X5 hX5 hb => ?_;replace hB0 := hB0.bel hX5;replace hB1 := hB1.bel hX5;replace hD7 := hD7.bel hX5;clear hX5;have HC : Hid (rgt c n (⟨day, deb, cre, (false, nn, dd), kd, pd, rf, w1, w2, w3, w4⟩ : En) = false) := rgt_f (fun h => by have := h.k1; have := h.k5; have := h.p0; have := h.p4; dsimp only at *; omega)
         go_wp2
         go_ret
         exact ⟨by rw [HC.out]; rfl, hb⟩
        ·go_upto_region 10 with fail
         refine jp ?_;refine jn (.pointer (some ⟨g7, 0, none⟩)) ?_;refine jf (.int .i64 kd) hD7 0 load_int ?_;refine jv (.bool false) (exec_lss _ _ _ _ (by rfl) .i64 kd 1 (by rfl) (by rfl) false (decide_eq_false (by omega))) ?_;refine jm (.bool false) ?_;refine jn (.pointer (some ⟨g7, 0, none⟩)) ?_;refine jf (.int .i64 kd) hD7 0 load_int ?_;refine jv (.bool false) (exec_gtr _ _ _ _ (by rfl) .i64 kd 5 (by rfl) (by rfl) false (decide_eq_false (by omega))) ?_;refine jm (.bool false) ?_;refine jm (.bool false) ?_;refine jn (.pointer (some ⟨g7, 1, none⟩)) ?_;refine jf (.int .i64 pd) hD7 1 load_int ?_;refine jv (.bool true) (exec_lss _ _ _ _ (by rfl) .i64 pd 0 (by rfl) (by rfl) true (decide_eq_true (by omega))) ?_;refine jm (.bool true) ?_;refine jm (.bool true) ?_;refine js ?_;refine js ?_;refine js ?_;refine jm (.bool true) ?_;refine jzb hb fun X4 hX4 hb => ?_;replace hB0 := hB0.bel hX4;replace hB1 := hB1.bel hX4;replace hD7 := hD7.bel hX4;clear hX4;go_upto_region 11 with fail;refine jp ?_;refine jm (.bool false) ?_;refine jzb hb fun X5 hX5 hb => ?_;replace hB0 := hB0.bel hX5;replace hB1 := hB1.bel hX5;replace hD7 := hD7.bel hX5;clear hX5;have HC : Hid (rgt c n (⟨day, deb, cre, (false, nn, dd), kd, pd, rf, w1, w2, w3, w4⟩ : En) = false) := rgt_f (fun h => by have := h.k1; have := h.k5; have := h.p0; have := h.p4; dsimp only at *; omega)
         go_wp2
         go_ret
         exact ⟨by rw [HC.out]; rfl, hb⟩
        ·go_upto_region 10 with fail
         refine jp ?_;refine jn (.pointer (some ⟨g7, 0, none⟩)) ?_;refine jf (.int .i64 kd) hD7 0 load_int ?_;refine jv (.bool false) (exec_lss _ _ _ _ (by rfl) .i64 kd 1 (by rfl) (by rfl) false (decide_eq_false (by omega))) ?_;refine jm (.bool false) ?_;refine jn (.pointer (some ⟨g7, 0, none⟩)) ?_;refine jf (.int .i64 kd) hD7 0 load_int ?_;refine jv (.bool false) (exec_gtr _ _ _ _ (by rfl) .i64 kd 5 (by rfl) (by rfl) false (decide_eq_false (by omega))) ?_;refine jm (.bool false) ?_;refine jm (.bool false) ?_;refine jn (.pointer (some ⟨g7, 1, none⟩)) ?_;refine jf (.int .i64 pd) hD7 1 load_int ?_;refine jv (.bool false) (exec_lss _ _ _ _ (by rfl) .i64 pd 0 (by rfl) (by rfl) false (decide_eq_false (by omega))) ?_;refine jm (.bool false) ?_;refine jm (.bool false) ?_;refine jn (.pointer (some ⟨g7, 1, none⟩)) ?_;refine jf (.int .i64 pd) hD7 1 load_int ?_;refine jv (.bool true) (exec_gtr _ _ _ _ (by rfl) .i64 pd 4000 (by rfl) (by rfl) true (decide_eq_true (by omega))) ?_;refine jm (.bool true) ?_;refine jzb hb fun X4 hX4 hb => ?_;replace hB0 := hB0.bel hX4;replace hB1 := hB1.bel hX4;replace hD7 := hD7.bel hX4;clear hX4;go_upto_region 11 with fail;refine jp ?_;refine jm (.bool false) ?_;refine jzb hb fun X5 hX5 hb => ?_;replace hB0 := hB0.bel hX5;replace hB1 := hB1.bel hX5;replace hD7 := hD7.bel hX5;clear hX5;have HC : Hid (rgt c n (⟨day, deb, cre, (false, nn, dd), kd, pd, rf, w1, w2, w3, w4⟩ : En) = false) := rgt_f (fun h => by have := h.k1; have := h.k5; have := h.p0; have := h.p4; dsimp only at *; omega)
         go_wp2
         go_ret
         exact ⟨by rw [HC.out]; rfl, hb⟩
        ·go_upto_region 10 with fail
         refine jp ?_;refine jn (.pointer (some ⟨g7, 0, none⟩)) ?_;refine jf (.int .i64 kd) hD7 0 load_int ?_;refine jv (.bool false) (exec_lss _ _ _ _ (by rfl) .i64 kd 1 (by rfl) (by rfl) false (decide_eq_false (by omega))) ?_;refine jm (.bool false) ?_;refine jn (.pointer (some ⟨g7, 0, none⟩)) ?_;refine jf (.int .i64 kd) hD7 0 load_int ?_;refine jv (.bool false) (exec_gtr _ _ _ _ (by rfl) .i64 kd 5 (by rfl) (by rfl) false (decide_eq_false (by omega))) ?_;refine jm (.bool false) ?_;refine jm (.bool false) ?_;refine jn (.pointer (some ⟨g7, 1, none⟩)) ?_;refine jf (.int .i64 pd) hD7 1 load_int ?_;refine jv (.bool false) (exec_lss _ _ _ _ (by rfl) .i64 pd 0 (by rfl) (by rfl) false (decide_eq_false (by omega))) ?_;refine jm (.bool false) ?_;refine jm (.bool false) ?_;refine jn (.pointer (some ⟨g7, 1, none⟩)) ?_;refine jf (.int .i64 pd) hD7 1 load_int ?_;refine jv (.bool false) (exec_gtr _ _ _ _ (by rfl) .i64 pd 4000 (by rfl) (by rfl) false (decide_eq_false (by omega))) ?_;refine jm (.bool false) ?_;refine jzb hb fun X4 hX4 hb => ?_;replace hB0 := hB0.bel hX4;replace hB1 := hB1.bel hX4;replace hD7 := hD7.bel hX4;clear hX4
         rcases (show kd = 4 ∨ kd ≠ 4 by omega) with h4 | h4
         ·go_upto_region 12 with fail
          refine jp ?_;refine jn (.pointer (some ⟨g7, 0, none⟩)) ?_;refine jf (.int .i64 kd) hD7 0 load_int ?_;refine jv (.bool true) (exec_eqi _ _ _ _ (by rfl) .i64 kd 4 (by rfl) (by rfl) true (decide_eq_true (by omega))) ?_;refine jzb hb fun X5 hX5 hb => ?_;replace hB0 := hB0.bel hX5;replace hB1 := hB1.bel hX5;replace hD7 := hD7.bel hX5;clear hX5
          rcases (show rf < 0 ∨ (0 ≤ rf ∧ (n : Int) ≤ rf) ∨ (0 ≤ rf ∧ rf < (n : Int)) by omega) with hr | hr | hr
          ·go_upto_region 13 with fail
           refine jp ?_;refine jn (.pointer (some ⟨g7, 2, none⟩)) ?_;refine jf (.int .i64 rf) hD7 2 load_int ?_;refine jv (.bool false) (exec_geq _ _ _ _ (by rfl) .i64 rf 0 (by rfl) (by rfl) false (decide_eq_false (by omega))) ?_;refine jm (.bool false) ?_;refine js ?_;refine js ?_;refine js ?_;refine js ?_;refine js ?_;refine js ?_;refine jm (.bool false) ?_;refine jm (.bool false) ?_;refine jzb hb fun X6 hX6 hb => ?_;replace hB0 := hB0.bel hX6;replace hB1 := hB1.bel hX6;replace hD7 := hD7.bel hX6;clear hX6;have HC : Hid (rgt c n (⟨day, deb, cre, (false, nn, dd), kd, pd, rf, w1, w2, w3, w4⟩ : En) = false) := rgt_f (fun h => by have h9 := h.rf; rw [if_pos (by exact h4)] at h9; dsimp only at h9; omega)
           go_wp2
           go_ret
           exact ⟨by rw [HC.out]; rfl, hb⟩
          ·go_upto_region 13 with fail
           refine jp ?_;refine jn (.pointer (some ⟨g7, 2, none⟩)) ?_;refine jf (.int .i64 rf) hD7 2 load_int ?_;refine jv (.bool true) (exec_geq _ _ _ _ (by rfl) .i64 rf 0 (by rfl) (by rfl) true (decide_eq_true (by omega))) ?_;refine jm (.bool true) ?_;refine jn (.pointer (some ⟨g7, 2, none⟩)) ?_;refine jf (.int .i64 rf) hD7 2 load_int ?_;refine jn (.pointer (some ⟨w.heap.size, 1, none⟩)) ?_;refine jf (.slice A n cp) hB0 1 load_ens ?_;refine jv (.int .i64 (n : Int)) (exec_lenv Tryd.underlying22 _ (by rfl) A n cp (by rfl) _ rfl) ?_;refine jv (.bool false) (exec_lss _ _ _ _ (by rfl) .i64 rf (n : Int) (by rfl) (by rfl) false (decide_eq_false (by omega))) ?_;refine jm (.bool false) ?_;refine jm (.bool false) ?_;refine jzb hb fun X6 hX6 hb => ?_;replace hB0 := hB0.bel hX6;replace hB1 := hB1.bel hX6;replace hD7 := hD7.bel hX6;clear hX6;have HC : Hid (rgt c n (⟨day, deb, cre, (false, nn, dd), kd, pd, rf, w1, w2, w3, w4⟩ : En) = false) := rgt_f (fun h => by have h9 := h.rf; rw [if_pos (by exact h4)] at h9; dsimp only at h9; omega)
           go_wp2
           go_ret
           exact ⟨by rw [HC.out]; rfl, hb⟩
          ·go_upto_region 13 with fail
           refine jp ?_;refine jn (.pointer (some ⟨g7, 2, none⟩)) ?_;refine jf (.int .i64 rf) hD7 2 load_int ?_;refine jv (.bool true) (exec_geq _ _ _ _ (by rfl) .i64 rf 0 (by rfl) (by rfl) true (decide_eq_true (by omega))) ?_;refine jm (.bool true) ?_;refine jn (.pointer (some ⟨g7, 2, none⟩)) ?_;refine jf (.int .i64 rf) hD7 2 load_int ?_;refine jn (.pointer (some ⟨w.heap.size, 1, none⟩)) ?_;refine jf (.slice A n cp) hB0 1 load_ens ?_;refine jv (.int .i64 (n : Int)) (exec_lenv Tryd.underlying22 _ (by rfl) A n cp (by rfl) _ rfl) ?_;refine jv (.bool true) (exec_lss _ _ _ _ (by rfl) .i64 rf (n : Int) (by rfl) (by rfl) true (decide_eq_true (by omega))) ?_;refine jm (.bool true) ?_;refine jm (.bool true) ?_;refine jzb hb fun X6 hX6 hb => ?_;replace hB0 := hB0.bel hX6;replace hB1 := hB1.bel hX6;replace hD7 := hD7.bel hX6;clear hX6;have HC : Hid (rgt c n (⟨day, deb, cre, (false, nn, dd), kd, pd, rf, w1, w2, w3, w4⟩ : En) = true) := rgt_t.2 ⟨hd0, hd1, hc0, hc1, hne, hy.1, hy.2, rfl, hzq, HV.out, hkp.1, hkp.2.1, hkp.2.2.1, hkp.2.2.2, (by rw [if_pos (by exact h4)]; exact hr)⟩
           go_wp2
           go_ret
           exact ⟨by rw [HC.out]; rfl, hb⟩
         ·go_upto_region 12 with fail
          refine jp ?_;refine jn (.pointer (some ⟨g7, 0, none⟩)) ?_;refine jf (.int .i64 kd) hD7 0 load_int ?_;refine jv (.bool false) (exec_eqi _ _ _ _ (by rfl) .i64 kd 4 (by rfl) (by rfl) false (decide_eq_false (by omega))) ?_;refine jzb hb fun X5 hX5 hb => ?_;replace hB0 := hB0.bel hX5;replace hB1 := hB1.bel hX5;replace hD7 := hD7.bel hX5;clear hX5
          rcases (show rf = -1 ∨ rf ≠ -1 by omega) with hr | hr
          ·go_upto_region 14 with fail
           refine jp ?_;refine jn (.pointer (some ⟨g7, 2, none⟩)) ?_;refine jf (.int .i64 rf) hD7 2 load_int ?_;refine jv (.bool true) (exec_eqi _ _ _ _ (by rfl) .i64 rf (-1) (by rfl) (by rfl) true (decide_eq_true (by omega))) ?_;refine jm (.bool true) ?_;refine jzb hb fun X6 hX6 hb => ?_;replace hB0 := hB0.bel hX6;replace hB1 := hB1.bel hX6;replace hD7 := hD7.bel hX6;clear hX6;have HC : Hid (rgt c n (⟨day, deb, cre, (false, nn, dd), kd, pd, rf, w1, w2, w3, w4⟩ : En) = true) := rgt_t.2 ⟨hd0, hd1, hc0, hc1, hne, hy.1, hy.2, rfl, hzq, HV.out, hkp.1, hkp.2.1, hkp.2.2.1, hkp.2.2.2, (by rw [if_neg (by exact h4)]; exact hr)⟩
           go_wp2
           go_ret
           exact ⟨by rw [HC.out]; rfl, hb⟩
          ·go_upto_region 14 with fail
           refine jp ?_;refine jn (.pointer (some ⟨g7, 2, none⟩)) ?_;refine jf (.int .i64 rf) hD7 2 load_int ?_;refine jv (.bool false) (exec_eqi _ _ _ _ (by rfl) .i64 rf (-1) (by rfl) (by rfl) false (decide_eq_false (by omega))) ?_;refine jm (.bool false) ?_;refine jzb hb fun X6 hX6 hb => ?_;replace hB0 := hB0.bel hX6;replace hB1 := hB1.bel hX6;replace hD7 := hD7.bel hX6;clear hX6;have HC : Hid (rgt c n (⟨day, deb, cre, (false, nn, dd), kd, pd, rf, w1, w2, w3, w4⟩ : En) = false) := rgt_f (fun h => by have h9 := h.rf; rw [if_neg (by exact h4)] at h9; dsimp only at h9; exact hr h9)
           go_wp2
           go_ret
           exact ⟨by rw [HC.out]; rfl, hb⟩
     ·go_upto_region 7 with fail
      refine jp ?_;refine jn (.pointer (some ⟨(w.heap.size + 1), 1, none⟩)) ?_;refine jf (.int .i64 deb) hB1 1 load_int ?_;refine jn (.pointer (some ⟨(w.heap.size + 1), 2, none⟩)) ?_;refine jf (.int .i64 cre) hB1 2 load_int ?_;refine jv (.bool false) (exec_eqi _ _ _ _ (by rfl) .i64 deb cre (by rfl) (by rfl) false (decide_eq_false (by omega))) ?_;refine jm (.bool false) ?_;refine jn (.pointer (some ⟨(w.heap.size + 1), 0, none⟩)) ?_;refine jf (.int .i64 day) hB1 0 load_int ?_;refine jc (.bool true) (fun X hX hF => mo (dayC day X) (by rw [HD.out])) ?_;refine jm (.bool false) ?_;refine jm (.bool false) ?_;refine jm (.bool false) ?_;refine jn (.pointer (some ⟨(w.heap.size + 1), 3, none⟩)) ?_;refine jn (.pointer (some ⟨(w.heap.size + 1), 3, none⟩)) ?_;refine jf (.bool true) hB1 3 load_bool ?_;refine jm (.bool true) ?_;refine jm (.bool true) ?_;refine js ?_;refine js ?_;refine js ?_;refine js ?_;refine jm (.bool true) ?_;refine jm (.bool true) ?_;refine js ?_;refine js ?_;refine js ?_;refine js ?_;refine jm (.bool true) ?_;refine jzb hb fun X2 hX2 hb => ?_;replace hB0 := hB0.bel hX2;replace hB1 := hB1.bel hX2;clear hX2;go_upto_region 8 with fail;refine jp ?_;refine jm (.bool false) ?_;refine jzb hb fun X3 hX3 hb => ?_;replace hB0 := hB0.bel hX3;replace hB1 := hB1.bel hX3;clear hX3;have HC : Hid (rgt c n (⟨day, deb, cre, (true, nn, dd), kd, pd, rf, w1, w2, w3, w4⟩ : En) = false) := rgt_f (fun h => by have := h.ng; dsimp only at *; cases this)
      go_wp2
      go_ret
      exact ⟨by rw [HC.out]; rfl, hb⟩
end Go.Proofs.YtffgfkcljcollaaDoor
