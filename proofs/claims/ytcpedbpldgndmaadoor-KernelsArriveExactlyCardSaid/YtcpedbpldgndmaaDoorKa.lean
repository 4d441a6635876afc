/-
  kernel: divisor, total, Check, Total.
-/
import Derived.Test.YtcpedbpldgndmaaDoorKw
set_option linter.unusedSimpArgs false
set_option linter.unusedVariables false
set_option maxRecDepth 100000
set_option maxHeartbeats 1600000
namespace Go.Proofs.YtcpedbpldgndmaaDoor
open Go.RowKit
theorem dvC (a b : Nat) (w : World) (ha : a ≤ 9223372036854775807) (hb1 : b ≤ 9223372036854775807) : Calls Tryd.prog 48 #[.int .i64 (a : Int), .int .i64 (b : Int)] w fun e w' => e = .returned (.int .i64 ((Nat.gcd a b : Nat) : Int)) ∧ Since w w' := by
 go_enter Tryd.func48, Tryd.ntmps48
 have hb : Below w.heap.size w w := Below.refl _ _
 go_wp2
 go_loopw [0, 1] (fun xv yv wr => ∃ x y : Nat, xv = .int .i64 (x : Int) ∧ yv = .int .i64 (y : Int) ∧ x ≤ 9223372036854775807 ∧ y ≤ 9223372036854775807 ∧ Hid (Nat.gcd x y = Nat.gcd a b) ∧ Below w.heap.size w wr) (fun _ yv _ => (intOf yv).toNat)
 case atStart => exact ⟨a, b, rfl, rfl, ha, hb1, rfl, hb⟩
 case round =>
  clear hb;obtain ⟨x, y, rfl, rfl, hx, hy, HG, hb⟩ := hrel
  rcases Nat.eq_zero_or_pos y with hy0 | hy0
  ·subst hy0
   have HK : Hid (x = Nat.gcd a b) := by
    show _ = _
    rw [← HG.out, Nat.gcd_zero_right]
   clear HG;go_upto_region 1 with fail;refine jp ?_;refine jm (.int .i64 ((0 : Nat) : Int)) ?_;refine jv (.bool false) (exec_nei _ _ _ _ (by rfl) .i64 ((0 : Nat) : Int) 0 (by rfl) (by rfl) false (by rw [decide_eq_true (by omega)]; rfl)) ?_;refine jzb hb fun X1 _ hb => ?_;go_upto_region 3 with fail;refine jp ?_;refine jm (.int .i64 (x : Int)) ?_;refine jm (.int .i64 (x : Int)) ?_;refine jzb hb fun X2 _ hb => ?_
   go_wp2
   go_ret
   exact ⟨by rw [← HK.out]; rfl, hb⟩
  ·have HK : Hid (Nat.gcd y (x % y) = Nat.gcd a b) := by
    show _ = _
    rw [← HG.out, Nat.gcd_comm x y, Nat.gcd_rec y x, Nat.gcd_comm]
   have hlt : x % y < y := Nat.mod_lt _ hy0;obtain ⟨z, hz⟩ : ∃ z, z = x % y := ⟨_, rfl⟩
   have hzi : (x : Int) % (y : Int) = (z : Int) := by rw [hz]; exact (Int.natCast_emod x y).symm
   rw [← hz] at HK hlt;clear hz;go_upto_region 1 with fail;refine jp ?_;refine jm (.int .i64 (y : Int)) ?_;refine jv (.bool true) (exec_nei _ _ _ _ (by rfl) .i64 (y : Int) 0 (by rfl) (by rfl) true (by rw [decide_eq_false (by omega)]; rfl)) ?_;refine jzb hb fun X1 _ hb => ?_;go_upto_region 2 with fail;refine jd ?_;refine jm (.int .i64 (y : Int)) ?_;refine jm (.int .i64 (x : Int)) ?_;refine jm (.int .i64 (y : Int)) ?_;refine jv (.int .i64 (z : Int)) (exec_rem _ _ _ _ (by rfl) .i64 (x : Int) (y : Int) (z : Int) (by rfl) (by rfl) (by omega) (by omega) hzi) ?_;refine jm (.int .i64 (y : Int)) ?_;refine jm (.int .i64 (z : Int)) ?_;refine jzb hb fun X2 _ hb => ?_
   go_wp2
   go_roundw
   case rel => exact ⟨y, z, rfl, rfl, hy, by omega, HK, hb⟩
   case measure => simp [intOf]; omega
theorem totC (v : Value) (l : List Int) (w : World) (hv : Ks l v w) (hl : l.length ≤ 400) (hok : ∀ k, k < l.length → okk l k) : Calls Tryd.prog 27 #[.agg #[v]] w fun e w' => e = .returned (.int .i64 (tot l)) ∧ Since w w' := by
 obtain ⟨A, n, c, rfl, hln, hn1, hr⟩ := hv.at;clear hv
 have HRX : Hid (∀ X, Since w X → Rd X 1 (.slice A n c) n (l.map I64)) := fun X h => hr.below h
 have HLN := Lib.hid hln;have HOK := Lib.hid hok;clear hok;clear hr
 go_enter Tryd.func27, Tryd.ntmps27
 go_upto_region 1 with fail;obtain ⟨W0, hW0, hB0, hb⟩ := start1 w 24 [.slice A n c];rw [← hW0];clear hW0;refine jp ?_;refine jm (.int .i64 0) ?_;refine jzb hb fun X1 hX1 hb => ?_;replace hB0 := hB0.bel hX1;clear hX1;go_upto_region 2 with fail;refine jp ?_;refine jn (.pointer (some ⟨w.heap.size, 0, none⟩)) ?_;refine jf (.slice A n c) hB0 0 load_ints ?_;refine jv (.int .i64 (n : Int)) (exec_lenv Tryd.underlying22 _ (by rfl) A n c (by rfl) _ rfl) ?_;refine jm (.int .i64 0) ?_;refine jzb hb fun X2 hX2 hb => ?_;replace hB0 := hB0.bel hX2;clear hX2
 have hn4 : n ≤ 400 := by rw [← HLN.out]; exact hl
 go_wp2
 go_loopw [3, 9] (fun sv kv wr => ∃ (k : Nat) (s : Int), k ≤ n ∧ sv = .int .i64 s ∧ kv = .int .i64 (k : Int) ∧ Hid (s = tk l k) ∧ 0 ≤ s ∧ s ≤ (k : Int) * 999999999999999 ∧ Blk wr w.heap.size 24 [.slice A n c] ∧ Below w.heap.size w wr) (fun _ kv _ => n - (intOf kv).toNat)
 case atStart => exact ⟨0, 0, by omega, rfl, rfl, rfl, by omega, by omega, hB0, hb⟩
 case round =>
  clear hB0 hb;obtain ⟨k, s, hk, rfl, rfl, HS, hs0, hs1, hB0, hb⟩ := hrel
  rcases Nat.lt_or_ge k n with hlt | hlt
  ·obtain ⟨b, off, rfl, hbb, hcx⟩ := wtIn (HRX.out _ hb) HLN.out hlt
   obtain ⟨x, x9⟩ : ∃ x, x = wt l k := ⟨_, rfl⟩;have HX := Lib.hid x9;clear x9;rw [← HX.out] at hcx;have hx := HOK.out k (by rw [HLN.out]; exact hlt)
   unfold okk at hx
   rw [← HX.out] at hx;obtain ⟨hx0, hx1⟩ := hx;obtain ⟨s', hs'⟩ : ∃ s', s' = s + x := ⟨_, rfl⟩
   have HS2 : Hid (s' = tk l (k + 1)) := by
    show _ = _
    rw [tk_succ, ← HS.out, ← HX.out, hs']
   have hb2 : s' ≤ ((k + 1 : Nat) : Int) * 999999999999999 := by unfold far at hx1; omega
   have hk9 : (k : Int) * 999999999999999 ≤ 399999999999999600 := by omega
   unfold far at hx1
   go_upto_region 3 with fail;refine jp ?_;refine jv (.bool true) (exec_lss _ _ _ _ (by rfl) .i64 (k : Int) (n : Int) (by rfl) (by rfl) true (decide_eq_true (by omega))) ?_;refine jzb hb fun X1 hX1 hb => ?_;replace hB0 := hB0.bel hX1;have hcx := hcx.below hX1 hbb;replace hbb := Nat.lt_of_lt_of_le hbb (hX1).size;clear hX1;go_upto_region 4 with fail;refine jp ?_;refine jv (.pointer (some ⟨b, off + k * 1, none⟩)) (exec_ixv Tryd.underlying22 info_i1 _ _ (by rfl) b (off) n c k (by omega) (by rfl) (by rfl) rfl) ?_;refine jg (.int .i64 x) (fun X hX hF => exec_ld 3 _ (by rfl) b (off + k * 1) (by rfl) _ X ((hcx.below hX hbb) 0 _ rfl) (fun X u h => load_int b (off + k * 1) X u h)) ?_;refine jm (.int .i64 x) ?_;refine jzb hb fun X2 hX2 hb => ?_;replace hB0 := hB0.bel hX2;have hcx := hcx.below hX2 hbb;replace hbb := Nat.lt_of_lt_of_le hbb (hX2).size;clear hX2;go_upto_region 5 with fail;refine jp ?_;refine jm (.int .i64 s) ?_;refine jm (.int .i64 x) ?_;refine jv (.int .i64 s') (exec_add _ _ _ _ (by rfl) s x s' (by rfl) (by rfl) (by omega) (by omega) (by omega)) ?_;refine jm (.int .i64 s') ?_;refine jzb hb fun X3 hX3 hb => ?_;replace hB0 := hB0.bel hX3;clear hX3;go_upto_region 6 with fail;refine jp ?_;refine jv (.int .i64 ((k + 1 : Nat) : Int)) (exec_add _ _ _ _ (by rfl) (k : Int) 1 ((k + 1 : Nat) : Int) (by rfl) (by rfl) (by omega) (by omega) (by omega)) ?_;refine jm (.int .i64 ((k + 1 : Nat) : Int)) ?_;refine jzb hb fun X4 hX4 hb => ?_;replace hB0 := hB0.bel hX4;clear hX4
   go_wp2
   go_roundw
   case rel => exact ⟨k + 1, s', by omega, rfl, rfl, HS2, by omega, hb2, hB0, hb⟩
   case measure => simp [intOf]; omega
  ·obtain rfl : k = n := by omega
   have HT : Hid (s = tot l) := by
    show _ = _
    unfold tot
    rw [HLN.out]; exact HS.out
   go_upto_region 3 with fail;refine jp ?_;refine jv (.bool false) (exec_lss _ _ _ _ (by rfl) .i64 (k : Int) (k : Int) (by rfl) (by rfl) false (decide_eq_false (by omega))) ?_;refine jzb hb fun X1 hX1 hb => ?_;replace hB0 := hB0.bel hX1;clear hX1;go_upto_region 7 with fail;refine jp ?_;refine jm (.int .i64 s) ?_;refine jm (.int .i64 s) ?_;refine jzb hb fun X2 hX2 hb => ?_;replace hB0 := hB0.bel hX2;clear hX2
   go_wp2
   go_ret
   exact ⟨by rw [HT.out]; rfl, hb⟩
theorem kch0 (v : Value) (l : List Int) (w : World) (hv : Ks l v w) (h : l.length < 1) : Calls Tryd.prog 8 #[.agg #[v]] w fun e w' => e = .returned (.int .i64 (kcE l)) ∧ Since w w' := by
 have HC : Hid (kcE l = 2) := kcE_lim (by omega);obtain ⟨A, n, c, rfl, hln, hn1, hr⟩ := hv.at;clear hv
 have HRX : Hid (∀ X, Since w X → Rd X 1 (.slice A n c) n (l.map I64)) := fun X h => hr.below h
 have HLN := Lib.hid hln;clear hr;rw [hln] at h
 go_enter Tryd.func8, Tryd.ntmps8
 go_upto_region 1 with fail;obtain ⟨W0, hW0, hB0, hb⟩ := start1 w 24 [.slice A n c];rw [← hW0];clear hW0;refine jp ?_;refine jn (.pointer (some ⟨w.heap.size, 0, none⟩)) ?_;refine jf (.slice A n c) hB0 0 load_ints ?_;refine jv (.int .i64 (n : Int)) (exec_lenv Tryd.underlying22 _ (by rfl) A n c (by rfl) _ rfl) ?_;refine jm (.int .i64 (n : Int)) ?_;refine jzb hb fun X1 hX1 hb => ?_;replace hB0 := hB0.bel hX1;clear hX1;go_upto_region 2 with fail;refine jp ?_;refine jm (.int .i64 (n : Int)) ?_;refine jv (.bool true) (exec_lss _ _ _ _ (by rfl) .i64 (n : Int) 1 (by rfl) (by rfl) true (decide_eq_true (by omega))) ?_;refine jm (.bool true) ?_;refine js ?_;refine js ?_;refine jm (.bool true) ?_;refine jzb hb fun X2 hX2 hb => ?_;replace hB0 := hB0.bel hX2;clear hX2;go_upto_region 3 with fail;refine jp ?_;refine jm (.int .i64 2) ?_;refine jzb hb fun X3 hX3 hb => ?_;replace hB0 := hB0.bel hX3;clear hX3
 go_wp2
 go_ret
 exact ⟨by rw [HC.out]; rfl, hb⟩
theorem kch1 (v : Value) (l : List Int) (w : World) (hv : Ks l v w) (h : 400 < l.length) : Calls Tryd.prog 8 #[.agg #[v]] w fun e w' => e = .returned (.int .i64 (kcE l)) ∧ Since w w' := by
 have HC : Hid (kcE l = 2) := kcE_lim (by omega);obtain ⟨A, n, c, rfl, hln, hn1, hr⟩ := hv.at;clear hv
 have HRX : Hid (∀ X, Since w X → Rd X 1 (.slice A n c) n (l.map I64)) := fun X h => hr.below h
 have HLN := Lib.hid hln;clear hr;rw [hln] at h
 go_enter Tryd.func8, Tryd.ntmps8
 go_upto_region 1 with fail;obtain ⟨W0, hW0, hB0, hb⟩ := start1 w 24 [.slice A n c];rw [← hW0];clear hW0;refine jp ?_;refine jn (.pointer (some ⟨w.heap.size, 0, none⟩)) ?_;refine jf (.slice A n c) hB0 0 load_ints ?_;refine jv (.int .i64 (n : Int)) (exec_lenv Tryd.underlying22 _ (by rfl) A n c (by rfl) _ rfl) ?_;refine jm (.int .i64 (n : Int)) ?_;refine jzb hb fun X1 hX1 hb => ?_;replace hB0 := hB0.bel hX1;clear hX1;go_upto_region 2 with fail;refine jp ?_;refine jm (.int .i64 (n : Int)) ?_;refine jv (.bool false) (exec_lss _ _ _ _ (by rfl) .i64 (n : Int) 1 (by rfl) (by rfl) false (decide_eq_false (by omega))) ?_;refine jm (.bool false) ?_;refine jm (.int .i64 (n : Int)) ?_;refine jv (.bool true) (exec_gtr _ _ _ _ (by rfl) .i64 (n : Int) 400 (by rfl) (by rfl) true (decide_eq_true (by omega))) ?_;refine jm (.bool true) ?_;refine jzb hb fun X2 hX2 hb => ?_;replace hB0 := hB0.bel hX2;clear hX2;go_upto_region 3 with fail;refine jp ?_;refine jm (.int .i64 2) ?_;refine jzb hb fun X3 hX3 hb => ?_;replace hB0 := hB0.bel hX3;clear hX3
 go_wp2
 go_ret
 exact ⟨by rw [HC.out]; rfl, hb⟩
theorem kchM (v : Value) (l : List Int) (w : World) (hv : Ks l v w) (h1 : 1 ≤ l.length) (h4 : l.length ≤ 400) : Calls Tryd.prog 8 #[.agg #[v]] w fun e w' => e = .returned (.int .i64 (kcE l)) ∧ Since w w' := by
 have hv' := hv;obtain ⟨A, n, c, rfl, hln, hn1, hr⟩ := hv.at;clear hv
 have HRX : Hid (∀ X, Since w X → Rd X 1 (.slice A n c) n (l.map I64)) := fun X h => hr.below h
 have HLN := Lib.hid hln;clear hr;rw [hln] at h1 h4
 go_enter Tryd.func8, Tryd.ntmps8
 go_upto_region 1 with fail;obtain ⟨W0, hW0, hB0, hb⟩ := start1 w 24 [.slice A n c];rw [← hW0];clear hW0;refine jp ?_;refine jn (.pointer (some ⟨w.heap.size, 0, none⟩)) ?_;refine jf (.slice A n c) hB0 0 load_ints ?_;refine jv (.int .i64 (n : Int)) (exec_lenv Tryd.underlying22 _ (by rfl) A n c (by rfl) _ rfl) ?_;refine jm (.int .i64 (n : Int)) ?_;refine jzb hb fun X1 hX1 hb => ?_;replace hB0 := hB0.bel hX1;clear hX1;go_upto_region 2 with fail;refine jp ?_;refine jm (.int .i64 (n : Int)) ?_;refine jv (.bool false) (exec_lss _ _ _ _ (by rfl) .i64 (n : Int) 1 (by rfl) (by rfl) false (decide_eq_false (by omega))) ?_;refine jm (.bool false) ?_;refine jm (.int .i64 (n : Int)) ?_;refine jv (.bool false) (exec_gtr _ _ _ _ (by rfl) .i64 (n : Int) 400 (by rfl) (by rfl) false (decide_eq_false (by omega))) ?_;refine jm (.bool false) ?_;refine jzb hb fun X2 hX2 hb => ?_;replace hB0 := hB0.bel hX2;clear hX2;go_upto_region 4 with fail;refine jp ?_;refine jn (.pointer (some ⟨w.heap.size, 0, none⟩)) ?_;refine jf (.slice A n c) hB0 0 load_ints ?_;refine jv (.int .i64 (n : Int)) (exec_lenv Tryd.underlying22 _ (by rfl) A n c (by rfl) _ rfl) ?_;refine jm (.int .i64 0) ?_;refine jzb hb fun X3 hX3 hb => ?_;replace hB0 := hB0.bel hX3;clear hX3
 have HV : Hid (∀ X, Since w X → Ks l (.slice A n c) X) := fun X h => Ks.lasts l _ _ _ hv' h
 clear hv'
 go_wp2
 go_loopw [19] (fun kv wr => ∃ k : Nat, k ≤ n ∧ kv = .int .i64 (k : Int) ∧ Hid (∀ j, j < k → okk l j) ∧ Blk wr w.heap.size 24 [.slice A n c] ∧ Below w.heap.size w wr) (fun kv _ => n - (intOf kv).toNat)
 case atStart => exact ⟨0, by omega, rfl, (fun j hj => by omega), hB0, hb⟩
 case round =>
  clear hB0 hb;obtain ⟨k, hk, rfl, HZ, hB0, hb⟩ := hrel
  rcases Nat.lt_or_ge k n with hlt | hlt
  ·obtain ⟨b, off, rfl, hbb, hcx⟩ := wtIn (HRX.out _ hb) HLN.out hlt
   obtain ⟨x, x9⟩ : ∃ x, x = wt l k := ⟨_, rfl⟩;have HX := Lib.hid x9;clear x9;rw [← HX.out] at hcx;go_upto_region 5 with fail;refine jp ?_;refine jv (.bool true) (exec_lss _ _ _ _ (by rfl) .i64 (k : Int) (n : Int) (by rfl) (by rfl) true (decide_eq_true (by omega))) ?_;refine jzb hb fun X1 hX1 hb => ?_;replace hB0 := hB0.bel hX1;have hcx := hcx.below hX1 hbb;replace hbb := Nat.lt_of_lt_of_le hbb (hX1).size;clear hX1;go_upto_region 6 with fail;refine jp ?_;refine jv (.pointer (some ⟨b, off + k * 1, none⟩)) (exec_ixv Tryd.underlying22 info_i1 _ _ (by rfl) b (off) n c k (by omega) (by rfl) (by rfl) rfl) ?_;refine jg (.int .i64 x) (fun X hX hF => exec_ld 3 _ (by rfl) b (off + k * 1) (by rfl) _ X ((hcx.below hX hbb) 0 _ rfl) (fun X u h => load_int b (off + k * 1) X u h)) ?_;refine jm (.int .i64 x) ?_;refine jzb hb fun X2 hX2 hb => ?_;replace hB0 := hB0.bel hX2;have hcx := hcx.below hX2 hbb;replace hbb := Nat.lt_of_lt_of_le hbb (hX2).size;clear hX2
   rcases (show x < 0 ∨ 999999999999999 < x ∨ (0 ≤ x ∧ x ≤ 999999999999999) by omega) with hx | hx | hx
   ·have HC : Hid (kcE l = 3) := kcE_bad (by rw [HLN.out]; exact h1) (by rw [HLN.out]; exact h4) (k := k) (by rw [HLN.out]; exact hlt) (by unfold okk far; rw [← HX.out]; omega)
    go_upto_region 7 with fail;refine jp ?_;refine jm (.int .i64 x) ?_;refine jv (.bool true) (exec_lss _ _ _ _ (by rfl) .i64 x 0 (by rfl) (by rfl) true (decide_eq_true (by omega))) ?_;refine jm (.bool true) ?_;refine js ?_;refine js ?_;refine jm (.bool true) ?_;refine jzb hb fun X3 hX3 hb => ?_;replace hB0 := hB0.bel hX3;clear hX3;go_upto_region 8 with fail;refine jp ?_;refine jm (.int .i64 3) ?_;refine jzb hb fun X4 hX4 hb => ?_;replace hB0 := hB0.bel hX4;clear hX4
    go_wp2
    go_ret
    exact ⟨by rw [HC.out]; rfl, hb⟩
   ·have HC : Hid (kcE l = 3) := kcE_bad (by rw [HLN.out]; exact h1) (by rw [HLN.out]; exact h4) (k := k) (by rw [HLN.out]; exact hlt) (by unfold okk far; rw [← HX.out]; omega)
    go_upto_region 7 with fail;refine jp ?_;refine jm (.int .i64 x) ?_;refine jv (.bool false) (exec_lss _ _ _ _ (by rfl) .i64 x 0 (by rfl) (by rfl) false (decide_eq_false (by omega))) ?_;refine jm (.bool false) ?_;refine jm (.int .i64 x) ?_;refine jv (.bool true) (exec_gtr _ _ _ _ (by rfl) .i64 x 999999999999999 (by rfl) (by rfl) true (decide_eq_true (by omega))) ?_;refine jm (.bool true) ?_;refine jzb hb fun X3 hX3 hb => ?_;replace hB0 := hB0.bel hX3;clear hX3;go_upto_region 8 with fail;refine jp ?_;refine jm (.int .i64 3) ?_;refine jzb hb fun X4 hX4 hb => ?_;replace hB0 := hB0.bel hX4;clear hX4
    go_wp2
    go_ret
    exact ⟨by rw [HC.out]; rfl, hb⟩
   ·have HZ2 : Hid (∀ j, j < k + 1 → okk l j) := fun j hj => by
     rcases Nat.lt_or_ge j k with h9 | h9
     ·exact HZ.out j h9
     ·rw [show j = k by omega]
      unfold okk
      rw [← HX.out];exact ⟨by omega, by unfold far; omega⟩
    go_upto_region 7 with fail;refine jp ?_;refine jm (.int .i64 x) ?_;refine jv (.bool false) (exec_lss _ _ _ _ (by rfl) .i64 x 0 (by rfl) (by rfl) false (decide_eq_false (by omega))) ?_;refine jm (.bool false) ?_;refine jm (.int .i64 x) ?_;refine jv (.bool false) (exec_gtr _ _ _ _ (by rfl) .i64 x 999999999999999 (by rfl) (by rfl) false (decide_eq_false (by omega))) ?_;refine jm (.bool false) ?_;refine jzb hb fun X3 hX3 hb => ?_;replace hB0 := hB0.bel hX3;clear hX3;go_upto_region 9 with fail;refine jp ?_;refine jv (.int .i64 ((k + 1 : Nat) : Int)) (exec_add _ _ _ _ (by rfl) (k : Int) 1 ((k + 1 : Nat) : Int) (by rfl) (by rfl) (by omega) (by omega) (by omega)) ?_;refine jm (.int .i64 ((k + 1 : Nat) : Int)) ?_;refine jzb hb fun X4 hX4 hb => ?_;replace hB0 := hB0.bel hX4;clear hX4
    go_wp2
    go_roundw
    case rel => exact ⟨k + 1, by omega, rfl, HZ2, hB0, hb⟩
    case measure => simp [intOf]; omega
  ·obtain rfl : k = n := by omega
   have HA : Hid (∀ j, j < l.length → okk l j) := fun j hj => HZ.out j (by rw [← HLN.out]; exact hj)
   have HE := Lib.hid (kcE_all (by rw [HLN.out]; exact h1) (by rw [HLN.out]; exact h4) HA.out);obtain ⟨s, s9⟩ : ∃ s, s = tot l := ⟨_, rfl⟩;have HS := Lib.hid s9;clear s9;go_upto_region 5 with fail;refine jp ?_;refine jv (.bool false) (exec_lss _ _ _ _ (by rfl) .i64 (k : Int) (k : Int) (by rfl) (by rfl) false (decide_eq_false (by omega))) ?_;refine jzb hb fun X1 hX1 hb => ?_;replace hB0 := hB0.bel hX1;clear hX1;go_upto_region 10 with fail;refine jp ?_;refine ja hB0 Tryd.underlying24 (by rfl) info_kn ?_;refine jc (.int .i64 s) (fun X hX hF => mo (totC _ l X (HV.out X (Since.next hb hX)) (by rw [HLN.out]; exact h4) HA.out) (by rw [HS.out])) ?_;refine jm (.int .i64 s) ?_;refine jzb hb fun X2 hX2 hb => ?_;replace hB0 := hB0.bel hX2;clear hX2
   rcases (show 999999999999999 < s ∨ s = 0 ∨ (s ≤ 999999999999999 ∧ s ≠ 0) by omega) with h9 | h9 | h9
   ·have HC : Hid (kcE l = 3) := by
     show _ = _
     rw [HE.out, if_pos (by rw [← HS.out]; exact h9)]
    go_upto_region 11 with fail;refine jp ?_;refine jm (.int .i64 s) ?_;refine jv (.bool true) (exec_gtr _ _ _ _ (by rfl) .i64 s 999999999999999 (by rfl) (by rfl) true (decide_eq_true (by omega))) ?_;refine jm (.bool true) ?_;refine jzb hb fun X3 hX3 hb => ?_;replace hB0 := hB0.bel hX3;clear hX3;go_upto_region 12 with fail;refine jp ?_;refine jm (.int .i64 3) ?_;refine jzb hb fun X4 hX4 hb => ?_;replace hB0 := hB0.bel hX4;clear hX4
    go_wp2
    go_ret
    exact ⟨by rw [HC.out]; rfl, hb⟩
   ·have HC : Hid (kcE l = 1) := by
     show _ = _
     rw [HE.out, if_neg (by rw [← HS.out]; unfold far; omega), if_pos (by rw [← HS.out]; exact h9)]
    go_upto_region 11 with fail;refine jp ?_;refine jm (.int .i64 s) ?_;refine jv (.bool false) (exec_gtr _ _ _ _ (by rfl) .i64 s 999999999999999 (by rfl) (by rfl) false (decide_eq_false (by omega))) ?_;refine jm (.bool false) ?_;refine jzb hb fun X3 hX3 hb => ?_;replace hB0 := hB0.bel hX3;clear hX3;go_upto_region 13 with fail;refine jp ?_;refine jm (.int .i64 s) ?_;refine jv (.bool true) (exec_eqi _ _ _ _ (by rfl) .i64 s 0 (by rfl) (by rfl) true (decide_eq_true (by omega))) ?_;refine jm (.bool true) ?_;refine jzb hb fun X4 hX4 hb => ?_;replace hB0 := hB0.bel hX4;clear hX4;go_upto_region 14 with fail;refine jp ?_;refine jm (.int .i64 1) ?_;refine jzb hb fun X5 hX5 hb => ?_;replace hB0 := hB0.bel hX5;clear hX5
    go_wp2
    go_ret
    exact ⟨by rw [HC.out]; rfl, hb⟩
   ·have HC : Hid (kcE l = 0) := by
     show _ = _
     rw [HE.out, if_neg (by rw [← HS.out]; unfold far; omega), if_neg (by rw [← HS.out]; omega)]
    go_upto_region 11 with fail;refine jp ?_;refine jm (.int .i64 s) ?_;refine jv (.bool false) (exec_gtr _ _ _ _ (by rfl) .i64 s 999999999999999 (by rfl) (by rfl) false (decide_eq_false (by omega))) ?_;refine jm (.bool false) ?_;refine jzb hb fun X3 hX3 hb => ?_;replace hB0 := hB0.bel hX3;clear hX3;go_upto_region 13 with fail;refine jp ?_;refine jm (.int .i64 s) ?_;refine jv (.bool false) (exec_eqi _ _ _ _ (by rfl) .i64 s 0 (by rfl) (by rfl) false (decide_eq_false (by omega))) ?_;refine jm (.bool false) ?_;refine jzb hb fun X4 hX4 hb => ?_;replace hB0 := hB0.bel hX4;clear hX4;go_upto_region 15 with fail;refine jp ?_;refine jm (.int .i64 0) ?_;refine jzb hb fun X5 hX5 hb => ?_;replace hB0 := hB0.bel hX5;clear hX5
    go_wp2
    go_ret
    exact ⟨by rw [HC.out]; rfl, hb⟩
theorem kchC (v : Value) (l : List Int) (w : World) (hv : Ks l v w) : Calls Tryd.prog 8 #[.agg #[v]] w fun e w' => e = .returned (.int .i64 (kcE l)) ∧ Since w w' := by
 rcases (show l.length < 1 ∨ 400 < l.length ∨ (1 ≤ l.length ∧ l.length ≤ 400) by omega) with h | h | h
 ·exact kch0 v l w hv h
 ·exact kch1 v l w hv h
 ·exact kchM v l w hv h.1 h.2
theorem Kok.all {l : List Int} (h : Kok l) : ∀ k, k < l.length → okk l k := fun k _ => ⟨h.pos k, Int.le_trans (h.wle k) h.le⟩
theorem totK (v : Value) (l : List Int) (w : World) (hv : Ks l v w) (h : Kok l) : Calls Tryd.prog 27 #[.agg #[v]] w fun e w' => e = .returned (.int .i64 (tot l)) ∧ Since w w' := totC v l w hv h.len2 h.all
theorem ttl1 (v : Value) (l : List Int) (w : World) (hv : Ks l v w) (HK : Hid (Kok l)) : Calls Tryd.prog 29 #[.agg #[v]] w fun e w' => e = .returned (.tuple #[.int .i64 (tot l), .int .i64 0]) ∧ Since w w' := by
 have HV : Hid (∀ X, Since w X → Ks l v X) := fun X h => Ks.lasts l _ _ _ hv h
 clear hv;have HC : Hid (kcE l = 0) := kcE_ok.2 HK.out
 go_enter Tryd.func29, Tryd.ntmps29
 go_upto_region 1 with fail;obtain ⟨W0, hW0, hB0, hb⟩ := start1 w 24 [v];rw [← hW0];clear hW0;refine jp ?_;refine ja hB0 Tryd.underlying24 (by rfl) info_kn ?_;refine jc (.int .i64 0) (fun X hX hF => mo (kchC _ l X (HV.out X (Since.next hb hX))) (by rw [HC.out])) ?_;refine jm (.int .i64 0) ?_;refine jzb hb fun X1 hX1 hb => ?_;replace hB0 := hB0.bel hX1;clear hX1;go_upto_region 2 with fail;refine jp ?_;refine jm (.int .i64 0) ?_;refine jv (.bool false) (exec_nei _ _ _ _ (by rfl) .i64 0 0 (by rfl) (by rfl) false (by rw [decide_eq_true (by omega)]; rfl)) ?_;refine jzb hb fun X2 hX2 hb => ?_;replace hB0 := hB0.bel hX2;clear hX2;go_upto_region 4 with fail;refine jp ?_;refine ja hB0 Tryd.underlying24 (by rfl) info_kn ?_;refine jc (.int .i64 (tot l)) (fun X hX hF => totK _ l X (HV.out X (Since.next hb hX)) HK.out) ?_;refine jm (.int .i64 (tot l)) ?_;refine jm (.int .i64 0) ?_;refine jzb hb fun X3 hX3 hb => ?_;replace hB0 := hB0.bel hX3;clear hX3
 go_wp2
 go_ret2
 exact ⟨rfl, hb⟩
end Go.Proofs.YtcpedbpldgndmaaDoor
