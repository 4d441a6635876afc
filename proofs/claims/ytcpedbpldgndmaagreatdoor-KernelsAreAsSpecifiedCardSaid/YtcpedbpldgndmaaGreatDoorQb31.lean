/-
  The reference of layer 31: common, reduced, Reduce, Delay.
-/
import Derived.Test.YtcpedbpldgndmaaGreatDoorQa31
set_option linter.unusedSimpArgs false
set_option linter.unusedVariables false
set_option maxRecDepth 100000
set_option maxHeartbeats 1600000
namespace Go.Proofs.YtcpedbpldgndmaaGreatDoor
open Go.RowKit
theorem rcmC (a b : Nat) (w : World) (ha : a ≤ 9223372036854775807) (hb1 : b ≤ 9223372036854775807) : Calls Tryz.prog 54 #[.int .i64 (a : Int), .int .i64 (b : Int)] w fun e w' => e = .returned (.int .i64 ((Nat.gcd a b : Nat) : Int)) ∧ Since w w' := by
 go_enter Tryz.func54, Tryz.ntmps54
 have hb : Below w.heap.size w w := Below.refl _ _
 go_wp2
 go_loopw [0, 1] (fun xv yv wr => ∃ x y : Nat, xv = .int .i64 (x : Int) ∧ yv = .int .i64 (y : Int) ∧ x ≤ 9223372036854775807 ∧ y ≤ 9223372036854775807 ∧ Hid (Nat.gcd x y = Nat.gcd a b) ∧ Below w.heap.size w wr) (fun _ yv _ => (intOf yv).toNat)
 case atStart => exact ⟨a, b, rfl, rfl, ha, hb1, rfl, hb⟩
 case round =>
  clear hb;obtain ⟨x, y, rfl, rfl, hx, hy, HG, hb⟩ := hrel
  rcases Nat.eq_zero_or_pos y with hy0 | hy0
  ·subst hy0
   have HK : Hid (x = Nat.gcd a b) := by
    show _ = _
    rw [← HG.out, Nat.gcd_zero_right]
   clear HG;go_upto_region 1 with fail;refine jp ?_;refine jm (.int .i64 ((0 : Nat) : Int)) ?_;refine jv (.bool false) (exec_gtr _ _ _ _ (by rfl) .i64 ((0 : Nat) : Int) 0 (by rfl) (by rfl) false (decide_eq_false (by omega))) ?_;refine jzb hb fun X1 _ hb => ?_;go_upto_region 5 with fail;refine jp ?_;refine jm (.int .i64 (x : Int)) ?_;refine jm (.int .i64 (x : Int)) ?_;refine jzb hb fun X2 _ hb => ?_
   go_wp2
   go_ret
   exact ⟨by rw [← HK.out]; rfl, hb⟩
  ·have HK : Hid (Nat.gcd y (x % y) = Nat.gcd a b) := by
    show _ = _
    rw [← HG.out, Nat.gcd_comm x y, Nat.gcd_rec y x, Nat.gcd_comm]
   have hlt : x % y < y := Nat.mod_lt _ hy0;obtain ⟨z, hz⟩ : ∃ z, z = x % y := ⟨_, rfl⟩
   have hzi : (x : Int) % (y : Int) = (z : Int) := by rw [hz]; exact (Int.natCast_emod x y).symm
   rw [← hz] at HK hlt;clear hz;go_upto_region 1 with fail;refine jp ?_;refine jm (.int .i64 (y : Int)) ?_;refine jv (.bool true) (exec_gtr _ _ _ _ (by rfl) .i64 (y : Int) 0 (by rfl) (by rfl) true (decide_eq_true (by omega))) ?_;refine jzb hb fun X1 _ hb => ?_;go_upto_region 2 with fail;refine jp ?_;refine jm (.int .i64 (x : Int)) ?_;refine jm (.int .i64 (y : Int)) ?_;refine jv (.int .i64 (z : Int)) (exec_rem _ _ _ _ (by rfl) .i64 (x : Int) (y : Int) (z : Int) (by rfl) (by rfl) (by omega) (by omega) hzi) ?_;refine jm (.int .i64 (z : Int)) ?_;refine jzb hb fun X2 _ hb => ?_;go_upto_region 3 with fail;refine jp ?_;refine jm (.int .i64 (y : Int)) ?_;refine jm (.int .i64 (y : Int)) ?_;refine jzb hb fun X3 _ hb => ?_;go_upto_region 4 with fail;refine jp ?_;refine jm (.int .i64 (z : Int)) ?_;refine jm (.int .i64 (z : Int)) ?_;refine jzb hb fun X4 _ hb => ?_
   go_wp2
   go_roundw
   case rel => exact ⟨y, z, rfl, rfl, hy, by omega, HK, hb⟩
   case measure => simp [intOf]; omega
theorem rrdC (v : Value) (l : List Int) (w : World) (hv : Ks l v w) (hk : Kok l) : Calls Tryz.prog 36 #[v] w fun e w' => ∃ v', e = .returned v' ∧ Ko (red l) w.heap.size v' w' ∧ Since w w' := by
 obtain ⟨A, n, c, rfl, hln, hn1, hr⟩ := hv.at;clear hv
 have HRX : Hid (∀ X, Since w X → Rd X 1 (.slice A n c) n (l.map I64)) := fun X h => hr.below h
 have HLN := Lib.hid hln;have HK := Lib.hid hk;clear hk;clear hr
 go_enter Tryz.func36, Tryz.ntmps36
 go_upto_region 1 with fail;refine jp ?_;refine jm (.int .i64 0) ?_;refine jz fun X1 hX1 => ?_;have hb : Below w.heap.size w X1 := hX1;clear hX1;go_upto_region 2 with fail;refine jp ?_;refine jm (.int .i64 0) ?_;refine jzb hb fun X2 _ hb => ?_;go_upto_region 3 with fail;refine jp ?_;refine jm (.int .i64 0) ?_;refine jzb hb fun X3 _ hb => ?_
 have hn4 : n ≤ 400 := by rw [← HLN.out]; exact HK.out.len2
 go_wp2
 go_loopw [3, 4, 5] (fun dv mv kv wr => ∃ (k d m : Nat), k ≤ n ∧ dv = .int .i64 (d : Int) ∧ mv = .int .i64 (m : Int) ∧ kv = .int .i64 (k : Int) ∧ Hid (d = gk l k) ∧ Hid (m = lk l k) ∧ Below w.heap.size w wr) (fun _ _ kv _ => n - (intOf kv).toNat)
 case atStart => exact ⟨0, 0, 0, by omega, rfl, rfl, rfl, rfl, rfl, hb⟩
 case round =>
  clear hb;obtain ⟨k, d, m, hk, rfl, rfl, rfl, HD, HM, hb⟩ := hrel
  rcases Nat.lt_or_ge k n with hlt | hlt
  ·obtain ⟨b, off, rfl, hbb, hcx⟩ := wtIn (HRX.out _ hb) HLN.out hlt
   obtain ⟨x, hx9⟩ : ∃ x : Nat, (x : Int) = wt l k := ⟨(wt l k).toNat, Int.toNat_of_nonneg (HK.out.pos k)⟩;have HX := Lib.hid hx9;clear hx9;rw [← HX.out] at hcx
   have hx1 : (x : Int) ≤ 999999999999999 := by
    have h1 := HK.out.wle k;have h2 := HK.out.le
    unfold far at h2
    rw [← HX.out] at h1
    omega
   have hd1 : d ≤ 999999999999999 := by rw [HD.out]; exact gk_le HK.out k
   obtain ⟨d', hd'⟩ : ∃ d', d' = Nat.gcd d x := ⟨_, rfl⟩;have HG := Lib.hid hd'
   have HD2 : Hid (d' = gk l (k + 1)) := by
    show _ = _
    rw [gk_succ, ← HD.out, ← HX.out, Int.toNat_natCast];exact hd'
   clear hd';go_upto_region 4 with fail;refine jp ?_;refine jm (.int .i64 (k : Int)) ?_;refine jm (.slice (some ⟨b, off, none⟩) n c) ?_;refine jv (.int .i64 (n : Int)) (exec_lenv Tryz.underlying22 _ (by rfl) (some ⟨b, off, none⟩) n c (by rfl) _ rfl) ?_;refine jv (.bool true) (exec_lss _ _ _ _ (by rfl) .i64 (k : Int) (n : Int) (by rfl) (by rfl) true (decide_eq_true (by omega))) ?_;refine jzb hb fun X1 hX1 hb => ?_;have hcx := hcx.below hX1 hbb;replace hbb := Nat.lt_of_lt_of_le hbb (hX1).size;clear hX1;go_upto_region 6 with fail;refine jp ?_;refine jm (.int .i64 (d : Int)) ?_;refine jm (.slice (some ⟨b, off, none⟩) n c) ?_;refine jm (.int .i64 (k : Int)) ?_;refine jv (.pointer (some ⟨b, off + k * 1, none⟩)) (exec_ixv Tryz.underlying22 info_i1 _ _ (by rfl) b (off) n c k (by omega) (by rfl) (by rfl) rfl) ?_;refine jg (.int .i64 (x : Int)) (fun X hX hF => exec_ld 3 _ (by rfl) b (off + k * 1) (by rfl) _ X ((hcx.below hX hbb) 0 _ rfl) (fun X u h => load_int b (off + k * 1) X u h)) ?_;refine jc (.int .i64 (d' : Int)) (fun X hX hF => mo (rcmC d x X (by omega) (by omega)) (by rw [HG.out])) ?_;refine jm (.int .i64 (d' : Int)) ?_;refine jzb hb fun X2 hX2 hb => ?_;have hcx := hcx.below hX2 hbb;replace hbb := Nat.lt_of_lt_of_le hbb (hX2).size;clear hX2
   rcases Nat.eq_zero_or_pos x with hx | hx
   ·have HM2 : Hid (m = lk l (k + 1)) := by
     show _ = _
     unfold lk
     rw [if_neg (by rw [← HX.out]; omega)];exact HM.out
    go_upto_region 7 with fail;refine jp ?_;refine jm (.slice (some ⟨b, off, none⟩) n c) ?_;refine jm (.int .i64 (k : Int)) ?_;refine jv (.pointer (some ⟨b, off + k * 1, none⟩)) (exec_ixv Tryz.underlying22 info_i1 _ _ (by rfl) b (off) n c k (by omega) (by rfl) (by rfl) rfl) ?_;refine jg (.int .i64 (x : Int)) (fun X hX hF => exec_ld 3 _ (by rfl) b (off + k * 1) (by rfl) _ X ((hcx.below hX hbb) 0 _ rfl) (fun X u h => load_int b (off + k * 1) X u h)) ?_;refine jv (.bool false) (exec_gtr _ _ _ _ (by rfl) .i64 (x : Int) 0 (by rfl) (by rfl) false (decide_eq_false (by omega))) ?_;refine jzb hb fun X3 hX3 hb => ?_;have hcx := hcx.below hX3 hbb;replace hbb := Nat.lt_of_lt_of_le hbb (hX3).size;clear hX3;go_upto_region 5 with fail;refine jp ?_;refine jm (.int .i64 (k : Int)) ?_;refine jv (.int .i64 ((k + 1 : Nat) : Int)) (exec_add _ _ _ _ (by rfl) (k : Int) 1 ((k + 1 : Nat) : Int) (by rfl) (by rfl) (by omega) (by omega) (by omega)) ?_;refine jm (.int .i64 ((k + 1 : Nat) : Int)) ?_;refine jzb hb fun X4 _ hb => ?_
    go_wp2
    go_roundw
    case rel => exact ⟨k + 1, d', m, by omega, rfl, rfl, rfl, HD2, HM2, hb⟩
    case measure => simp [intOf]; omega
   ·have HM2 : Hid (k + 1 = lk l (k + 1)) := by
     show _ = _
     unfold lk
     rw [if_pos (by rw [← HX.out]; omega)]
    go_upto_region 7 with fail;refine jp ?_;refine jm (.slice (some ⟨b, off, none⟩) n c) ?_;refine jm (.int .i64 (k : Int)) ?_;refine jv (.pointer (some ⟨b, off + k * 1, none⟩)) (exec_ixv Tryz.underlying22 info_i1 _ _ (by rfl) b (off) n c k (by omega) (by rfl) (by rfl) rfl) ?_;refine jg (.int .i64 (x : Int)) (fun X hX hF => exec_ld 3 _ (by rfl) b (off + k * 1) (by rfl) _ X ((hcx.below hX hbb) 0 _ rfl) (fun X u h => load_int b (off + k * 1) X u h)) ?_;refine jv (.bool true) (exec_gtr _ _ _ _ (by rfl) .i64 (x : Int) 0 (by rfl) (by rfl) true (decide_eq_true (by omega))) ?_;refine jzb hb fun X3 hX3 hb => ?_;have hcx := hcx.below hX3 hbb;replace hbb := Nat.lt_of_lt_of_le hbb (hX3).size;clear hX3;go_upto_region 8 with fail;refine jp ?_;refine jm (.int .i64 (k : Int)) ?_;refine jv (.int .i64 ((k + 1 : Nat) : Int)) (exec_add _ _ _ _ (by rfl) (k : Int) 1 ((k + 1 : Nat) : Int) (by rfl) (by rfl) (by omega) (by omega) (by omega)) ?_;refine jm (.int .i64 ((k + 1 : Nat) : Int)) ?_;refine jzb hb fun X4 _ hb => ?_;go_upto_region 5 with fail;refine jp ?_;refine jm (.int .i64 (k : Int)) ?_;refine jv (.int .i64 ((k + 1 : Nat) : Int)) (exec_add _ _ _ _ (by rfl) (k : Int) 1 ((k + 1 : Nat) : Int) (by rfl) (by rfl) (by omega) (by omega) (by omega)) ?_;refine jm (.int .i64 ((k + 1 : Nat) : Int)) ?_;refine jzb hb fun X5 _ hb => ?_
    go_wp2
    go_roundw
    case rel => exact ⟨k + 1, d', k + 1, by omega, rfl, rfl, rfl, HD2, HM2, hb⟩
    case measure => simp [intOf]; omega
  ·obtain rfl : k = n := by omega
   have HDG : Hid (d = gg l) := by
    show _ = _
    unfold gg
    rw [HLN.out]; exact HD.out
   have HML : Hid (m = ll l) := by
    show _ = _
    unfold ll
    rw [HLN.out]; exact HM.out
   have hm1 : m ≤ k := by
    rw [HML.out, ← HLN.out]; exact ll_le l
   have hd0 : 0 < d := by rw [HDG.out]; exact HK.out.gg_pos
   have hd1 : d ≤ 999999999999999 := by rw [HD.out]; exact gk_le HK.out k
   have HRL : Hid ((red l).length = m) := by
    show _ = _
    rw [red_len]; exact HML.out.symm
   go_upto_region 4 with fail;refine jp ?_;refine jm (.int .i64 (k : Int)) ?_;refine jm (.slice A k c) ?_;refine jv (.int .i64 (k : Int)) (exec_lenv Tryz.underlying22 _ (by rfl) A k c (by rfl) _ rfl) ?_;refine jv (.bool false) (exec_lss _ _ _ _ (by rfl) .i64 (k : Int) (k : Int) (by rfl) (by rfl) false (decide_eq_false (by omega))) ?_;refine jzb hb fun X1 _ hb => ?_;go_upto_region 9 with fail;refine jp ?_;refine jm (.slice none 0 0) ?_;refine jzb hb fun X2 _ hb => ?_;go_upto_region 10 with fail;refine jp ?_;refine jm (.int .i64 0) ?_;refine jzb hb fun X3 _ hb => ?_
   go_wp2
   go_loopw [6, 7] (fun sv iv w2 => ∃ (i c6 : Nat) (A6 : Option Addr), i ≤ m ∧ sv = .slice A6 i c6 ∧ iv = .int .i64 (i : Int) ∧ w2.ownsRow w.heap.size 3 1 (.slice A6 i c6) i (((red l).take i).map I64) ∧ Below w.heap.size w w2) (fun _ iv _ => m - (intOf iv).toNat)
   case atStart => exact ⟨0, 0, none, by omega, rfl, rfl, ⟨rfl, .inl ⟨rfl, rfl⟩⟩, hb⟩
   case round =>
    clear hb;obtain ⟨i, c6, A6, hi, rfl, rfl, hOW, hb⟩ := hrel
    rcases Nat.lt_or_ge i m with hlt2 | hlt2
    ·have hik : i < k := by omega
     obtain ⟨b, off, rfl, hbw, hcw⟩ := wtIn (HRX.out _ (Below.refl _ _)) HLN.out hik;obtain ⟨x, hx9⟩ : ∃ x, x = wt l i := ⟨_, rfl⟩;have HX := Lib.hid hx9;clear hx9;rw [← HX.out] at hcw;have hcx := hcw.below hb hbw;have hbb : b < wr.heap.size := Nat.lt_of_lt_of_le hbw hb.size
     have hx0 : 0 ≤ x := by rw [HX.out]; exact HK.out.pos i
     have hx1 : x ≤ 999999999999999 := by
      have h1 := HK.out.wle i;have h2 := HK.out.le
      unfold far at h2
      rw [← HX.out] at h1
      omega
     obtain ⟨y, hy9⟩ : ∃ y, x / (d : Int) = y := ⟨_, rfl⟩
     have hy0 : 0 ≤ y := by rw [← hy9]; exact Int.ediv_nonneg hx0 (by omega)
     have hy1 : y ≤ x := by rw [← hy9]; exact Int.ediv_le_self _ hx0
     have hil : i < (red l).length := by rw [HRL.out]; exact hlt2
     have HAQ : Hid (((red l).take (i + 1)).map I64 = ((red l).take i).map I64 ++ [.int .i64 y]) := by
      show _ = _
      rw [take_snocK hil, List.map_append, ← wt_in hil]
      have h9 : wt (red l) i = y := by
       unfold red
       rw [wt_range _ (by rw [← HML.out]; exact hlt2), ← HDG.out, ← HX.out, hy9]
      rw [h9]
      rfl
     go_upto_region 11 with fail;refine jp ?_;refine jm (.int .i64 (i : Int)) ?_;refine jm (.int .i64 (m : Int)) ?_;refine jv (.bool true) (exec_lss _ _ _ _ (by rfl) .i64 (i : Int) (m : Int) (by rfl) (by rfl) true (decide_eq_true (by omega))) ?_;refine jzb hb fun X1 hX1 hb => ?_;have hOW := own_since hOW hX1;have hcx := hcx.below hX1 hbb;replace hbb := Nat.lt_of_lt_of_le hbb (hX1).size;clear hX1;have hszA := hb.size;go_upto_region 13 with fail
     have hbA : w.heap.size ≤ X1.heap.size := by omega
     refine la_plain (⟨w.heap.size, 3, 1, .slice A6 i c6, i, (((red l).take i).map I64), [.int .i64 y]⟩ : Ar) 8 [none, none, none, none, none, none, none, some (Anew (⟨w.heap.size, 3, 1, .slice A6 i c6, i, (((red l).take i).map I64), [.int .i64 y]⟩ : Ar) 3), some (Aout (⟨w.heap.size, 3, 1, .slice A6 i c6, i, (((red l).take i).map I64), [.int .i64 y]⟩ : Ar))] (la_none (la_none (la_none (la_none (la_none (la_none (la_none (la_some (fun v X Y h hR => Anew.lasts v X Y h hR) (la_some (fun v X Y h hR => Aout.lasts v X Y h hR) (la_nil)))))))))) ?_;simp only [iB, Nat.reduceAdd];refine am (.slice A6 i c6) ?_;refine am (.slice (some ⟨b, off, none⟩) k c) ?_;refine am (.int .i64 (i : Int)) ?_;refine ag hOW hbA (.pointer (some ⟨b, off + i * 1, none⟩)) (fun X σ hX hF => exec_ixv Tryz.underlying22 info_i1 _ _ (by rfl) b (off) k c i (by omega) (by rfl) (by rfl) rfl X) ?_;refine ag hOW hbA (.int .i64 x) (fun X σ hX hF => exec_ld 3 _ (by rfl) b (off + i * 1) (by rfl) _ X ((hcx.below hX.below hbw) 0 _ rfl) (fun X u h => load_int b (off + i * 1) X u h)) ?_;refine am (.int .i64 (d : Int)) ?_;refine ag hOW hbA (.int .i64 y) (fun X σ hX hF => exec_quo _ _ _ _ (by rfl) .i64 x (d : Int) y (by rfl) (by rfl) (by omega) (by omega) hy9 (IntWalk.i64_in _ (by omega)) X) ?_;refine ab hOW 3 (fun X => by unfold execOp; go_simp) ?_;intro v39;refine aa hOW hbA 3 7 v39 List.mem_cons_self Tryz.underlying22 info_i1z rfl (show 0 < 1 by decide) (by rfl) (by intro u hu; simp only [List.mem_cons, List.not_mem_nil, or_false] at hu; rcases hu with rfl <;> rfl) (show i + 1 ≤ maxLen by unfold maxLen; omega) (show (i + 1) * 8 ≤ 140737488355328 by omega) ?_
     intro v40;refine am (v40) ?_;refine az hOW hbA ?_;intro X2 σ hX hF;have hO40 : X2.ownsRow w.heap.size 3 1 v40 (i + 1) ((((red l).take i).map I64) ++ [.int .i64 y]) := (hF _ _ List.mem_cons_self).2;have hb := hb.trans (hX.below.mono (show w.heap.size ≤ w.heap.size by omega));clear hF ;obtain ⟨A7, c7, rfl, _, _⟩ := (Rd.of_own hO40).form
     have hOW : X2.ownsRow w.heap.size 3 1 (.slice A7 (i + 1) c7) (i + 1) (((red l).take (i + 1)).map I64) := by rw [HAQ.out]; exact hO40
     clear hO40;go_upto_region 12 with fail;refine jp ?_;refine jm (.int .i64 (i : Int)) ?_;refine jv (.int .i64 ((i + 1 : Nat) : Int)) (exec_add _ _ _ _ (by rfl) (i : Int) 1 ((i + 1 : Nat) : Int) (by rfl) (by rfl) (by omega) (by omega) (by omega)) ?_;refine jm (.int .i64 ((i + 1 : Nat) : Int)) ?_;refine jzb hb fun X3 hX3 hb => ?_;have hOW := own_since hOW hX3;clear hX3
     go_wp2
     go_roundw
     case rel => exact ⟨i + 1, c7, A7, by omega, rfl, rfl, hOW, hb⟩
     case measure => simp [intOf]; omega
    ·obtain rfl : i = m := by omega
     go_upto_region 11 with fail;refine jp ?_;refine jm (.int .i64 (i : Int)) ?_;refine jm (.int .i64 (i : Int)) ?_;refine jv (.bool false) (exec_lss _ _ _ _ (by rfl) .i64 (i : Int) (i : Int) (by rfl) (by rfl) false (decide_eq_false (by omega))) ?_;refine jzb hb fun X1 hX1 hb => ?_;have hOW := own_since hOW hX1;clear hX1;go_upto_region 14 with fail;refine jp ?_;refine jm (.slice A6 i c6) ?_;refine jm (.slice A6 i c6) ?_;refine jzb hb fun X2 hX2 hb => ?_;have hOW := own_since hOW hX2;clear hX2
     go_wp2
     go_ret
     exact ⟨_, rfl, by show World.ownsRow _ _ _ _ _ _ _; rw [HRL.out]; rw [List.take_of_length_le (by rw [HRL.out]; exact Nat.le_refl _)] at hOW; exact hOW, hb⟩
theorem rre0 (v : Value) (l : List Int) (w : World) (hv : Ks l v w) (HE : Hid (kcE l ≠ 0)) : Calls Tryz.prog 12 #[.agg #[v]] w fun e w' => e = .returned (.agg #[.slice none 0 0, .int .i64 (kcE l)]) ∧ Since w w' := by
 have HV : Hid (∀ X, Since w X → Ks l v X) := fun X h => Ks.lasts l _ _ _ hv h
 clear hv;obtain ⟨z, z9⟩ : ∃ z, z = kcE l := ⟨_, rfl⟩;have HZ := Lib.hid z9
 have hz0 : z ≠ 0 := by rw [z9]; exact HE.out
 clear z9
 go_enter Tryz.func12, Tryz.ntmps12
 go_upto_region 1 with fail;obtain ⟨W0, hW0, hB0, hB1, hb⟩ := start2 w 24 41 [v] [.slice none 0 0, .int .i64 0];rw [← hW0];clear hW0;refine jp ?_;refine ja hB0 Tryz.underlying24 (by rfl) info_kn ?_;refine jc (.int .i64 z) (fun X hX hF => mo (rckC _ l X (HV.out X (Since.next hb hX))) (by rw [HZ.out])) ?_;refine jm (.int .i64 z) ?_;refine jzb hb fun X1 hX1 hb => ?_;replace hB0 := hB0.bel hX1;replace hB1 := hB1.bel hX1;clear hX1;go_upto_region 2 with fail;refine jp ?_;refine jm (.int .i64 z) ?_;refine jv (.bool true) (exec_nei _ _ _ _ (by rfl) .i64 z 0 (by rfl) (by rfl) true (by rw [decide_eq_false (by omega)]; rfl)) ?_;refine jzb hb fun X2 hX2 hb => ?_;replace hB0 := hB0.bel hX2;replace hB1 := hB1.bel hX2;clear hX2;go_upto_region 3 with fail;refine jq 2 ?_;refine jm (.int .i64 z) ?_;refine jn (.agg #[.slice none 0 0, .int .i64 z]) ?_;refine jzb hb fun X3 hX3 hb => ?_;replace hB0 := hB0.bel hX3;replace hB1 := hB1.bel hX3;clear hX3;refine osb 41 2 9 (w.heap.size + 1) 41 hB1 [.slice none 0 0, .int .i64 z] info_md31 ?_;intro w9 hR9 hO9 hB9 hs9;have hb9 := hB9 _ _ hb (by omega);have hB0 := hO9 _ _ _ (by omega) hB0;clear hO9 hB9
 go_wp2
 refine post_cell rfl rfl (by rfl) Tryz.underlying41 rfl hR9 info_md31 ⟨by rw [← HZ.out], hb9⟩
theorem rre1 (v : Value) (l : List Int) (w : World) (hv : Ks l v w) (HK : Hid (Kok l)) : Calls Tryz.prog 12 #[.agg #[v]] w fun e w' => ∃ v', e = .returned (.agg #[v', .int .i64 0]) ∧ Ko (red l) (w.heap.size + 2) v' w' ∧ Since w w' := by
 have HV : Hid (∀ X, Since w X → Ks l v X) := fun X h => Ks.lasts l _ _ _ hv h
 clear hv;have HC : Hid (kcE l = 0) := kcE_ok.2 HK.out
 go_enter Tryz.func12, Tryz.ntmps12
 go_upto_region 1 with fail;obtain ⟨W0, hW0, hB0, hB1, hb⟩ := start2 w 24 41 [v] [.slice none 0 0, .int .i64 0];rw [← hW0];clear hW0;refine jp ?_;refine ja hB0 Tryz.underlying24 (by rfl) info_kn ?_;refine jc (.int .i64 0) (fun X hX hF => mo (rckC _ l X (HV.out X (Since.next hb hX))) (by rw [HC.out])) ?_;refine jm (.int .i64 0) ?_;refine jzb hb fun X1 hX1 hb => ?_;replace hB0 := hB0.bel hX1;replace hB1 := hB1.bel hX1;clear hX1;go_upto_region 2 with fail;refine jp ?_;refine jm (.int .i64 0) ?_;refine jv (.bool false) (exec_nei _ _ _ _ (by rfl) .i64 0 0 (by rfl) (by rfl) false (by rw [decide_eq_true (by omega)]; rfl)) ?_;refine jzb hb fun X2 hX2 hb => ?_;replace hB0 := hB0.bel hX2;replace hB1 := hB1.bel hX2;clear hX2;have h1l := hB1.lt;go_upto_region 4 with fail;refine lx_plain_to 3 [none, none, some (Ko (red l) (w.heap.size + 2))] (lasts_none (lasts_none (lasts_some (Ko.lasts _ _) (lasts_nil)))) ?_;simp only [its, List.take, List.drop, Nat.zero_add, Nat.reduceAdd];refine jn (.pointer (some ⟨w.heap.size, 0, none⟩)) ?_;refine jf (v) hB0 0 load_ints ?_;refine jk (fun X hX hF => (rrdC _ l X (HV.out X (Since.next hb hX)) HK.out).mono fun e X' ⟨v', h1, h2, h3⟩ => ⟨v', h1, h2.low (by have := (hB1.bel hX).lt; omega), h3⟩) ?_;intro v12;refine lx_nil ?_;intro X3 hX3 hF;have hv12 := hF _ _ List.mem_cons_self;replace hB0 := hB0.bel hX3;replace hB1 := hB1.bel hX3;have hb := bel_next hb hX3;clear hF hX3;obtain ⟨Ar, cr, rfl, hcr, hmr⟩ := (Rd.of_own (show World.ownsRow _ _ _ _ _ _ _ from hv12)).form
 go_wp2_with (refine osb 41 2 14 (w.heap.size + 1) 41 hB1 [.slice Ar ((red l)).length cr, .int .i64 0] info_md31 ?_)
 intro w9 hR9 hO9 hB9 hs9;have hb9 := hB9 _ _ hb (by omega);have hB0 := hO9 _ _ _ (by omega) hB0;have hO8 := hO9;clear hO9 hB9
 go_wp2
 refine post_cell rfl rfl (by rfl) Tryz.underlying41 rfl hR9 info_md31 ⟨_, rfl, own_blkK (Y := w9) hv12 (fun g t zs hg hz => hO8 _ _ _ (by have := own_base hv12 _ hg; omega) hz), hb9⟩
theorem rdl0 (t : Int) (w : World) (h : t < 0) : Calls Tryz.prog 13 #[.int .i64 t] w fun e w' => e = .returned (.agg #[.slice none 0 0, .int .i64 3]) ∧ Since w w' := by
 go_enter Tryz.func13, Tryz.ntmps13
 go_upto_region 1 with fail;obtain ⟨W0, hW0, hB0, hb⟩ := start1 w 41 [.slice none 0 0, .int .i64 0];rw [← hW0];clear hW0;refine jp ?_;refine jm (.int .i64 t) ?_;refine jv (.bool true) (exec_lss _ _ _ _ (by rfl) .i64 t 0 (by rfl) (by rfl) true (decide_eq_true (by omega))) ?_;refine jm (.bool true) ?_;refine js ?_;refine js ?_;refine jm (.bool true) ?_;refine jzb hb fun X1 hX1 hb => ?_;replace hB0 := hB0.bel hX1;clear hX1;go_upto_region 2 with fail;refine jq 1 ?_;refine jn (.agg #[.slice none 0 0, .int .i64 3]) ?_;refine jzb hb fun X2 hX2 hb => ?_;replace hB0 := hB0.bel hX2;clear hX2;refine osb 41 2 11 w.heap.size 41 hB0 [.slice none 0 0, .int .i64 3] info_md31 ?_;intro w9 hR9 hO9 hB9 hs9;have hb9 := hB9 _ _ hb (by omega);clear hO9 hB9
 go_wp2
 refine post_cell rfl rfl (by rfl) Tryz.underlying41 rfl hR9 info_md31 ⟨rfl, hb9⟩
theorem rdl1 (t : Int) (w : World) (h : 400 ≤ t) : Calls Tryz.prog 13 #[.int .i64 t] w fun e w' => e = .returned (.agg #[.slice none 0 0, .int .i64 3]) ∧ Since w w' := by
 go_enter Tryz.func13, Tryz.ntmps13
 go_upto_region 1 with fail;obtain ⟨W0, hW0, hB0, hb⟩ := start1 w 41 [.slice none 0 0, .int .i64 0];rw [← hW0];clear hW0;refine jp ?_;refine jm (.int .i64 t) ?_;refine jv (.bool false) (exec_lss _ _ _ _ (by rfl) .i64 t 0 (by rfl) (by rfl) false (decide_eq_false (by omega))) ?_;refine jm (.bool false) ?_;refine jm (.int .i64 t) ?_;refine jv (.bool true) (exec_gtr _ _ _ _ (by rfl) .i64 t 399 (by rfl) (by rfl) true (decide_eq_true (by omega))) ?_;refine jm (.bool true) ?_;refine jzb hb fun X1 hX1 hb => ?_;replace hB0 := hB0.bel hX1;clear hX1;go_upto_region 2 with fail;refine jq 1 ?_;refine jn (.agg #[.slice none 0 0, .int .i64 3]) ?_;refine jzb hb fun X2 hX2 hb => ?_;replace hB0 := hB0.bel hX2;clear hX2;refine osb 41 2 11 w.heap.size 41 hB0 [.slice none 0 0, .int .i64 3] info_md31 ?_;intro w9 hR9 hO9 hB9 hs9;have hb9 := hB9 _ _ hb (by omega);clear hO9 hB9
 go_wp2
 refine post_cell rfl rfl (by rfl) Tryz.underlying41 rfl hR9 info_md31 ⟨rfl, hb9⟩
theorem dly_app (t : Nat) : (List.replicate t (0 : Int)).map I64 ++ [.int .i64 1] = (dly t).map I64 := by
 have h : List.replicate t (0 : Int) ++ [1] = dly t := by
  unfold dly
  rw [List.replicate_succ', List.set_append_right _ _ (by simp)]
  simp
 rw [← h, List.map_append]
 rfl
theorem rdl2 (t : Nat) (w : World) (h : t < 400) : Calls Tryz.prog 13 #[.int .i64 (t : Int)] w fun e w' => ∃ v', e = .returned (.agg #[v', .int .i64 0]) ∧ Ko (dly t) (w.heap.size + 1) v' w' ∧ Since w w' := by
 go_enter Tryz.func13, Tryz.ntmps13
 go_upto_region 1 with fail;obtain ⟨W0, hW0, hB0, hb⟩ := start1 w 41 [.slice none 0 0, .int .i64 0];rw [← hW0];clear hW0;refine jp ?_;refine jm (.int .i64 (t : Int)) ?_;refine jv (.bool false) (exec_lss _ _ _ _ (by rfl) .i64 (t : Int) 0 (by rfl) (by rfl) false (decide_eq_false (by omega))) ?_;refine jm (.bool false) ?_;refine jm (.int .i64 (t : Int)) ?_;refine jv (.bool false) (exec_gtr _ _ _ _ (by rfl) .i64 (t : Int) 399 (by rfl) (by rfl) false (decide_eq_false (by omega))) ?_;refine jm (.bool false) ?_;refine jzb hb fun X1 hX1 hb => ?_;replace hB0 := hB0.bel hX1;clear hX1;go_upto_region 3 with fail;refine jp ?_;refine jm (.slice none 0 0) ?_;refine jzb hb fun X2 hX2 hb => ?_;replace hB0 := hB0.bel hX2;clear hX2;go_upto_region 4 with fail;refine jp ?_;refine jm (.int .i64 0) ?_;refine jzb hb fun X3 hX3 hb => ?_;replace hB0 := hB0.bel hX3;clear hX3
 go_wp2
 go_loopw [3, 4] (fun sv kv wr => ∃ (k c6 : Nat) (A6 : Option Addr), k ≤ t ∧ sv = .slice A6 k c6 ∧ kv = .int .i64 (k : Int) ∧ wr.ownsRow (w.heap.size + 1) 3 1 (.slice A6 k c6) k ((List.replicate k (0 : Int)).map I64) ∧ Blk wr w.heap.size 41 [.slice none 0 0, .int .i64 0] ∧ Below w.heap.size w wr) (fun _ kv _ => t - (intOf kv).toNat)
 case atStart => exact ⟨0, 0, none, by omega, rfl, rfl, ⟨rfl, .inl ⟨rfl, rfl⟩⟩, hB0, hb⟩
 case round =>
  clear hb hB0;obtain ⟨k, c6, A6, hk, rfl, rfl, hOW, hB0, hb⟩ := hrel;have h0l := hB0.lt
  rcases Nat.lt_or_ge k t with hlt | hlt
  ·have HAQ : Hid ((List.replicate (k + 1) (0 : Int)).map I64 = (List.replicate k (0 : Int)).map I64 ++ [.int .i64 0]) := by
    show _ = _
    rw [List.replicate_succ', List.map_append]
    rfl
   go_upto_region 5 with fail;refine jp ?_;refine jm (.int .i64 (k : Int)) ?_;refine jm (.int .i64 (t : Int)) ?_;refine jv (.bool true) (exec_lss _ _ _ _ (by rfl) .i64 (k : Int) (t : Int) (by rfl) (by rfl) true (decide_eq_true (by omega))) ?_;refine jzb hb fun X1 hX1 hb => ?_;have hOW := own_since hOW hX1;replace hB0 := hB0.bel hX1;clear hX1;have h0l := hB0.lt;go_upto_region 7 with fail
   have hbA : (w.heap.size + 1) ≤ X1.heap.size := by omega
   have hn_hB0 : (Value.ownBlock (.slice A6 k c6)) ≠ some w.heap.size := fun h9 => by have h8 := own_base hOW _ h9; omega
   refine la_plain (⟨(w.heap.size + 1), 3, 1, .slice A6 k c6, k, ((List.replicate k (0 : Int)).map I64), [.int .i64 0]⟩ : Ar) 2 [none, some (Anew (⟨(w.heap.size + 1), 3, 1, .slice A6 k c6, k, ((List.replicate k (0 : Int)).map I64), [.int .i64 0]⟩ : Ar) 3), some (Aout (⟨(w.heap.size + 1), 3, 1, .slice A6 k c6, k, ((List.replicate k (0 : Int)).map I64), [.int .i64 0]⟩ : Ar))] (la_none (la_some (fun v X Y h hR => Anew.lasts v X Y h hR) (la_some (fun v X Y h hR => Aout.lasts v X Y h hR) (la_nil)))) ?_;simp only [iB, Nat.reduceAdd];refine am (.slice A6 k c6) ?_;refine ab hOW 3 (fun X => by unfold execOp; go_simp) ?_;intro v18;refine aa hOW hbA 3 1 v18 List.mem_cons_self Tryz.underlying22 info_i1z rfl (show 0 < 1 by decide) (by rfl) (by intro u hu; simp only [List.mem_cons, List.not_mem_nil, or_false] at hu; rcases hu with rfl <;> rfl) (show k + 1 ≤ maxLen by unfold maxLen; omega) (show (k + 1) * 8 ≤ 140737488355328 by omega) ?_;intro v19;refine am (v19) ?_;refine az hOW hbA ?_;intro X2 σ hX hF;have hO19 : X2.ownsRow (w.heap.size + 1) 3 1 v19 (k + 1) (((List.replicate k (0 : Int)).map I64) ++ [.int .i64 0]) := (hF _ _ List.mem_cons_self).2;have hB0 := hX.blk hB0 hn_hB0;have hb := hb.trans (hX.below.mono (show w.heap.size ≤ (w.heap.size + 1) by omega));clear hF hn_hB0;obtain ⟨A7, c7, rfl, _, _⟩ := (Rd.of_own hO19).form
   have hOW : X2.ownsRow (w.heap.size + 1) 3 1 (.slice A7 (k + 1) c7) (k + 1) ((List.replicate (k + 1) (0 : Int)).map I64) := by rw [HAQ.out]; exact hO19
   clear hO19;go_upto_region 6 with fail;refine jp ?_;refine jm (.int .i64 (k : Int)) ?_;refine jv (.int .i64 ((k + 1 : Nat) : Int)) (exec_add _ _ _ _ (by rfl) (k : Int) 1 ((k + 1 : Nat) : Int) (by rfl) (by rfl) (by omega) (by omega) (by omega)) ?_;refine jm (.int .i64 ((k + 1 : Nat) : Int)) ?_;refine jzb hb fun X3 hX3 hb => ?_;have hOW := own_since hOW hX3;replace hB0 := hB0.bel hX3;clear hX3
   go_wp2
   go_roundw
   case rel => exact ⟨k + 1, c7, A7, by omega, rfl, rfl, hOW, hB0, hb⟩
   case measure => simp [intOf]; omega
  ·obtain rfl : k = t := by omega
   have HLD := Lib.hid (dly_len k);go_upto_region 5 with fail;refine jp ?_;refine jm (.int .i64 (k : Int)) ?_;refine jm (.int .i64 (k : Int)) ?_;refine jv (.bool false) (exec_lss _ _ _ _ (by rfl) .i64 (k : Int) (k : Int) (by rfl) (by rfl) false (decide_eq_false (by omega))) ?_;refine jzb hb fun X1 hX1 hb => ?_;have hOW := own_since hOW hX1;replace hB0 := hB0.bel hX1;clear hX1;have h0l := hB0.lt;go_upto_region 8 with fail
   have hbA : (w.heap.size + 1) ≤ X1.heap.size := by omega
   have hn_hB0 : (Value.ownBlock (.slice A6 k c6)) ≠ some w.heap.size := fun h9 => by have h8 := own_base hOW _ h9; omega
   refine la_plain_to 3 (⟨(w.heap.size + 1), 3, 1, .slice A6 k c6, k, ((List.replicate k (0 : Int)).map I64), [.int .i64 1]⟩ : Ar) 2 [none, some (Anew (⟨(w.heap.size + 1), 3, 1, .slice A6 k c6, k, ((List.replicate k (0 : Int)).map I64), [.int .i64 1]⟩ : Ar) 3), some (Aout (⟨(w.heap.size + 1), 3, 1, .slice A6 k c6, k, ((List.replicate k (0 : Int)).map I64), [.int .i64 1]⟩ : Ar))] (la_none (la_some (fun v X Y h hR => Anew.lasts v X Y h hR) (la_some (fun v X Y h hR => Aout.lasts v X Y h hR) (la_nil)))) ?_;simp only [iB, List.take, List.drop, Nat.reduceAdd];refine am (.slice A6 k c6) ?_;refine ab hOW 3 (fun X => by unfold execOp; go_simp) ?_;intro v21;refine aa hOW hbA 3 1 v21 List.mem_cons_self Tryz.underlying22 info_i1z rfl (show 0 < 1 by decide) (by rfl) (by intro u hu; simp only [List.mem_cons, List.not_mem_nil, or_false] at hu; rcases hu with rfl <;> rfl) (show k + 1 ≤ maxLen by unfold maxLen; omega) (show (k + 1) * 8 ≤ 140737488355328 by omega) ?_;intro v22;refine az hOW hbA ?_;intro X2 σ hX hF;have hO22 : X2.ownsRow (w.heap.size + 1) 3 1 v22 (k + 1) (((List.replicate k (0 : Int)).map I64) ++ [.int .i64 1]) := (hF _ _ List.mem_cons_self).2;have hB0 := hX.blk hB0 hn_hB0;have hb := hb.trans (hX.below.mono (show w.heap.size ≤ (w.heap.size + 1) by omega));clear hF hn_hB0;obtain ⟨A7, c7, rfl, _, _⟩ := (Rd.of_own hO22).form;rw [dly_app] at hO22
   go_wp2_with (refine osb 41 2 24 w.heap.size 41 hB0 [.slice A7 (k + 1) c7, .int .i64 0] info_md31 ?_)
   intro w9 hR9 hO9 hB9 hs9;have hb9 := hB9 _ _ hb (by omega);have hO8 := hO9;clear hO9 hB9
   go_wp2
   refine post_cell rfl rfl (by rfl) Tryz.underlying41 rfl hR9 info_md31 ⟨_, rfl, by show World.ownsRow _ _ _ _ _ _ _; rw [HLD.out]; exact own_blkK (Y := w9) hO22 (fun g t zs hg hz => hO8 _ _ _ (by have := own_base hO22 _ hg; omega) hz), hb9⟩
end Go.Proofs.YtcpedbpldgndmaaGreatDoor
