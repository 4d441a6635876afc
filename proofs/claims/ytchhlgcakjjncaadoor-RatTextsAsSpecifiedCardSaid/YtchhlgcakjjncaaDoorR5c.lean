/-
  The reference of layer 5: sums and texts.
-/
import Derived.Test.YtchhlgcakjjncaaDoorR5a
import Derived.Test.YtchhlgcakjjncaaDoorS05
import Derived.Test.YtchhlgcakjjncaaDoorMI
import Derived.Test.YtchhlgcakjjncaaDoorRtx
import Derived.Test.YtchhlgcakjjncaaDoorRpa
set_option linter.unusedSimpArgs false
set_option linter.unusedVariables false
set_option maxRecDepth 100000
set_option maxHeartbeats 1600000
namespace Go.Proofs.YtchhlgcakjjncaaDoor
open Go.RowKit

theorem info_made4 : (Tryd.prog.info? 89).map (·.size) = some 2 := by kernel_rfl
theorem info_made5 : (Tryd.prog.info? 32).map (·.size) = some 4 := by kernel_rfl
theorem sumS0 (A : Option Addr) (n c : Nat) (l : List Tr) (B : Nat) (w : World) (hr : Rd w 3 (.slice A n c) n (fl trc l)) (h1 : 1 ≤ B) (hlb : ∀ t ∈ l, t.2.1.length ≤ B ∧ t.2.2.length ≤ B) (hn : n * (B + 1) + 1 ≤ 1000000) (hB : B ≤ 1000000) : Calls Tryd.prog 18 #[.slice A n c] w fun e w' => e = .returned (rbv (sumR l)) ∧ Since w w' := by
  have hn9 : n ≤ 1000000 := by
    have h9 := Nat.mul_le_mul_left n (show 1 ≤ B + 1 by omega)
    omega
  have hln : l.length = n := by
    have h9 := hr.len
    rw [fl_len (m := 3) (fun x _ => trc_len x)] at h9
    omega
  have HRX : Hid (∀ X, Since w X → Rd X 3 (.slice A n c) n (fl trc l)) := fun X h => hr.below h
  have HLN := Lib.hid hln
  have HB := Lib.hid hlb
  clear hln hr hlb
  go_enter Tryd.func18, Tryd.ntmps18
  go_upto_region 1 with (fail)
  obtain ⟨W0, hW0, hB0, hb⟩ := start1 w 26 [.bool false, .string ⟨#[]⟩, .string ⟨#[]⟩]
  rw [← hW0]
  clear hW0
  refine jq 1 ?_
  refine jn (rz) ?_
  refine jz fun X1 hX1 => ?_
  have hB0 := hB0.bel hX1
  have hb := bel_next hb hX1
  clear hX1
  go_upto_region 2 with (refine osn 26 3 5 #[.bool false, .string ⟨#[]⟩, .string ⟨#[]⟩] info_rat ?_)
  obtain ⟨Y1, hY9, hD3, hS9⟩ := start1 X1 26 [.bool false, .string ⟨#[]⟩, .string ⟨#[]⟩]
  rw [← hY9]
  clear hY9
  have hgs3 := hb.size
  have hlt3x0 := hB0.lt
  have hB0 := hB0.bel hS9
  have hb := bel_next hb hS9
  clear hS9
  generalize X1.heap.size = g3 at *
  refine jp ?_
  refine jm (.int .i64 0) ?_
  refine jz fun X2 hX2 => ?_
  have hB0 := hB0.bel hX2
  have hD3 := hD3.bel hX2
  have hb := bel_next hb hX2
  clear hX2
  go_wp2
  have hg30 : w.heap.size < g3 := hlt3x0
  go_loopw [4] (fun kv wr => ∃ k : Nat, k ≤ n ∧ kv = .int .i64 (k : Int) ∧ Blk wr g3 26 [.bool (rN (sumR (l.take k))), .string ⟨(rP (sumR (l.take k))).toArray⟩, .string ⟨(rD (sumR (l.take k))).toArray⟩] ∧ Blk wr w.heap.size 26 [.bool false, .string ⟨#[]⟩, .string ⟨#[]⟩] ∧ Below w.heap.size w wr) (fun kv _ => n - (intOf kv).toNat)
  case atStart => exact ⟨0, by omega, rfl, hD3, hB0, hb⟩
  case round =>
    clear hB0 hD3 hb
    obtain ⟨k, hk, rfl, hD3, hB0, hb⟩ := hrel
    rcases Nat.lt_or_ge k n with hlt | hlt
    · obtain ⟨b, off, x, rfl, hbb, hcx, hxl, hdrop⟩ := (HRX.out _ hb).atF (m := 3) (fun x _ => trc_len x) (by omega) (k := k) (by rw [HLN.out]; exact hlt)
      have hS : szR (sumR (l.take k)) 1000000 := (sum_sz h1 HB.out k).mono (by have := Nat.mul_le_mul_right (B + 1) hk; omega)
      have hx1 := HB.out x hxl
      have HNX : Hid (sumR (l.take (k + 1)) = (sumR (l.take k)) + trq x) := by
        show _ = _
        have hk2 : k < l.length := by rw [HLN.out]; exact hlt
        have h9 := hdrop.out
        rw [List.drop_eq_getElem_cons hk2] at h9
        injection h9 with h9 _
        rw [take_snoc hk2, sumR_snoc, h9]
      have hgw := hD3.lt
      go_upto_region 3 with (fail)
      refine jp ?_
      refine jm (.int .i64 (k : Int)) ?_
      refine jm (.slice (some ⟨b, off, none⟩) n c) ?_
      refine jv (.int .i64 (n : Int)) (exec_lenv Tryd.underlying22 _ (by rfl) (some ⟨b, off, none⟩) n c (by rfl) _ rfl) ?_
      refine jv (.bool true) (exec_lss _ _ _ _ (by rfl) .i64 (k : Int) (n : Int) (by rfl) (by rfl) true (decide_eq_true (by omega))) ?_
      refine jz fun X1 hX1 => ?_
      have hcx := hcx.below hX1 hbb
      have hbb := Nat.lt_of_lt_of_le hbb (hX1).size
      have hD3 := hD3.bel hX1
      have hB0 := hB0.bel hX1
      have hb := bel_next hb hX1
      clear hX1
      go_upto_region 5 with (fail)
      refine lx_region_tail [] (by kernel_rfl) (by kernel_rfl) (by kernel_rfl) rfl (lasts_nil) ?_
      simp only [its, List.dropLast, Nat.zero_add, Nat.reduceAdd]
      refine ja hD3 Tryd.underlying26 (by rfl) info_rat ?_
      refine jm (.slice (some ⟨b, off, none⟩) n c) ?_
      refine jm (.int .i64 (k : Int)) ?_
      refine jv (.pointer (some ⟨b, off + k * 3, none⟩)) (exec_ixv Tryd.underlying22 info_rat _ _ (by rfl) b off n c k (by omega) (by rfl) (by rfl) rfl) ?_
      refine jg (.agg #[.bool x.1, st x.2.1, st x.2.2]) (fun X hX hF => exec_ldc 26 _ (by rfl) b (off + k * 3) (by rfl) Tryd.underlying26 rfl (trc x) X (hcx.below hX hbb) info_rat) ?_
      refine jc (.agg #[.bool (rN ((sumR (l.take k)) + trq x)), st (rP ((sumR (l.take k)) + trq x)), st (rD ((sumR (l.take k)) + trq x))]) (fun X hX hF => addS (rN (sumR (l.take k))) (rP (sumR (l.take k))) (rD (sumR (l.take k))) x.1 x.2.1 x.2.2 (rq_rb _) rfl X (tzR hS (by omega)) ⟨by omega, by omega⟩) ?_
      refine jz fun X2 hX2 => ?_
      have hcx := hcx.below hX2 hbb
      have hbb := Nat.lt_of_lt_of_le hbb (hX2).size
      have hD3 := hD3.bel hX2
      have hB0 := hB0.bel hX2
      have hb := bel_next hb hX2
      clear hX2
      refine osb 26 3 17 g3 26 hD3 [.bool (rN ((sumR (l.take k)) + trq x)), .string ⟨(rP ((sumR (l.take k)) + trq x)).toArray⟩, .string ⟨(rD ((sumR (l.take k)) + trq x)).toArray⟩] info_rat ?_
      intro w9 hR9 hO9 hB9 hs9
      have hb := hB9 _ _ hb (by omega)
      have hB0 := hO9 _ _ _ (by omega) hB0
      rw [← HNX.out] at hR9
      clear hO9 hB9 hD3
      go_upto_region 4 with (fail)
      refine jp ?_
      refine jm (.int .i64 (k : Int)) ?_
      refine jv (.int .i64 ((k + 1 : Nat) : Int)) (exec_add _ _ _ _ (by rfl) (k : Int) 1 ((k + 1 : Nat) : Int) (by rfl) (by rfl) (by omega) (by omega) (by omega)) ?_
      refine jm (.int .i64 ((k + 1 : Nat) : Int)) ?_
      refine jz fun X3 hX3 => ?_
      have hB0 := hB0.bel hX3
      have hR9 := hR9.bel hX3
      have hb := bel_next hb hX3
      clear hX3
      go_wp2
      go_roundw
      case rel => exact ⟨k + 1, by omega, rfl, hR9, hB0, hb⟩
      case measure => simp [intOf]; omega
    · obtain rfl : k = n := by omega
      have HT : Hid (l.take k = l) := List.take_of_length_le (by rw [HLN.out]; exact Nat.le_refl _)
      rw [HT.out] at hD3
      have hgw := hD3.lt
      go_upto_region 3 with (fail)
      refine jp ?_
      refine jm (.int .i64 (k : Int)) ?_
      refine jm (.slice A k c) ?_
      refine jv (.int .i64 (k : Int)) (exec_lenv Tryd.underlying22 _ (by rfl) A k c (by rfl) _ rfl) ?_
      refine jv (.bool false) (exec_lss _ _ _ _ (by rfl) .i64 (k : Int) (k : Int) (by rfl) (by rfl) false (decide_eq_false (by omega))) ?_
      refine jz fun X1 hX1 => ?_
      have hD3 := hD3.bel hX1
      have hB0 := hB0.bel hX1
      have hb := bel_next hb hX1
      clear hX1
      go_upto_region 6 with (fail)
      refine jq 1 ?_
      refine ja hD3 Tryd.underlying26 (by rfl) info_rat ?_
      refine jz fun X2 hX2 => ?_
      have hD3 := hD3.bel hX2
      have hB0 := hB0.bel hX2
      have hb := bel_next hb hX2
      clear hX2
      refine osb 26 2 18 w.heap.size 26 hB0 [.bool (rN (sumR l)), .string ⟨(rP (sumR l)).toArray⟩, .string ⟨(rD (sumR l)).toArray⟩] info_rat ?_
      intro w9 hR9 hO9 hB9 hs9
      have hb9 := hB9 _ _ hb (by omega)
      clear hO9 hB9
      go_wp2
      refine post_cell rfl rfl (by rfl) Tryd.underlying26 rfl hR9 info_rat ⟨rfl, hb9⟩

theorem sumS (v : Value) (l : List Tr) (B : Nat) (w : World) (h : Rl l v w) (h1 : 1 ≤ B) (hlb : ∀ t ∈ l, t.2.1.length ≤ B ∧ t.2.2.length ≤ B) (hn : l.length * (B + 1) + 1 ≤ 1000000) (hB : B ≤ 1000000) : Calls Tryd.prog 18 #[v] w fun e w' => e = .returned (rbv (sumR l)) ∧ Since w w' := by
  obtain ⟨A, c, rfl, _⟩ := Rd.form h
  exact sumS0 A _ c l B w h h1 hlb hn hB
theorem text5_true_1 (n : Bool) (p q : List UInt8) (x : Rat) (HX : Hid (rq n p q = x)) (w : World) (h : tz p q 1000000) (sx : szR x 1000000) (HM : Hid (rN x = true)) (HE : Hid (be x.den = [1])) (HT : Hid (rtx x = 45 :: txt x.num.natAbs)) : Calls Tryd.prog 14 #[.agg #[.bool n, .string ⟨p.toArray⟩, .string ⟨q.toArray⟩]] w fun e w' => e = .returned (.string ⟨(rtx x).toArray⟩) ∧ Since w w' := by
  have ltP := txt_lenB sx.1
  have ltD := txt_lenB sx.2
  have lP := sx.1
  have lD := sx.2
  go_enter Tryd.func14, Tryd.ntmps14
  go_upto_region 1 with (fail)
  obtain ⟨W0, hW0, hB0, hb⟩ := start1 w 26 [.bool n, .string ⟨p.toArray⟩, .string ⟨q.toArray⟩]
  rw [← hW0]
  clear hW0
  refine jq 2 ?_
  refine ja hB0 Tryd.underlying26 (by rfl) info_rat ?_
  refine jc (rt true (rP x) (rD x)) (fun X hX hF => mo (cleanS n p q HX.out X h) (by rw [rbv_n HM.out])) ?_
  refine jz fun X1 hX1 => ?_
  have hB0 := hB0.bel hX1
  have hb := bel_next hb hX1
  clear hX1
  go_upto_region 2 with (refine osn 26 3 8 #[.bool true, .string ⟨(rP x).toArray⟩, .string ⟨(rD x).toArray⟩] info_rat ?_)
  obtain ⟨Y1, hY9, hD3, hS9⟩ := start1 X1 26 [.bool true, .string ⟨(rP x).toArray⟩, .string ⟨(rD x).toArray⟩]
  rw [← hY9]
  clear hY9
  have hgs3 := hb.size
  have hlt3x0 := hB0.lt
  have hB0 := hB0.bel hS9
  have hb := bel_next hb hS9
  clear hS9
  generalize X1.heap.size = g3 at *
  refine jp ?_
  refine ja hD3 Tryd.underlying26 (by rfl) info_rat ?_
  refine jc (.tuple #[st (be x.num.natAbs), st (be x.den)]) (fun X hX hF => partsN HM.out X) ?_
  refine jm (.tuple #[st (be x.num.natAbs), st (be x.den)]) ?_
  refine jm (st (be x.num.natAbs)) ?_
  refine jm (st (be x.den)) ?_
  refine jm (st (be x.num.natAbs)) ?_
  refine jm (st (be x.den)) ?_
  refine jz fun X2 hX2 => ?_
  have hB0 := hB0.bel hX2
  have hD3 := hD3.bel hX2
  have hb := bel_next hb hX2
  clear hX2
  go_upto_region 3 with (fail)
  refine jp ?_
  refine jm (st (be x.num.natAbs)) ?_
  refine jc (st (txt x.num.natAbs)) (fun X hX hF => mo (rtextC (be x.num.natAbs) X (by omega)) (by rw [val_be])) ?_
  refine jm (st (txt x.num.natAbs)) ?_
  refine jz fun X3 hX3 => ?_
  have hB0 := hB0.bel hX3
  have hD3 := hD3.bel hX3
  have hb := bel_next hb hX3
  clear hX3
  go_upto_region 4 with (fail)
  refine jp ?_
  refine jn (.pointer (some ⟨g3, 0, none⟩)) ?_
  refine jf (.bool true) hD3 0 load_bool ?_
  refine jz fun X4 hX4 => ?_
  have hB0 := hB0.bel hX4
  have hD3 := hD3.bel hX4
  have hb := bel_next hb hX4
  clear hX4
  go_upto_region 5 with (fail)
  refine jp ?_
  refine jm (st (txt x.num.natAbs)) ?_
  refine jv (st (45 :: txt x.num.natAbs)) (exec_cat _ _ _ _ (by rfl) [45] (txt x.num.natAbs) (by rfl) (by rfl) (by simp only [List.length_cons, List.length_nil]; omega)) ?_
  refine jm (st (45 :: txt x.num.natAbs)) ?_
  refine jz fun X5 hX5 => ?_
  have hB0 := hB0.bel hX5
  have hD3 := hD3.bel hX5
  have hb := bel_next hb hX5
  clear hX5
  go_upto_region 6 with (fail)
  refine jp ?_
  refine jm (st (be x.den)) ?_
  refine jv (.bool false) (exec_nesB _ _ _ _ (by rfl) (be x.den) ([1] : List UInt8) (by rfl) (by rfl) false (nes_f HE.out)) ?_
  refine jz fun X6 hX6 => ?_
  have hB0 := hB0.bel hX6
  have hD3 := hD3.bel hX6
  have hb := bel_next hb hX6
  clear hX6
  go_upto_region 8 with (fail)
  refine jp ?_
  refine jm (st (45 :: txt x.num.natAbs)) ?_
  refine jm (st (45 :: txt x.num.natAbs)) ?_
  refine jz fun X7 hX7 => ?_
  have hB0 := hB0.bel hX7
  have hD3 := hD3.bel hX7
  have hb := bel_next hb hX7
  clear hX7
  go_wp2
  go_ret
  exact ⟨by rw [HT.out]; rfl, hb⟩

theorem text5_true_0 (n : Bool) (p q : List UInt8) (x : Rat) (HX : Hid (rq n p q = x)) (w : World) (h : tz p q 1000000) (sx : szR x 1000000) (HM : Hid (rN x = true)) (HE : Hid (be x.den ≠ [1])) (HT : Hid (rtx x = 45 :: (txt x.num.natAbs ++ 47 :: txt x.den))) : Calls Tryd.prog 14 #[.agg #[.bool n, .string ⟨p.toArray⟩, .string ⟨q.toArray⟩]] w fun e w' => e = .returned (.string ⟨(rtx x).toArray⟩) ∧ Since w w' := by
  have ltP := txt_lenB sx.1
  have ltD := txt_lenB sx.2
  have lP := sx.1
  have lD := sx.2
  go_enter Tryd.func14, Tryd.ntmps14
  go_upto_region 1 with (fail)
  obtain ⟨W0, hW0, hB0, hb⟩ := start1 w 26 [.bool n, .string ⟨p.toArray⟩, .string ⟨q.toArray⟩]
  rw [← hW0]
  clear hW0
  refine jq 2 ?_
  refine ja hB0 Tryd.underlying26 (by rfl) info_rat ?_
  refine jc (rt true (rP x) (rD x)) (fun X hX hF => mo (cleanS n p q HX.out X h) (by rw [rbv_n HM.out])) ?_
  refine jz fun X1 hX1 => ?_
  have hB0 := hB0.bel hX1
  have hb := bel_next hb hX1
  clear hX1
  go_upto_region 2 with (refine osn 26 3 8 #[.bool true, .string ⟨(rP x).toArray⟩, .string ⟨(rD x).toArray⟩] info_rat ?_)
  obtain ⟨Y1, hY9, hD3, hS9⟩ := start1 X1 26 [.bool true, .string ⟨(rP x).toArray⟩, .string ⟨(rD x).toArray⟩]
  rw [← hY9]
  clear hY9
  have hgs3 := hb.size
  have hlt3x0 := hB0.lt
  have hB0 := hB0.bel hS9
  have hb := bel_next hb hS9
  clear hS9
  generalize X1.heap.size = g3 at *
  refine jp ?_
  refine ja hD3 Tryd.underlying26 (by rfl) info_rat ?_
  refine jc (.tuple #[st (be x.num.natAbs), st (be x.den)]) (fun X hX hF => partsN HM.out X) ?_
  refine jm (.tuple #[st (be x.num.natAbs), st (be x.den)]) ?_
  refine jm (st (be x.num.natAbs)) ?_
  refine jm (st (be x.den)) ?_
  refine jm (st (be x.num.natAbs)) ?_
  refine jm (st (be x.den)) ?_
  refine jz fun X2 hX2 => ?_
  have hB0 := hB0.bel hX2
  have hD3 := hD3.bel hX2
  have hb := bel_next hb hX2
  clear hX2
  go_upto_region 3 with (fail)
  refine jp ?_
  refine jm (st (be x.num.natAbs)) ?_
  refine jc (st (txt x.num.natAbs)) (fun X hX hF => mo (rtextC (be x.num.natAbs) X (by omega)) (by rw [val_be])) ?_
  refine jm (st (txt x.num.natAbs)) ?_
  refine jz fun X3 hX3 => ?_
  have hB0 := hB0.bel hX3
  have hD3 := hD3.bel hX3
  have hb := bel_next hb hX3
  clear hX3
  go_upto_region 4 with (fail)
  refine jp ?_
  refine jn (.pointer (some ⟨g3, 0, none⟩)) ?_
  refine jf (.bool true) hD3 0 load_bool ?_
  refine jz fun X4 hX4 => ?_
  have hB0 := hB0.bel hX4
  have hD3 := hD3.bel hX4
  have hb := bel_next hb hX4
  clear hX4
  go_upto_region 5 with (fail)
  refine jp ?_
  refine jm (st (txt x.num.natAbs)) ?_
  refine jv (st (45 :: txt x.num.natAbs)) (exec_cat _ _ _ _ (by rfl) [45] (txt x.num.natAbs) (by rfl) (by rfl) (by simp only [List.length_cons, List.length_nil]; omega)) ?_
  refine jm (st (45 :: txt x.num.natAbs)) ?_
  refine jz fun X5 hX5 => ?_
  have hB0 := hB0.bel hX5
  have hD3 := hD3.bel hX5
  have hb := bel_next hb hX5
  clear hX5
  go_upto_region 6 with (fail)
  refine jp ?_
  refine jm (st (be x.den)) ?_
  refine jv (.bool true) (exec_nesB _ _ _ _ (by rfl) (be x.den) ([1] : List UInt8) (by rfl) (by rfl) true (nes_t HE.out)) ?_
  refine jz fun X6 hX6 => ?_
  have hB0 := hB0.bel hX6
  have hD3 := hD3.bel hX6
  have hb := bel_next hb hX6
  clear hX6
  go_upto_region 7 with (fail)
  refine jp ?_
  refine jm (st (45 :: txt x.num.natAbs)) ?_
  refine jv (st (45 :: (txt x.num.natAbs ++ [47]))) (exec_cat _ _ _ _ (by rfl) (45 :: txt x.num.natAbs) [47] (by rfl) (by rfl) (by simp only [List.length_cons, List.length_nil]; omega)) ?_
  refine jm (st (be x.den)) ?_
  refine jc (st (txt x.den)) (fun X hX hF => mo (rtextC (be x.den) X (by omega)) (by rw [val_be])) ?_
  refine jv (st (45 :: (txt x.num.natAbs ++ 47 :: txt x.den))) (fun X => by rw [show 45 :: (txt x.num.natAbs ++ 47 :: txt x.den) = (45 :: (txt x.num.natAbs ++ [47])) ++ txt x.den by simp]; exact exec_cat _ _ _ _ (by rfl) (45 :: (txt x.num.natAbs ++ [47])) (txt x.den) (by rfl) (by rfl) (by simp only [List.length_append, List.length_cons, List.length_nil]; omega) X) ?_
  refine jm (st (45 :: (txt x.num.natAbs ++ 47 :: txt x.den))) ?_
  refine jz fun X7 hX7 => ?_
  have hB0 := hB0.bel hX7
  have hD3 := hD3.bel hX7
  have hb := bel_next hb hX7
  clear hX7
  go_upto_region 8 with (fail)
  refine jp ?_
  refine jm (st (45 :: (txt x.num.natAbs ++ 47 :: txt x.den))) ?_
  refine jm (st (45 :: (txt x.num.natAbs ++ 47 :: txt x.den))) ?_
  refine jz fun X8 hX8 => ?_
  have hB0 := hB0.bel hX8
  have hD3 := hD3.bel hX8
  have hb := bel_next hb hX8
  clear hX8
  go_wp2
  go_ret
  exact ⟨by rw [HT.out]; rfl, hb⟩

theorem text5_false_1 (n : Bool) (p q : List UInt8) (x : Rat) (HX : Hid (rq n p q = x)) (w : World) (h : tz p q 1000000) (sx : szR x 1000000) (HM : Hid (rN x = false)) (HE : Hid (be x.den = [1])) (HT : Hid (rtx x = txt x.num.natAbs)) : Calls Tryd.prog 14 #[.agg #[.bool n, .string ⟨p.toArray⟩, .string ⟨q.toArray⟩]] w fun e w' => e = .returned (.string ⟨(rtx x).toArray⟩) ∧ Since w w' := by
  have ltP := txt_lenB sx.1
  have ltD := txt_lenB sx.2
  have lP := sx.1
  have lD := sx.2
  go_enter Tryd.func14, Tryd.ntmps14
  go_upto_region 1 with (fail)
  obtain ⟨W0, hW0, hB0, hb⟩ := start1 w 26 [.bool n, .string ⟨p.toArray⟩, .string ⟨q.toArray⟩]
  rw [← hW0]
  clear hW0
  refine jq 2 ?_
  refine ja hB0 Tryd.underlying26 (by rfl) info_rat ?_
  refine jc (rt false (rP x) (rD x)) (fun X hX hF => mo (cleanS n p q HX.out X h) (by rw [rbv_n HM.out])) ?_
  refine jz fun X1 hX1 => ?_
  have hB0 := hB0.bel hX1
  have hb := bel_next hb hX1
  clear hX1
  go_upto_region 2 with (refine osn 26 3 8 #[.bool false, .string ⟨(rP x).toArray⟩, .string ⟨(rD x).toArray⟩] info_rat ?_)
  obtain ⟨Y1, hY9, hD3, hS9⟩ := start1 X1 26 [.bool false, .string ⟨(rP x).toArray⟩, .string ⟨(rD x).toArray⟩]
  rw [← hY9]
  clear hY9
  have hgs3 := hb.size
  have hlt3x0 := hB0.lt
  have hB0 := hB0.bel hS9
  have hb := bel_next hb hS9
  clear hS9
  generalize X1.heap.size = g3 at *
  refine jp ?_
  refine ja hD3 Tryd.underlying26 (by rfl) info_rat ?_
  refine jc (.tuple #[st (be x.num.natAbs), st (be x.den)]) (fun X hX hF => partsN HM.out X) ?_
  refine jm (.tuple #[st (be x.num.natAbs), st (be x.den)]) ?_
  refine jm (st (be x.num.natAbs)) ?_
  refine jm (st (be x.den)) ?_
  refine jm (st (be x.num.natAbs)) ?_
  refine jm (st (be x.den)) ?_
  refine jz fun X2 hX2 => ?_
  have hB0 := hB0.bel hX2
  have hD3 := hD3.bel hX2
  have hb := bel_next hb hX2
  clear hX2
  go_upto_region 3 with (fail)
  refine jp ?_
  refine jm (st (be x.num.natAbs)) ?_
  refine jc (st (txt x.num.natAbs)) (fun X hX hF => mo (rtextC (be x.num.natAbs) X (by omega)) (by rw [val_be])) ?_
  refine jm (st (txt x.num.natAbs)) ?_
  refine jz fun X3 hX3 => ?_
  have hB0 := hB0.bel hX3
  have hD3 := hD3.bel hX3
  have hb := bel_next hb hX3
  clear hX3
  go_upto_region 4 with (fail)
  refine jp ?_
  refine jn (.pointer (some ⟨g3, 0, none⟩)) ?_
  refine jf (.bool false) hD3 0 load_bool ?_
  refine jz fun X4 hX4 => ?_
  have hB0 := hB0.bel hX4
  have hD3 := hD3.bel hX4
  have hb := bel_next hb hX4
  clear hX4
  go_upto_region 6 with (fail)
  refine jp ?_
  refine jm (st (be x.den)) ?_
  refine jv (.bool false) (exec_nesB _ _ _ _ (by rfl) (be x.den) ([1] : List UInt8) (by rfl) (by rfl) false (nes_f HE.out)) ?_
  refine jz fun X5 hX5 => ?_
  have hB0 := hB0.bel hX5
  have hD3 := hD3.bel hX5
  have hb := bel_next hb hX5
  clear hX5
  go_upto_region 8 with (fail)
  refine jp ?_
  refine jm (st (txt x.num.natAbs)) ?_
  refine jm (st (txt x.num.natAbs)) ?_
  refine jz fun X6 hX6 => ?_
  have hB0 := hB0.bel hX6
  have hD3 := hD3.bel hX6
  have hb := bel_next hb hX6
  clear hX6
  go_wp2
  go_ret
  exact ⟨by rw [HT.out]; rfl, hb⟩

theorem text5_false_0 (n : Bool) (p q : List UInt8) (x : Rat) (HX : Hid (rq n p q = x)) (w : World) (h : tz p q 1000000) (sx : szR x 1000000) (HM : Hid (rN x = false)) (HE : Hid (be x.den ≠ [1])) (HT : Hid (rtx x = txt x.num.natAbs ++ 47 :: txt x.den)) : Calls Tryd.prog 14 #[.agg #[.bool n, .string ⟨p.toArray⟩, .string ⟨q.toArray⟩]] w fun e w' => e = .returned (.string ⟨(rtx x).toArray⟩) ∧ Since w w' := by
  have ltP := txt_lenB sx.1
  have ltD := txt_lenB sx.2
  have lP := sx.1
  have lD := sx.2
  go_enter Tryd.func14, Tryd.ntmps14
  go_upto_region 1 with (fail)
  obtain ⟨W0, hW0, hB0, hb⟩ := start1 w 26 [.bool n, .string ⟨p.toArray⟩, .string ⟨q.toArray⟩]
  rw [← hW0]
  clear hW0
  refine jq 2 ?_
  refine ja hB0 Tryd.underlying26 (by rfl) info_rat ?_
  refine jc (rt false (rP x) (rD x)) (fun X hX hF => mo (cleanS n p q HX.out X h) (by rw [rbv_n HM.out])) ?_
  refine jz fun X1 hX1 => ?_
  have hB0 := hB0.bel hX1
  have hb := bel_next hb hX1
  clear hX1
  go_upto_region 2 with (refine osn 26 3 8 #[.bool false, .string ⟨(rP x).toArray⟩, .string ⟨(rD x).toArray⟩] info_rat ?_)
  obtain ⟨Y1, hY9, hD3, hS9⟩ := start1 X1 26 [.bool false, .string ⟨(rP x).toArray⟩, .string ⟨(rD x).toArray⟩]
  rw [← hY9]
  clear hY9
  have hgs3 := hb.size
  have hlt3x0 := hB0.lt
  have hB0 := hB0.bel hS9
  have hb := bel_next hb hS9
  clear hS9
  generalize X1.heap.size = g3 at *
  refine jp ?_
  refine ja hD3 Tryd.underlying26 (by rfl) info_rat ?_
  refine jc (.tuple #[st (be x.num.natAbs), st (be x.den)]) (fun X hX hF => partsN HM.out X) ?_
  refine jm (.tuple #[st (be x.num.natAbs), st (be x.den)]) ?_
  refine jm (st (be x.num.natAbs)) ?_
  refine jm (st (be x.den)) ?_
  refine jm (st (be x.num.natAbs)) ?_
  refine jm (st (be x.den)) ?_
  refine jz fun X2 hX2 => ?_
  have hB0 := hB0.bel hX2
  have hD3 := hD3.bel hX2
  have hb := bel_next hb hX2
  clear hX2
  go_upto_region 3 with (fail)
  refine jp ?_
  refine jm (st (be x.num.natAbs)) ?_
  refine jc (st (txt x.num.natAbs)) (fun X hX hF => mo (rtextC (be x.num.natAbs) X (by omega)) (by rw [val_be])) ?_
  refine jm (st (txt x.num.natAbs)) ?_
  refine jz fun X3 hX3 => ?_
  have hB0 := hB0.bel hX3
  have hD3 := hD3.bel hX3
  have hb := bel_next hb hX3
  clear hX3
  go_upto_region 4 with (fail)
  refine jp ?_
  refine jn (.pointer (some ⟨g3, 0, none⟩)) ?_
  refine jf (.bool false) hD3 0 load_bool ?_
  refine jz fun X4 hX4 => ?_
  have hB0 := hB0.bel hX4
  have hD3 := hD3.bel hX4
  have hb := bel_next hb hX4
  clear hX4
  go_upto_region 6 with (fail)
  refine jp ?_
  refine jm (st (be x.den)) ?_
  refine jv (.bool true) (exec_nesB _ _ _ _ (by rfl) (be x.den) ([1] : List UInt8) (by rfl) (by rfl) true (nes_t HE.out)) ?_
  refine jz fun X5 hX5 => ?_
  have hB0 := hB0.bel hX5
  have hD3 := hD3.bel hX5
  have hb := bel_next hb hX5
  clear hX5
  go_upto_region 7 with (fail)
  refine jp ?_
  refine jm (st (txt x.num.natAbs)) ?_
  refine jv (st (txt x.num.natAbs ++ [47])) (exec_cat _ _ _ _ (by rfl) (txt x.num.natAbs) [47] (by rfl) (by rfl) (by simp only [List.length_cons, List.length_nil]; omega)) ?_
  refine jm (st (be x.den)) ?_
  refine jc (st (txt x.den)) (fun X hX hF => mo (rtextC (be x.den) X (by omega)) (by rw [val_be])) ?_
  refine jv (st (txt x.num.natAbs ++ 47 :: txt x.den)) (fun X => by rw [show txt x.num.natAbs ++ 47 :: txt x.den = (txt x.num.natAbs ++ [47]) ++ txt x.den by simp]; exact exec_cat _ _ _ _ (by rfl) (txt x.num.natAbs ++ [47]) (txt x.den) (by rfl) (by rfl) (by simp only [List.length_append, List.length_cons, List.length_nil]; omega) X) ?_
  refine jm (st (txt x.num.natAbs ++ 47 :: txt x.den)) ?_
  refine jz fun X6 hX6 => ?_
  have hB0 := hB0.bel hX6
  have hD3 := hD3.bel hX6
  have hb := bel_next hb hX6
  clear hX6
  go_upto_region 8 with (fail)
  refine jp ?_
  refine jm (st (txt x.num.natAbs ++ 47 :: txt x.den)) ?_
  refine jm (st (txt x.num.natAbs ++ 47 :: txt x.den)) ?_
  refine jz fun X7 hX7 => ?_
  have hB0 := hB0.bel hX7
  have hD3 := hD3.bel hX7
  have hb := bel_next hb hX7
  clear hX7
  go_wp2
  go_ret
  exact ⟨by rw [HT.out]; rfl, hb⟩

theorem textS (n : Bool) (p q : List UInt8) {x : Rat} (hx : rq n p q = x) (w : World) (h : tz p q 1000000) : Calls Tryd.prog 14 #[.agg #[.bool n, .string ⟨p.toArray⟩, .string ⟨q.toArray⟩]] w fun e w' => e = .returned (.string ⟨(rtx x).toArray⟩) ∧ Since w w' := by
  have sx := szR_tz hx h
  rcases hm : rN x with _ | _ <;> by_cases hd : x.den = 1
  · exact text5_false_1 n p q x hx w h sx hm (by rw [hd]; exact be_one) (by show _ = _; unfold rtx; simp [hm, hd])
  · exact text5_false_0 n p q x hx w h sx hm (fun h9 => hd (be_inj (h9.trans be_one.symm))) (by show _ = _; unfold rtx; simp [hm, hd])
  · exact text5_true_1 n p q x hx w h sx hm (by rw [hd]; exact be_one) (by show _ = _; unfold rtx; simp [hm, hd])
  · exact text5_true_0 n p q x hx w h sx hm (fun h9 => hd (be_inj (h9.trans be_one.symm))) (by show _ = _; unfold rtx; simp [hm, hd])

theorem slashS (s : List UInt8) (w : World) (hs : s.length ≤ 1000000) : Calls Tryd.prog 52 #[.string ⟨s.toArray⟩] w fun e w' => e = .returned (.int .i64 ((slash s : Nat) : Int)) ∧ Since w w' := by
  go_enter Tryd.func52, Tryd.ntmps52
  go_upto_region 1 with (fail)
  refine jp ?_
  refine jm (.int .i64 0) ?_
  refine jz fun X1 hX1 => ?_
  have hb : Below w.heap.size w X1 := hX1
  clear hX1
  go_wp2
  go_loopw [3] (fun kv wr => ∃ k : Nat, k ≤ s.length ∧ kv = .int .i64 (k : Int) ∧ Hid (∀ j, j < k → ¬ (s.getD j 0).toNat = 47) ∧ Below w.heap.size w wr) (fun kv _ => s.length - (intOf kv).toNat)
  case atStart => exact ⟨0, by omega, rfl, (fun j hj => by omega), hb⟩
  case round =>
    clear hb
    obtain ⟨k, hk, rfl, HN, hb⟩ := hrel
    rcases Nat.lt_or_ge k s.length with hlt | hlt
    · by_cases hc : (s.getD k 0).toNat = 47
      · have HS : Hid (slash s = k) := slash_eq hlt hc HN.out
        go_upto_region 2 with (fail)
        refine jp ?_
        refine jm (.int .i64 (k : Int)) ?_
        refine jm (st s) ?_
        refine jv (.int .i64 (s.length : Int)) (exec_lens Tryd.underlying9 _ (by rfl) s (by rfl) _ rfl) ?_
        refine jv (.bool true) (exec_lss _ _ _ _ (by rfl) .i64 (k : Int) (s.length : Int) (by rfl) (by rfl) true (decide_eq_true (by omega))) ?_
        refine jz fun X1 hX1 => ?_
        have hb := bel_next hb hX1
        clear hX1
        go_upto_region 4 with (fail)
        refine jp ?_
        refine jm (st s) ?_
        refine jm (.int .i64 (k : Int)) ?_
        refine jv (.int .u8 ((s.getD k 0).toNat : Int)) (exec_chr _ Tryd.underlying9 _ _ (by rfl) s k (by rfl) (by rfl) (by omega) (by omega)) ?_
        refine jv (.bool true) (exec_eqi _ _ _ _ (by rfl) .u8 ((s.getD k 0).toNat : Int) 47 (by rfl) (by rfl) true (decide_eq_true (by omega))) ?_
        refine jz fun X2 hX2 => ?_
        have hb := bel_next hb hX2
        clear hX2
        go_upto_region 5 with (fail)
        refine jp ?_
        refine jm (.int .i64 (k : Int)) ?_
        refine jm (.int .i64 (k : Int)) ?_
        refine jz fun X3 hX3 => ?_
        have hb := bel_next hb hX3
        clear hX3
        go_wp2
        go_ret
        exact ⟨by rw [HS.out]; rfl, hb⟩
      · have HN2 : Hid (∀ j, j < k + 1 → ¬ (s.getD j 0).toNat = 47) := fun j hj => by
          rcases Nat.lt_succ_iff_lt_or_eq.1 hj with h9 | h9
          · exact HN.out j h9
          · rw [h9]; exact hc
        go_upto_region 2 with (fail)
        refine jp ?_
        refine jm (.int .i64 (k : Int)) ?_
        refine jm (st s) ?_
        refine jv (.int .i64 (s.length : Int)) (exec_lens Tryd.underlying9 _ (by rfl) s (by rfl) _ rfl) ?_
        refine jv (.bool true) (exec_lss _ _ _ _ (by rfl) .i64 (k : Int) (s.length : Int) (by rfl) (by rfl) true (decide_eq_true (by omega))) ?_
        refine jz fun X1 hX1 => ?_
        have hb := bel_next hb hX1
        clear hX1
        go_upto_region 4 with (fail)
        refine jp ?_
        refine jm (st s) ?_
        refine jm (.int .i64 (k : Int)) ?_
        refine jv (.int .u8 ((s.getD k 0).toNat : Int)) (exec_chr _ Tryd.underlying9 _ _ (by rfl) s k (by rfl) (by rfl) (by omega) (by omega)) ?_
        refine jv (.bool false) (exec_eqi _ _ _ _ (by rfl) .u8 ((s.getD k 0).toNat : Int) 47 (by rfl) (by rfl) false (decide_eq_false (by omega))) ?_
        refine jz fun X2 hX2 => ?_
        have hb := bel_next hb hX2
        clear hX2
        go_upto_region 3 with (fail)
        refine jp ?_
        refine jm (.int .i64 (k : Int)) ?_
        refine jv (.int .i64 ((k + 1 : Nat) : Int)) (exec_add _ _ _ _ (by rfl) (k : Int) 1 ((k + 1 : Nat) : Int) (by rfl) (by rfl) (by omega) (by omega) (by omega)) ?_
        refine jm (.int .i64 ((k + 1 : Nat) : Int)) ?_
        refine jz fun X3 hX3 => ?_
        have hb := bel_next hb hX3
        clear hX3
        go_wp2
        go_roundw
        case rel => exact ⟨k + 1, by omega, rfl, HN2, hb⟩
        case measure => simp [intOf]; omega
    · obtain rfl : k = s.length := by omega
      have HS : Hid (slash s = s.length) := slash_end HN.out
      go_upto_region 2 with (fail)
      refine jp ?_
      refine jm (.int .i64 (s.length : Int)) ?_
      refine jm (st s) ?_
      refine jv (.int .i64 (s.length : Int)) (exec_lens Tryd.underlying9 _ (by rfl) s (by rfl) _ rfl) ?_
      refine jv (.bool false) (exec_lss _ _ _ _ (by rfl) .i64 (s.length : Int) (s.length : Int) (by rfl) (by rfl) false (decide_eq_false (by omega))) ?_
      refine jz fun X1 hX1 => ?_
      have hb := bel_next hb hX1
      clear hX1
      go_upto_region 6 with (fail)
      refine jp ?_
      refine jm (st s) ?_
      refine jv (.int .i64 (s.length : Int)) (exec_lens Tryd.underlying9 _ (by rfl) s (by rfl) _ rfl) ?_
      refine jm (.int .i64 (s.length : Int)) ?_
      refine jz fun X2 hX2 => ?_
      have hb := bel_next hb hX2
      clear hX2
      go_wp2
      go_ret
      exact ⟨by rw [HS.out]; rfl, hb⟩

end Go.Proofs.YtchhlgcakjjncaaDoor
