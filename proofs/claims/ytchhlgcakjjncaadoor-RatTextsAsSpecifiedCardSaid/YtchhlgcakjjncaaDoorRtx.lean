/-
  The reference: Text.
-/
import Derived.Test.YtchhlgcakjjncaaDoorMH
import Derived.Test.YtchhlgcakjjncaaDoorMF
set_option linter.unusedSimpArgs false
set_option linter.unusedVariables false
set_option maxRecDepth 100000
set_option maxHeartbeats 1600000
namespace Go.Proofs.YtchhlgcakjjncaaDoor
open Go.RowKit

theorem load_str (b k : Nat) (X : World) (v : Value) (h : X.cell? ⟨b, k, none⟩ = some v) : (loadVar 9 ⟨b, k, none⟩).run Tryd.prog X = .ok v X := by
  go_simp
theorem dgt_be (x : Nat) : dgt (be x) 0 = x % 256 := by
  have h := lo_succ (be x) 0
  rw [lo_mod, lo_zero, Nat.pow_zero, Nat.one_mul, Nat.zero_add, val_be, Nat.zero_add, Nat.pow_one] at h
  exact h.symm
theorem ten : val [10] = 10 := rfl
theorem rtextE (a : List UInt8) (w : World) (ha : a.length ≤ 4194300) (h0 : val a = 0) : Calls Tryd.prog 49 #[.string ⟨a.toArray⟩] w fun e w' => e = .returned (.string ⟨(txt (val a)).toArray⟩) ∧ Since w w' := by
  have la := be_val_len a
  have HE : Hid (be (val a) = []) := be_nil.2 h0
  have HX : Hid (txt (val a) = [48]) := by show _ = _; unfold txt; rw [if_pos h0]
  clear h0
  go_enter Tryd.func49, Tryd.ntmps49
  go_upto_region 1 with (fail)
  refine jp ?_
  refine jm (st a) ?_
  refine jc (st (be (val a))) (fun X hX hF => rcleanC a X (by omega)) ?_
  refine jm (st (be (val a))) ?_
  refine jz fun X1 hX1 => ?_
  have hb : Below w.heap.size w X1 := hX1
  clear hX1
  go_upto_region 2 with (fail)
  refine jp ?_
  refine jm (st (be (val a))) ?_
  refine jv (.bool true) (exec_eqsB _ _ _ _ (by rfl) (be (val a)) ([] : List UInt8) (by rfl) (by rfl) true (eqs_t HE.out)) ?_
  refine jz fun X2 hX2 => ?_
  have hb := bel_next hb hX2
  clear hX2
  go_wp2
  go_ret
  exact ⟨by rw [HX.out]; rfl, hb⟩

theorem rtextP (a : List UInt8) (w : World) (ha : a.length ≤ 4194300) (h0 : 0 < val a) : Calls Tryd.prog 49 #[.string ⟨a.toArray⟩] w fun e w' => e = .returned (.string ⟨(txt (val a)).toArray⟩) ∧ Since w w' := by
  have la := be_val_len a
  have ht := txd_of_bytes (val_lt a)
  have HE : Hid (be (val a) ≠ []) := be_ne h0
  have HX : Hid (txt (val a) = (txd (val a)).reverse) := by show _ = _; unfold txt; rw [if_neg (by omega)]
  obtain ⟨N, hN⟩ : ∃ N, val a = N := ⟨_, rfl⟩
  have HN := Lib.hid hN
  have hNb : (be N).length ≤ 4194300 := by rw [← hN]; omega
  have htN : (txd N).length ≤ 3 * a.length := by rw [← hN]; exact ht
  clear hN ht
  go_enter Tryd.func49, Tryd.ntmps49
  go_upto_region 1 with (fail)
  refine jp ?_
  refine jm (st a) ?_
  refine jc (st (be (val a))) (fun X hX hF => rcleanC a X (by omega)) ?_
  refine jm (st (be (val a))) ?_
  refine jz fun X1 hX1 => ?_
  have hb : Below w.heap.size w X1 := hX1
  clear hX1
  go_upto_region 2 with (fail)
  refine jp ?_
  refine jm (st (be (val a))) ?_
  refine jv (.bool false) (exec_eqsB _ _ _ _ (by rfl) (be (val a)) ([] : List UInt8) (by rfl) (by rfl) false (eqs_f HE.out)) ?_
  refine jz fun X2 hX2 => ?_
  have hb := bel_next hb hX2
  clear hX2
  rw [HN.out]
  go_wp2
  go_loopw [3, 4] (fun xv ov wr => ∃ (m : Nat) (l : List UInt8), xv = .string ⟨(be m).toArray⟩ ∧ ov = .string ⟨l.toArray⟩ ∧ m ≤ N ∧ (txd N).reverse = (txd m).reverse ++ l ∧ Below w.heap.size w wr) (fun xv _ _ => match xv with | .string s => val s.data.toList | _ => 0)
  case atStart => exact ⟨N, [], rfl, rfl, Nat.le_refl _, by rw [List.append_nil], hb⟩
  case round =>
    clear hb
    obtain ⟨m, l, rfl, rfl, hm, htx, hb⟩ := hrel
    have hll : l.length ≤ 12582900 := by
      have := congrArg List.length htx
      rw [List.length_append, List.length_reverse] at this
      omega
    have HTX := Lib.hid htx
    clear htx
    rcases Nat.eq_zero_or_pos m with h1 | h1
    · have HE2 : Hid (be m = []) := be_nil.2 h1
      have HT : Hid (txt (val a) = l) := by show _ = _; rw [HX.out, HN.out, HTX.out, h1, txd_zero]; rfl
      clear h1
      go_upto_region 5 with (fail)
      refine jp ?_
      refine jm (st (be m)) ?_
      refine jv (.bool false) (exec_nesB _ _ _ _ (by rfl) (be m) ([] : List UInt8) (by rfl) (by rfl) false (nes_f HE2.out)) ?_
      refine jz fun X1 hX1 => ?_
      have hb := bel_next hb hX1
      clear hX1
      go_upto_region 9 with (fail)
      refine jp ?_
      refine jm (st l) ?_
      refine jm (st l) ?_
      refine jz fun X2 hX2 => ?_
      have hb := bel_next hb hX2
      clear hX2
      go_wp2
      go_ret
      exact ⟨by rw [HT.out]; rfl, hb⟩
    · have HE2 : Hid (be m ≠ []) := be_ne h1
      have hml := be_mono hm
      have hmd := Nat.mod_lt m (show 0 < 10 by omega)
      have hmr := be_mono (Nat.mod_le m 10)
      have hlt := Nat.div_lt_self h1 (show 1 < 10 by omega)
      have HTX2 : Hid ((txd N).reverse = (txd (m / 10)).reverse ++ ([UInt8.ofNat (48 + m % 10)] ++ l)) := by
        show _ = _
        rw [HTX.out, txd_step h1, List.reverse_cons, List.append_assoc]
      have HDG : Hid (dgt (be (m % 10)) 0 = m % 10) := by show _ = _; rw [dgt_be]; omega
      go_upto_region 5 with (fail)
      refine jp ?_
      refine jm (st (be m)) ?_
      refine jv (.bool true) (exec_nesB _ _ _ _ (by rfl) (be m) ([] : List UInt8) (by rfl) (by rfl) true (nes_t HE2.out)) ?_
      refine jz fun X1 hX1 => ?_
      have hb := bel_next hb hX1
      clear hX1
      go_upto_region 6 with (fail)
      refine jq 2 ?_
      refine jm (st (be m)) ?_
      refine jc (.agg #[st (be (m / 10)), st (be (m % 10)), .int .i64 0]) (fun X hX hF => mo (rdivC (be m) [10] X (by omega) (by simp only [List.length_cons, List.length_nil]; omega) (by rw [ten]; omega)) (by simp only [val_be, ten])) ?_
      refine jz fun X2 hX2 => ?_
      have hb := bel_next hb hX2
      clear hX2
      have hbs := hb.size
      go_upto_region 7 with (refine osn 115 5 13 #[.string ⟨(be (m / 10)).toArray⟩, .string ⟨(be (m % 10)).toArray⟩, .int .i64 0] info_div ?_)
      have hD : Blk (X2.alloc (.cells #[.string ⟨(be (m / 10)).toArray⟩, .string ⟨(be (m % 10)).toArray⟩, .int .i64 0] 115)) X2.heap.size 115 [.string ⟨(be (m / 10)).toArray⟩, .string ⟨(be (m % 10)).toArray⟩, .int .i64 0] := Blk.new rfl
      have hb := bel_alloc hb (.cells #[.string ⟨(be (m / 10)).toArray⟩, .string ⟨(be (m % 10)).toArray⟩, .int .i64 0] 115)
      generalize X2.alloc (.cells #[.string ⟨(be (m / 10)).toArray⟩, .string ⟨(be (m % 10)).toArray⟩, .int .i64 0] 115) = Y2 at hD hb ⊢
      refine lx_plain [none, none, none, none, none, some (Bts [UInt8.ofNat (48 + m % 10)])] (lasts_none (lasts_none (lasts_none (lasts_none (lasts_none (lasts_some (Bts.lasts _) (lasts_nil))))))) ?_
      simp only [iX, Nat.reduceAdd]
      refine jn (.pointer (some ⟨X2.heap.size, 1, none⟩)) ?_
      refine jf (st (be (m % 10))) hD 1 load_str ?_
      refine jc (.int .i64 ((m % 10 : Nat) : Int)) (fun X hX hF => mo (rdigitC (be (m % 10)) 0 X (by omega)) (by rw [HDG.out])) ?_
      refine jv (.int .i64 ((48 + m % 10 : Nat) : Int)) (exec_add _ _ _ _ (by rfl) 48 ((m % 10 : Nat) : Int) ((48 + m % 10 : Nat) : Int) (by rfl) (by rfl) (by omega) (by omega) (by omega)) ?_
      refine jv (.int .u8 ((48 + m % 10 : Nat) : Int)) (exec_cnv _ _ .i64 .u8 Tryd.underlying3 Tryd.underlying5 _ (by rfl) ((48 + m % 10 : Nat) : Int) ((48 + m % 10 : Nat) : Int) (by rfl) (by rw [w8 (by omega) (by omega)])) ?_
      refine lx_new (by rfl) (fun X hX hF => ⟨_, _, exec_bs8 _ (by rfl) _ (by rfl) X, Bts.new1 X _ (UInt8.ofNat (48 + m % 10)) (by rw [u8n]; omega), since_alloc X _⟩) ?_
      intro v19
      simp only [pX]
      refine jg (st [UInt8.ofNat (48 + m % 10)]) (fun X hX hF => by obtain ⟨A9, c9, h9, hr9⟩ := (hF _ _ List.mem_cons_self rfl); subst h9; exact exec_str _ _ 5 Tryd.underlying106 Tryd.underlying5 Tryd.underlying9 _ (by rfl) (by rfl) hr9) ?_
      refine jm (st l) ?_
      refine jv (st ([UInt8.ofNat (48 + m % 10)] ++ l)) (exec_cat _ _ _ _ (by rfl) [UInt8.ofNat (48 + m % 10)] l (by rfl) (by rfl) (by simp only [List.length_append, List.length_cons, List.length_nil]; omega)) ?_
      refine jm (st ([UInt8.ofNat (48 + m % 10)] ++ l)) ?_
      refine lx_nil ?_
      intro X3 hX3 hF
      have hv19 := hF _ _ List.mem_cons_self
      have hD := hD.bel hX3
      have hb := bel_next hb hX3
      clear hF hX3
      clear hv19
      go_upto_region 8 with (fail)
      refine jp ?_
      refine jn (.pointer (some ⟨X2.heap.size, 0, none⟩)) ?_
      refine jf (st (be (m / 10))) hD 0 load_str ?_
      refine jm (st (be (m / 10))) ?_
      refine jz fun X4 hX4 => ?_
      have hD := hD.bel hX4
      have hb := bel_next hb hX4
      clear hX4
      go_wp2
      go_roundw
      case rel => exact ⟨m / 10, [UInt8.ofNat (48 + m % 10)] ++ l, rfl, rfl, by omega, HTX2.out, hb⟩
      case measure =>
        show val (be (m / 10)) < val (be m)
        rw [val_be, val_be]
        exact hlt
theorem rtextC (a : List UInt8) (w : World) (ha : a.length ≤ 4194300) : Calls Tryd.prog 49 #[.string ⟨a.toArray⟩] w fun e w' => e = .returned (.string ⟨(txt (val a)).toArray⟩) ∧ Since w w' := by
  rcases Nat.eq_zero_or_pos (val a) with h | h
  · exact rtextE a w ha h
  · exact rtextP a w ha h

end Go.Proofs.YtchhlgcakjjncaaDoor
