/-
  The references: Text, Parse.
-/
import Derived.Test.YtglnabciomlmmaaDoorRin
import Derived.Test.YtglnabciomlmmaaDoorNpa
namespace Go.Proofs.YtglnabciomlmmaaDoor
open Go.RowKit

theorem load_str (b k : Nat) (X : World) (v : Value) (h : X.cell? ⟨b, k, none⟩ = some v) : (loadVar 9 ⟨b, k, none⟩).run Tryd.prog X = .ok v X := by
  go_simp
theorem dgt_be (x : Nat) : dgt (be x) 0 = x % 256 := by
  have h := lo_succ (be x) 0
  rw [lo_mod, lo_zero, Nat.pow_zero, Nat.one_mul, Nat.zero_add, val_be, Nat.zero_add, Nat.pow_one] at h
  exact h.symm
theorem ten : val [10] = 10 := rfl
set_option maxRecDepth 100000 in
set_option maxHeartbeats 1600000 in
theorem rtextE (a : List UInt8) (w : World) (ha : a.length ≤ 4194300) (h0 : val a = 0) : Calls Tryd.prog 33 #[.string ⟨a.toArray⟩] w fun e w' => e = .returned (.string ⟨(txt (val a)).toArray⟩) ∧ Since w w' := by
  have la := be_val_len a
  have HE : Hid (be (val a) = []) := be_nil.2 h0
  have HX : Hid (txt (val a) = [48]) := by show _ = _; unfold txt; rw [if_pos h0]
  clear h0
  go_enter Tryd.func33, Tryd.ntmps33
  go_upto_region 1 with (fail)
  refine lx_plain [] (lasts_nil) ?_
  simp only [its, Nat.zero_add, Nat.reduceAdd]
  refine lx_val (by rfl) (.string ⟨a.toArray⟩) (fun X hX hF => by rfl) ?_
  simp only [Act.put, List.setIfInBounds_toArray, List.set_cons_succ, List.set_cons_zero]
  refine lx_call (by rfl) 17 _ _ (by rfl) (.string ⟨(be (val a)).toArray⟩) [.string ⟨a.toArray⟩] (by rfl) (by kernel_rfl) (fun _ => by go_simp) (fun X hX hF => rcleanC a X (by omega)) ?_
  simp only [Act.put, List.setIfInBounds_toArray, List.set_cons_succ, List.set_cons_zero]
  refine lx_val (by rfl) (.string ⟨(be (val a)).toArray⟩) (fun X hX hF => by rfl) ?_
  simp only [Act.put, List.setIfInBounds_toArray, List.set_cons_succ, List.set_cons_zero]
  refine lx_nil ?_
  intro X1 hX1 hF
  have hb : Below w.heap.size w X1 := hX1
  clear hF hX1
  go_upto_region 2 with (fail)
  refine lx_plain [] (lasts_nil) ?_
  simp only [its, Nat.zero_add, Nat.reduceAdd]
  refine lx_val (by rfl) (.string ⟨(be (val a)).toArray⟩) (fun X hX hF => by rfl) ?_
  simp only [Act.put, List.setIfInBounds_toArray, List.set_cons_succ, List.set_cons_zero]
  refine lx_val (by rfl) (.bool true) (fun X hX hF => exec_eqsB _ _ _ _ (by rfl) (be (val a)) ([] : List UInt8) (by rfl) (by rfl) true (eqs_t HE.out) X) ?_
  simp only [Act.put, List.setIfInBounds_toArray, List.set_cons_succ, List.set_cons_zero]
  refine lx_nil ?_
  intro X2 hX2 hF
  have hb := bel_next hb hX2
  clear hF hX2
  go_wp2
  go_ret
  exact ⟨by rw [HX.out]; rfl, hb⟩

set_option maxRecDepth 100000 in
set_option maxHeartbeats 1600000 in
theorem rtextP (a : List UInt8) (w : World) (ha : a.length ≤ 4194300) (h0 : 0 < val a) : Calls Tryd.prog 33 #[.string ⟨a.toArray⟩] w fun e w' => e = .returned (.string ⟨(txt (val a)).toArray⟩) ∧ Since w w' := by
  have la := be_val_len a
  have ht := txd_of_bytes (val_lt a)
  have HE : Hid (be (val a) ≠ []) := be_ne h0
  have HX : Hid (txt (val a) = (txd (val a)).reverse) := by show _ = _; unfold txt; rw [if_neg (by omega)]
  obtain ⟨N, hN⟩ : ∃ N, val a = N := ⟨_, rfl⟩
  have HN := Lib.hid hN
  have hNb : (be N).length ≤ 4194300 := by rw [← hN]; omega
  have htN : (txd N).length ≤ 3 * a.length := by rw [← hN]; exact ht
  clear hN ht
  go_enter Tryd.func33, Tryd.ntmps33
  go_upto_region 1 with (fail)
  refine lx_plain [] (lasts_nil) ?_
  simp only [its, Nat.zero_add, Nat.reduceAdd]
  refine lx_val (by rfl) (.string ⟨a.toArray⟩) (fun X hX hF => by rfl) ?_
  simp only [Act.put, List.setIfInBounds_toArray, List.set_cons_succ, List.set_cons_zero]
  refine lx_call (by rfl) 17 _ _ (by rfl) (.string ⟨(be (val a)).toArray⟩) [.string ⟨a.toArray⟩] (by rfl) (by kernel_rfl) (fun _ => by go_simp) (fun X hX hF => rcleanC a X (by omega)) ?_
  simp only [Act.put, List.setIfInBounds_toArray, List.set_cons_succ, List.set_cons_zero]
  refine lx_val (by rfl) (.string ⟨(be (val a)).toArray⟩) (fun X hX hF => by rfl) ?_
  simp only [Act.put, List.setIfInBounds_toArray, List.set_cons_succ, List.set_cons_zero]
  refine lx_nil ?_
  intro X1 hX1 hF
  have hb : Below w.heap.size w X1 := hX1
  clear hF hX1
  go_upto_region 2 with (fail)
  refine lx_plain [] (lasts_nil) ?_
  simp only [its, Nat.zero_add, Nat.reduceAdd]
  refine lx_val (by rfl) (.string ⟨(be (val a)).toArray⟩) (fun X hX hF => by rfl) ?_
  simp only [Act.put, List.setIfInBounds_toArray, List.set_cons_succ, List.set_cons_zero]
  refine lx_val (by rfl) (.bool false) (fun X hX hF => exec_eqsB _ _ _ _ (by rfl) (be (val a)) ([] : List UInt8) (by rfl) (by rfl) false (eqs_f HE.out) X) ?_
  simp only [Act.put, List.setIfInBounds_toArray, List.set_cons_succ, List.set_cons_zero]
  refine lx_nil ?_
  intro X2 hX2 hF
  have hb := bel_next hb hX2
  clear hF hX2
  rw [HN.out]
  go_wp2
  go_loopw [3, 4] (fun xv ov wr => ∃ (m : Nat) (l : List UInt8), xv = .string ⟨(be m).toArray⟩ ∧ ov = .string ⟨l.toArray⟩ ∧ m ≤ N ∧ (txd N).reverse = (txd m).reverse ++ l ∧ Below w.heap.size w wr) (fun xv _ _ => match xv with | .string s => val s.data.toList | _ => 0)
  case atStart => exact ⟨N, [], rfl, rfl, Nat.le_refl _, by rw [List.append_nil], hb⟩
  case round =>
    clear hb
    obtain ⟨m, l, rfl, rfl, hm, htx, hb⟩ := hrel
    have hll : l.length ≤ 12582900 := by
      have := congrArg List.length htx
      rw [List.length_append, List.length_reverse] at this
      omega
    have HTX := Lib.hid htx
    clear htx
    rcases Nat.eq_zero_or_pos m with h1 | h1
    · have HE2 : Hid (be m = []) := be_nil.2 h1
      have HT : Hid (txt (val a) = l) := by show _ = _; rw [HX.out, HN.out, HTX.out, h1, txd_zero]; rfl
      clear h1
      go_upto_region 5 with (fail)
      refine lx_plain [] (lasts_nil) ?_
      simp only [its, Nat.zero_add, Nat.reduceAdd]
      refine lx_val (by rfl) (.string ⟨(be m).toArray⟩) (fun X hX hF => by rfl) ?_
      simp only [Act.put, List.setIfInBounds_toArray, List.set_cons_succ, List.set_cons_zero]
      refine lx_val (by rfl) (.bool false) (fun X hX hF => exec_nesB _ _ _ _ (by rfl) (be m) ([] : List UInt8) (by rfl) (by rfl) false (nes_f HE2.out) X) ?_
      simp only [Act.put, List.setIfInBounds_toArray, List.set_cons_succ, List.set_cons_zero]
      refine lx_nil ?_
      intro X1 hX1 hF
      have hb := bel_next hb hX1
      clear hF hX1
      go_upto_region 9 with (fail)
      refine lx_plain [] (lasts_nil) ?_
      simp only [its, Nat.zero_add, Nat.reduceAdd]
      refine lx_val (by rfl) (.string ⟨l.toArray⟩) (fun X hX hF => by rfl) ?_
      simp only [Act.put, List.setIfInBounds_toArray, List.set_cons_succ, List.set_cons_zero]
      refine lx_val (by rfl) (.string ⟨l.toArray⟩) (fun X hX hF => by rfl) ?_
      simp only [Act.put, List.setIfInBounds_toArray, List.set_cons_succ, List.set_cons_zero]
      refine lx_nil ?_
      intro X2 hX2 hF
      have hb := bel_next hb hX2
      clear hF hX2
      go_wp2
      go_ret
      exact ⟨by rw [HT.out]; rfl, hb⟩
    · have HE2 : Hid (be m ≠ []) := be_ne h1
      have hml := be_mono hm
      have hmd := Nat.mod_lt m (show 0 < 10 by omega)
      have hmr := be_mono (Nat.mod_le m 10)
      have hlt := Nat.div_lt_self h1 (show 1 < 10 by omega)
      have HTX2 : Hid ((txd N).reverse = (txd (m / 10)).reverse ++ ([UInt8.ofNat (48 + m % 10)] ++ l)) := by
        show _ = _
        rw [HTX.out, txd_step h1, List.reverse_cons, List.append_assoc]
      have HDG : Hid (dgt (be (m % 10)) 0 = m % 10) := by show _ = _; rw [dgt_be]; omega
      go_upto_region 5 with (fail)
      refine lx_plain [] (lasts_nil) ?_
      simp only [its, Nat.zero_add, Nat.reduceAdd]
      refine lx_val (by rfl) (.string ⟨(be m).toArray⟩) (fun X hX hF => by rfl) ?_
      simp only [Act.put, List.setIfInBounds_toArray, List.set_cons_succ, List.set_cons_zero]
      refine lx_val (by rfl) (.bool true) (fun X hX hF => exec_nesB _ _ _ _ (by rfl) (be m) ([] : List UInt8) (by rfl) (by rfl) true (nes_t HE2.out) X) ?_
      simp only [Act.put, List.setIfInBounds_toArray, List.set_cons_succ, List.set_cons_zero]
      refine lx_nil ?_
      intro X1 hX1 hF
      have hb := bel_next hb hX1
      clear hF hX1
      go_upto_region 6 with (fail)
      refine lx_plain_to 2 [] (lasts_nil) ?_
      simp only [its, List.take, List.drop, Nat.zero_add, Nat.reduceAdd]
      refine lx_val (by rfl) (.string ⟨(be m).toArray⟩) (fun X hX hF => by rfl) ?_
      simp only [Act.put, List.setIfInBounds_toArray, List.set_cons_succ, List.set_cons_zero]
      refine lx_call (by rfl) 13 _ _ (by rfl) (.agg #[.string ⟨(be (m / 10)).toArray⟩, .string ⟨(be (m % 10)).toArray⟩, .int .i64 0]) [.string ⟨(be m).toArray⟩, .string ⟨([10] : List UInt8).toArray⟩] (by rfl) (by kernel_rfl) (fun _ => by go_simp) (fun X hX hF => (rdivC (be m) [10] X (by omega) (by simp only [List.length_cons, List.length_nil]; omega) (by rw [ten]; omega)).mono fun e X' ⟨h1, h2⟩ => ⟨by rw [h1]; simp only [val_be, ten], h2⟩) ?_
      simp only [Act.put, List.setIfInBounds_toArray, List.set_cons_succ, List.set_cons_zero]
      refine lx_nil ?_
      intro X2 hX2 hF
      have hb := bel_next hb hX2
      clear hF hX2
      have hbs := hb.size
      go_upto_region 7 with (refine op_store_new _ _ _ rfl 32 (.tmp 5) (.tmp 13) (by rfl) (by rfl) #[.string ⟨(be (m / 10)).toArray⟩, .string ⟨(be (m % 10)).toArray⟩, .int .i64 0] (by rfl) rfl (by intro u hu; simp only [List.mem_cons, List.not_mem_nil, or_false] at hu; rcases hu with rfl | rfl | rfl <;> rfl) info_div ?_)
      have hD : Blk (X2.alloc (.cells #[.string ⟨(be (m / 10)).toArray⟩, .string ⟨(be (m % 10)).toArray⟩, .int .i64 0] 32)) X2.heap.size 32 [.string ⟨(be (m / 10)).toArray⟩, .string ⟨(be (m % 10)).toArray⟩, .int .i64 0] := Blk.new rfl
      have hb := bel_alloc hb (.cells #[.string ⟨(be (m / 10)).toArray⟩, .string ⟨(be (m % 10)).toArray⟩, .int .i64 0] 32)
      generalize X2.alloc (.cells #[.string ⟨(be (m / 10)).toArray⟩, .string ⟨(be (m % 10)).toArray⟩, .int .i64 0] 32) = Y2 at hD hb ⊢
      refine lx_plain [none, none, none, none, none, some (Bts [UInt8.ofNat (48 + m % 10)])] (lasts_none (lasts_none (lasts_none (lasts_none (lasts_none (lasts_some (Bts.lasts _) (lasts_nil))))))) ?_
      simp only [its, Nat.zero_add, Nat.reduceAdd]
      refine lx_val (by rfl) (.pointer (some ⟨X2.heap.size, 1, none⟩)) (fun X hX hF => by (unfold execOp; go_simp)) ?_
      simp only [Act.put, List.setIfInBounds_toArray, List.set_cons_succ, List.set_cons_zero]
      refine lx_val (by rfl) (.string ⟨(be (m % 10)).toArray⟩) (fun X hX hF => exec_ld 9 _ (by rfl) X2.heap.size 1 (by rfl) _ X ((hD.bel hX).cell (j := 1) rfl) (fun X u h => load_str X2.heap.size 1 X u h)) ?_
      simp only [Act.put, List.setIfInBounds_toArray, List.set_cons_succ, List.set_cons_zero]
      refine lx_call (by rfl) 39 _ _ (by rfl) (.int .i64 ((m % 10 : Nat) : Int)) [.string ⟨(be (m % 10)).toArray⟩, .int .i64 0] (by rfl) (by kernel_rfl) (fun _ => by go_simp) (fun X hX hF => (rdigitC (be (m % 10)) 0 X (by omega)).mono fun e X' ⟨h1, h2⟩ => ⟨by rw [h1, HDG.out], h2⟩) ?_
      simp only [Act.put, List.setIfInBounds_toArray, List.set_cons_succ, List.set_cons_zero]
      refine lx_val (by rfl) (.int .i64 ((48 + m % 10 : Nat) : Int)) (fun X hX hF => exec_add _ _ _ _ (by rfl) 48 ((m % 10 : Nat) : Int) ((48 + m % 10 : Nat) : Int) (by rfl) (by rfl) (by omega) (by omega) (by omega) X) ?_
      simp only [Act.put, List.setIfInBounds_toArray, List.set_cons_succ, List.set_cons_zero]
      refine lx_val (by rfl) (.int .u8 ((48 + m % 10 : Nat) : Int)) (fun X hX hF => exec_cnv _ _ .i64 .u8 Tryd.underlying3 Tryd.underlying5 _ (by rfl) ((48 + m % 10 : Nat) : Int) ((48 + m % 10 : Nat) : Int) (by rfl) (by rw [w8 (by omega) (by omega)]) X) ?_
      simp only [Act.put, List.setIfInBounds_toArray, List.set_cons_succ, List.set_cons_zero]
      refine lx_new (by rfl) (fun X hX hF => ⟨_, _, exec_bs8 _ (by rfl) _ (by rfl) X, Bts.new1 X _ (UInt8.ofNat (48 + m % 10)) (by rw [u8n]; omega), since_alloc X _⟩) ?_
      intro v19
      simp only [Act.put, List.setIfInBounds_toArray, List.set_cons_succ, List.set_cons_zero]
      refine lx_val (by rfl) (.string ⟨[UInt8.ofNat (48 + m % 10)].toArray⟩) (fun X hX hF => by obtain ⟨A9, c9, h9, hr9⟩ := (hF _ _ List.mem_cons_self rfl); subst h9; exact exec_str _ _ 5 Tryd.underlying61 Tryd.underlying5 Tryd.underlying9 _ (by rfl) (by rfl) hr9) ?_
      simp only [Act.put, List.setIfInBounds_toArray, List.set_cons_succ, List.set_cons_zero]
      refine lx_val (by rfl) (.string ⟨l.toArray⟩) (fun X hX hF => by rfl) ?_
      simp only [Act.put, List.setIfInBounds_toArray, List.set_cons_succ, List.set_cons_zero]
      refine lx_val (by rfl) (.string ⟨([UInt8.ofNat (48 + m % 10)] ++ l).toArray⟩) (fun X hX hF => exec_cat _ _ _ _ (by rfl) [UInt8.ofNat (48 + m % 10)] l (by rfl) (by rfl) (by simp only [List.length_append, List.length_cons, List.length_nil]; omega) X) ?_
      simp only [Act.put, List.setIfInBounds_toArray, List.set_cons_succ, List.set_cons_zero]
      refine lx_val (by rfl) (.string ⟨([UInt8.ofNat (48 + m % 10)] ++ l).toArray⟩) (fun X hX hF => by rfl) ?_
      simp only [Act.put, List.setIfInBounds_toArray, List.set_cons_succ, List.set_cons_zero]
      refine lx_nil ?_
      intro X3 hX3 hF
      have hv19 := hF _ _ List.mem_cons_self
      have hD := hD.bel hX3
      have hb := bel_next hb hX3
      clear hF hX3
      clear hv19
      go_upto_region 8 with (fail)
      refine lx_plain [] (lasts_nil) ?_
      simp only [its, Nat.zero_add, Nat.reduceAdd]
      refine lx_val (by rfl) (.pointer (some ⟨X2.heap.size, 0, none⟩)) (fun X hX hF => by (unfold execOp; go_simp)) ?_
      simp only [Act.put, List.setIfInBounds_toArray, List.set_cons_succ, List.set_cons_zero]
      refine lx_val (by rfl) (.string ⟨(be (m / 10)).toArray⟩) (fun X hX hF => exec_ld 9 _ (by rfl) X2.heap.size 0 (by rfl) _ X ((hD.bel hX).cell (j := 0) rfl) (fun X u h => load_str X2.heap.size 0 X u h)) ?_
      simp only [Act.put, List.setIfInBounds_toArray, List.set_cons_succ, List.set_cons_zero]
      refine lx_val (by rfl) (.string ⟨(be (m / 10)).toArray⟩) (fun X hX hF => by rfl) ?_
      simp only [Act.put, List.setIfInBounds_toArray, List.set_cons_succ, List.set_cons_zero]
      refine lx_nil ?_
      intro X4 hX4 hF
      have hD := hD.bel hX4
      have hb := bel_next hb hX4
      clear hF hX4
      go_wp2
      go_roundw
      case rel => exact ⟨m / 10, [UInt8.ofNat (48 + m % 10)] ++ l, rfl, rfl, by omega, HTX2.out, hb⟩
      case measure =>
        show val (be (m / 10)) < val (be m)
        rw [val_be, val_be]
        exact hlt
theorem rtextC (a : List UInt8) (w : World) (ha : a.length ≤ 4194300) : Calls Tryd.prog 33 #[.string ⟨a.toArray⟩] w fun e w' => e = .returned (.string ⟨(txt (val a)).toArray⟩) ∧ Since w w' := by
  rcases Nat.eq_zero_or_pos (val a) with h | h
  · exact rtextE a w ha h
  · exact rtextP a w ha h

/-- What the reference's Parse hands back. -/
def rparV (s : List UInt8) : Value := if pok s = true then .agg #[.string ⟨(be (dval s)).toArray⟩, .int .i64 0] else .agg #[.string ⟨#[]⟩, .int .i64 27]
theorem rparV_t {s : List UInt8} (h : pok s = true) : rparV s = .agg #[.string ⟨(be (dval s)).toArray⟩, .int .i64 0] := by unfold rparV; rw [if_pos h]
theorem rparV_f {s : List UInt8} (h : pok s = false) : rparV s = .agg #[.string ⟨#[]⟩, .int .i64 27] := by unfold rparV; rw [if_neg (by rw [h]; exact Bool.false_ne_true)]
theorem be_dval {l : List UInt8} (h : isd l = true) : (be (dval l)).length ≤ l.length := be_len (Nat.lt_of_lt_of_le (dval_lt l h) (Nat.pow_le_pow_left (by decide) _))
set_option maxRecDepth 100000 in
set_option maxHeartbeats 1600000 in
theorem rparN (w : World) : Calls Tryd.prog 31 #[.string ⟨([] : List UInt8).toArray⟩] w fun e w' => e = .returned (rparV []) ∧ Since w w' := by
  go_enter Tryd.func31, Tryd.ntmps31
  go_upto_region 1 with (fail)
  have hR0 : Blk (w.alloc (.cells #[.string ⟨#[]⟩, .int .i64 0] 29)) w.heap.size 29 [.string ⟨#[]⟩, .int .i64 0] := Blk.new rfl
  have hb : Below w.heap.size w (w.alloc (.cells #[.string ⟨#[]⟩, .int .i64 0] 29)) := (Below.refl _ _).alloc (Nat.le_refl _) _
  generalize w.alloc (.cells #[.string ⟨#[]⟩, .int .i64 0] 29) = W0 at hR0 hb ⊢
  refine lx_plain [] (lasts_nil) ?_
  simp only [its, Nat.zero_add, Nat.reduceAdd]
  refine lx_val (by rfl) (.string ⟨([] : List UInt8).toArray⟩) (fun X hX hF => by rfl) ?_
  simp only [Act.put, List.setIfInBounds_toArray, List.set_cons_succ, List.set_cons_zero]
  refine lx_val (by rfl) (.bool true) (fun X hX hF => exec_eqsB _ _ _ _ (by rfl) ([] : List UInt8) ([] : List UInt8) (by rfl) (by rfl) true rfl X) ?_
  simp only [Act.put, List.setIfInBounds_toArray, List.set_cons_succ, List.set_cons_zero]
  refine lx_val (by rfl) (.bool true) (fun X hX hF => by rfl) ?_
  simp only [Act.put, List.setIfInBounds_toArray, List.set_cons_succ, List.set_cons_zero]
  refine lx_skip (by rfl) ?_
  simp only [Act.put, List.setIfInBounds_toArray, List.set_cons_succ, List.set_cons_zero]
  refine lx_skip (by rfl) ?_
  simp only [Act.put, List.setIfInBounds_toArray, List.set_cons_succ, List.set_cons_zero]
  refine lx_skip (by rfl) ?_
  simp only [Act.put, List.setIfInBounds_toArray, List.set_cons_succ, List.set_cons_zero]
  refine lx_skip (by rfl) ?_
  simp only [Act.put, List.setIfInBounds_toArray, List.set_cons_succ, List.set_cons_zero]
  refine lx_skip (by rfl) ?_
  simp only [Act.put, List.setIfInBounds_toArray, List.set_cons_succ, List.set_cons_zero]
  refine lx_skip (by rfl) ?_
  simp only [Act.put, List.setIfInBounds_toArray, List.set_cons_succ, List.set_cons_zero]
  refine lx_skip (by rfl) ?_
  simp only [Act.put, List.setIfInBounds_toArray, List.set_cons_succ, List.set_cons_zero]
  refine lx_skip (by rfl) ?_
  simp only [Act.put, List.setIfInBounds_toArray, List.set_cons_succ, List.set_cons_zero]
  refine lx_val (by rfl) (.bool true) (fun X hX hF => by rfl) ?_
  simp only [Act.put, List.setIfInBounds_toArray, List.set_cons_succ, List.set_cons_zero]
  refine lx_nil ?_
  intro X1 hX1 hF
  have hR0 := hR0.bel hX1
  have hb := bel_next hb hX1
  clear hF hX1
  go_upto_region 2 with (fail)
  refine lx_plain_to 1 [] (lasts_nil) ?_
  simp only [its, List.take, List.drop, Nat.zero_add, Nat.reduceAdd]
  refine lx_val (by rfl) (.agg #[.string ⟨#[]⟩, .int .i64 27]) (fun X hX hF => by (unfold execOp; go_simp)) ?_
  simp only [Act.put, List.setIfInBounds_toArray, List.set_cons_succ, List.set_cons_zero]
  refine lx_nil ?_
  intro X2 hX2 hF
  have hR0 := hR0.bel hX2
  have hb := bel_next hb hX2
  clear hF hX2
  refine op_store_blk rfl 29 (.tmp 2) (.tmp 17) rfl w.heap.size 29 _ hR0 rfl [.string ⟨#[]⟩, .int .i64 27] rfl (by rfl) (by intro u hu; simp only [List.mem_cons, List.not_mem_nil, or_false] at hu; rcases hu with rfl | rfl <;> rfl) info_made ?_
  intro w9 hR9 hO9 hB9 hs9
  have hb9 := hB9 _ _ hb (Nat.le_refl _)
  clear hO9 hB9
  go_wp2
  refine post_cell rfl rfl (by rfl) Tryd.underlying29 rfl hR9 info_made ⟨rfl, hb9⟩

set_option maxRecDepth 100000 in
set_option maxHeartbeats 1600000 in
theorem rparL (s : List UInt8) (w : World) (hs : s.length ≤ 4194000) (h0 : 0 < s.length) (hc0 : (s.getD 0 0).toNat = 48) (hl : 1 < s.length) : Calls Tryd.prog 31 #[.string ⟨s.toArray⟩] w fun e w' => e = .returned (rparV s) ∧ Since w w' := by
  have HNE : Hid (s ≠ []) := fun h => by rw [h] at h0; exact absurd h0 (by decide)
  have hn1 : s ≠ [48] := fun h => by rw [h] at hl; exact absurd hl (by decide)
  have HBAD : Hid (rparV s = .agg #[.string ⟨#[]⟩, .int .i64 27]) := rparV_f (by
    unfold pok
    rw [hc0, nes_t hn1]
    simp)
  have hc1 : (s.getD 0 0).toNat ≤ 48 ∧ 48 ≤ (s.getD 0 0).toNat := by omega
  clear hc0 hn1
  go_enter Tryd.func31, Tryd.ntmps31
  go_upto_region 1 with (fail)
  have hR0 : Blk (w.alloc (.cells #[.string ⟨#[]⟩, .int .i64 0] 29)) w.heap.size 29 [.string ⟨#[]⟩, .int .i64 0] := Blk.new rfl
  have hb : Below w.heap.size w (w.alloc (.cells #[.string ⟨#[]⟩, .int .i64 0] 29)) := (Below.refl _ _).alloc (Nat.le_refl _) _
  generalize w.alloc (.cells #[.string ⟨#[]⟩, .int .i64 0] 29) = W0 at hR0 hb ⊢
  refine lx_plain [] (lasts_nil) ?_
  simp only [its, Nat.zero_add, Nat.reduceAdd]
  refine lx_val (by rfl) (.string ⟨s.toArray⟩) (fun X hX hF => by rfl) ?_
  simp only [Act.put, List.setIfInBounds_toArray, List.set_cons_succ, List.set_cons_zero]
  refine lx_val (by rfl) (.bool false) (fun X hX hF => exec_eqsB _ _ _ _ (by rfl) s ([] : List UInt8) (by rfl) (by rfl) false (eqs_f HNE.out) X) ?_
  simp only [Act.put, List.setIfInBounds_toArray, List.set_cons_succ, List.set_cons_zero]
  refine lx_val (by rfl) (.bool false) (fun X hX hF => by rfl) ?_
  simp only [Act.put, List.setIfInBounds_toArray, List.set_cons_succ, List.set_cons_zero]
  refine lx_val (by rfl) (.string ⟨s.toArray⟩) (fun X hX hF => by rfl) ?_
  simp only [Act.put, List.setIfInBounds_toArray, List.set_cons_succ, List.set_cons_zero]
  refine lx_val (by rfl) (.int .u8 ((s.getD 0 0).toNat : Int)) (fun X hX hF => exec_chr _ Tryd.underlying9 _ _ (by rfl) s 0 (by rfl) (by rfl) (by omega) (by omega) X) ?_
  simp only [Act.put, List.setIfInBounds_toArray, List.set_cons_succ, List.set_cons_zero]
  refine lx_val (by rfl) (.bool true) (fun X hX hF => exec_eqi _ _ _ _ (by rfl) .u8 ((s.getD 0 0).toNat : Int) 48 (by rfl) (by rfl) true (decide_eq_true (by omega)) X) ?_
  simp only [Act.put, List.setIfInBounds_toArray, List.set_cons_succ, List.set_cons_zero]
  refine lx_val (by rfl) (.bool true) (fun X hX hF => by rfl) ?_
  simp only [Act.put, List.setIfInBounds_toArray, List.set_cons_succ, List.set_cons_zero]
  refine lx_val (by rfl) (.string ⟨s.toArray⟩) (fun X hX hF => by rfl) ?_
  simp only [Act.put, List.setIfInBounds_toArray, List.set_cons_succ, List.set_cons_zero]
  refine lx_val (by rfl) (.int .i64 (s.length : Int)) (fun X hX hF => exec_lens Tryd.underlying9 _ (by rfl) s (by rfl) _ rfl X) ?_
  simp only [Act.put, List.setIfInBounds_toArray, List.set_cons_succ, List.set_cons_zero]
  refine lx_val (by rfl) (.bool true) (fun X hX hF => exec_gtr _ _ _ _ (by rfl) .i64 (s.length : Int) 1 (by rfl) (by rfl) true (decide_eq_true (by omega)) X) ?_
  simp only [Act.put, List.setIfInBounds_toArray, List.set_cons_succ, List.set_cons_zero]
  refine lx_val (by rfl) (.bool true) (fun X hX hF => by rfl) ?_
  simp only [Act.put, List.setIfInBounds_toArray, List.set_cons_succ, List.set_cons_zero]
  refine lx_val (by rfl) (.bool true) (fun X hX hF => by rfl) ?_
  simp only [Act.put, List.setIfInBounds_toArray, List.set_cons_succ, List.set_cons_zero]
  refine lx_nil ?_
  intro X1 hX1 hF
  have hR0 := hR0.bel hX1
  have hb := bel_next hb hX1
  clear hF hX1
  go_upto_region 2 with (fail)
  refine lx_plain_to 1 [] (lasts_nil) ?_
  simp only [its, List.take, List.drop, Nat.zero_add, Nat.reduceAdd]
  refine lx_val (by rfl) (.agg #[.string ⟨#[]⟩, .int .i64 27]) (fun X hX hF => by (unfold execOp; go_simp)) ?_
  simp only [Act.put, List.setIfInBounds_toArray, List.set_cons_succ, List.set_cons_zero]
  refine lx_nil ?_
  intro X2 hX2 hF
  have hR0 := hR0.bel hX2
  have hb := bel_next hb hX2
  clear hF hX2
  refine op_store_blk rfl 29 (.tmp 2) (.tmp 17) rfl w.heap.size 29 _ hR0 rfl [.string ⟨#[]⟩, .int .i64 27] rfl (by rfl) (by intro u hu; simp only [List.mem_cons, List.not_mem_nil, or_false] at hu; rcases hu with rfl | rfl <;> rfl) info_made ?_
  intro w9 hR9 hO9 hB9 hs9
  have hb9 := hB9 _ _ hb (Nat.le_refl _)
  clear hO9 hB9
  go_wp2
  refine post_cell rfl rfl (by rfl) Tryd.underlying29 rfl hR9 info_made ⟨by rw [HBAD.out], hb9⟩

set_option maxRecDepth 100000 in
set_option maxHeartbeats 1600000 in
theorem rparZ (s : List UInt8) (w : World) (hs : s.length ≤ 4194000) (h0 : 0 < s.length) (hc0 : (s.getD 0 0).toNat = 48) (hl : s.length ≤ 1) : Calls Tryd.prog 31 #[.string ⟨s.toArray⟩] w fun e w' => e = .returned (rparV s) ∧ Since w w' := by
  have HNE : Hid (s ≠ []) := fun h => by rw [h] at h0; exact absurd h0 (by decide)
  have hn1 : s = [48] := one_of (by omega) hc0
  have HPO : Hid (isd s = true → pok s = true) := fun h => by
    unfold pok
    rw [h]
    have h1 : s.isEmpty = false := by
      cases s with
      | nil => exact absurd rfl HNE.out
      | cons c r => rfl
    rw [h1]
    rw [nes_f hn1]
    simp
  have hc1 : (s.getD 0 0).toNat ≤ 48 ∧ 48 ≤ (s.getD 0 0).toNat := by omega
  clear hc0 hn1
  go_enter Tryd.func31, Tryd.ntmps31
  go_upto_region 1 with (fail)
  have hR0 : Blk (w.alloc (.cells #[.string ⟨#[]⟩, .int .i64 0] 29)) w.heap.size 29 [.string ⟨#[]⟩, .int .i64 0] := Blk.new rfl
  have hb : Below w.heap.size w (w.alloc (.cells #[.string ⟨#[]⟩, .int .i64 0] 29)) := (Below.refl _ _).alloc (Nat.le_refl _) _
  generalize w.alloc (.cells #[.string ⟨#[]⟩, .int .i64 0] 29) = W0 at hR0 hb ⊢
  refine lx_plain [] (lasts_nil) ?_
  simp only [its, Nat.zero_add, Nat.reduceAdd]
  refine lx_val (by rfl) (.string ⟨s.toArray⟩) (fun X hX hF => by rfl) ?_
  simp only [Act.put, List.setIfInBounds_toArray, List.set_cons_succ, List.set_cons_zero]
  refine lx_val (by rfl) (.bool false) (fun X hX hF => exec_eqsB _ _ _ _ (by rfl) s ([] : List UInt8) (by rfl) (by rfl) false (eqs_f HNE.out) X) ?_
  simp only [Act.put, List.setIfInBounds_toArray, List.set_cons_succ, List.set_cons_zero]
  refine lx_val (by rfl) (.bool false) (fun X hX hF => by rfl) ?_
  simp only [Act.put, List.setIfInBounds_toArray, List.set_cons_succ, List.set_cons_zero]
  refine lx_val (by rfl) (.string ⟨s.toArray⟩) (fun X hX hF => by rfl) ?_
  simp only [Act.put, List.setIfInBounds_toArray, List.set_cons_succ, List.set_cons_zero]
  refine lx_val (by rfl) (.int .u8 ((s.getD 0 0).toNat : Int)) (fun X hX hF => exec_chr _ Tryd.underlying9 _ _ (by rfl) s 0 (by rfl) (by rfl) (by omega) (by omega) X) ?_
  simp only [Act.put, List.setIfInBounds_toArray, List.set_cons_succ, List.set_cons_zero]
  refine lx_val (by rfl) (.bool true) (fun X hX hF => exec_eqi _ _ _ _ (by rfl) .u8 ((s.getD 0 0).toNat : Int) 48 (by rfl) (by rfl) true (decide_eq_true (by omega)) X) ?_
  simp only [Act.put, List.setIfInBounds_toArray, List.set_cons_succ, List.set_cons_zero]
  refine lx_val (by rfl) (.bool true) (fun X hX hF => by rfl) ?_
  simp only [Act.put, List.setIfInBounds_toArray, List.set_cons_succ, List.set_cons_zero]
  refine lx_val (by rfl) (.string ⟨s.toArray⟩) (fun X hX hF => by rfl) ?_
  simp only [Act.put, List.setIfInBounds_toArray, List.set_cons_succ, List.set_cons_zero]
  refine lx_val (by rfl) (.int .i64 (s.length : Int)) (fun X hX hF => exec_lens Tryd.underlying9 _ (by rfl) s (by rfl) _ rfl X) ?_
  simp only [Act.put, List.setIfInBounds_toArray, List.set_cons_succ, List.set_cons_zero]
  refine lx_val (by rfl) (.bool false) (fun X hX hF => exec_gtr _ _ _ _ (by rfl) .i64 (s.length : Int) 1 (by rfl) (by rfl) false (decide_eq_false (by omega)) X) ?_
  simp only [Act.put, List.setIfInBounds_toArray, List.set_cons_succ, List.set_cons_zero]
  refine lx_val (by rfl) (.bool false) (fun X hX hF => by rfl) ?_
  simp only [Act.put, List.setIfInBounds_toArray, List.set_cons_succ, List.set_cons_zero]
  refine lx_val (by rfl) (.bool false) (fun X hX hF => by rfl) ?_
  simp only [Act.put, List.setIfInBounds_toArray, List.set_cons_succ, List.set_cons_zero]
  refine lx_nil ?_
  intro X1 hX1 hF
  have hR0 := hR0.bel hX1
  have hb := bel_next hb hX1
  clear hF hX1
  go_wp2
  go_loopw [3, 4] (fun ov kv wr => ∃ k : Nat, k ≤ s.length ∧ kv = .int .i64 (k : Int) ∧ ov = .string ⟨(be (dval (s.take k))).toArray⟩ ∧ isd (s.take k) = true ∧ Blk wr w.heap.size 29 [.string ⟨#[]⟩, .int .i64 0] ∧ Below w.heap.size w wr) (fun _ kv _ => s.length - (intOf kv).toNat)
  case atStart => exact ⟨0, by omega, rfl, rfl, rfl, hR0, hb⟩
  case round =>
    clear hR0 hb
    obtain ⟨k, hk, rfl, rfl, his, hR0, hb⟩ := hrel
    have hlx := be_dval his
    have hlk : (s.take k).length ≤ k := List.length_take_le _ _
    have HIS := Lib.hid his
    clear his
    rcases Nat.lt_or_ge k s.length with hlt | hlt
    · obtain ⟨y, hy⟩ : ∃ y, y = (s.getD k 0).toNat := ⟨_, rfl⟩
      have hy2 : y < 256 := hy ▸ u8_lt _
      have HY := Lib.hid hy
      clear hy
      go_upto_region 5 with (fail)
      refine lx_plain [] (lasts_nil) ?_
      simp only [its, Nat.zero_add, Nat.reduceAdd]
      refine lx_val (by rfl) (.int .i64 (k : Int)) (fun X hX hF => by rfl) ?_
      simp only [Act.put, List.setIfInBounds_toArray, List.set_cons_succ, List.set_cons_zero]
      refine lx_val (by rfl) (.string ⟨s.toArray⟩) (fun X hX hF => by rfl) ?_
      simp only [Act.put, List.setIfInBounds_toArray, List.set_cons_succ, List.set_cons_zero]
      refine lx_val (by rfl) (.int .i64 (s.length : Int)) (fun X hX hF => exec_lens Tryd.underlying9 _ (by rfl) s (by rfl) _ rfl X) ?_
      simp only [Act.put, List.setIfInBounds_toArray, List.set_cons_succ, List.set_cons_zero]
      refine lx_val (by rfl) (.bool true) (fun X hX hF => exec_lss _ _ _ _ (by rfl) .i64 (k : Int) (s.length : Int) (by rfl) (by rfl) true (decide_eq_true (by omega)) X) ?_
      simp only [Act.put, List.setIfInBounds_toArray, List.set_cons_succ, List.set_cons_zero]
      refine lx_nil ?_
      intro X1 hX1 hF
      have hR0 := hR0.bel hX1
      have hb := bel_next hb hX1
      clear hF hX1
      by_cases hd : 48 ≤ y ∧ y ≤ 57
      · obtain ⟨hd1, hd2⟩ := hd
        have HDV : Hid (dval (s.take (k + 1)) = dval (s.take k) * 10 + (y - 48)) := by
          show _ = _
          rw [dval_take_succ s hlt, ← HY.out, Nat.mul_comm]
        have HIS2 : Hid (isd (s.take (k + 1)) = true) := by
          show _ = _
          rw [isd_take_succ s hlt, HIS.out, ← HY.out, decide_eq_true ⟨hd1, hd2⟩]
          rfl
        have HLW : Hid (val [UInt8.ofNat (y - 48)] = y - 48) := by
          show _ = _
          have : val [UInt8.ofNat (y - 48)] = (UInt8.ofNat (y - 48)).toNat := by simp [val, lvN]
          rw [this, u8n, Nat.mod_eq_of_lt (by omega)]
        have hm10 : (be (dval (s.take k) * 10)).length ≤ k + 1 := be_len (by
          have h1 := lt_be_len (dval (s.take k))
          have h2 := Nat.lt_of_lt_of_le h1 (Nat.pow_le_pow_right (n := 256) (by omega) (show (be (dval (s.take k))).length ≤ k by omega))
          rw [Nat.pow_succ]
          omega)
        go_upto_region 7 with (fail)
        refine lx_plain [] (lasts_nil) ?_
        simp only [its, Nat.zero_add, Nat.reduceAdd]
        refine lx_val (by rfl) (.string ⟨s.toArray⟩) (fun X hX hF => by rfl) ?_
        simp only [Act.put, List.setIfInBounds_toArray, List.set_cons_succ, List.set_cons_zero]
        refine lx_val (by rfl) (.int .i64 (k : Int)) (fun X hX hF => by rfl) ?_
        simp only [Act.put, List.setIfInBounds_toArray, List.set_cons_succ, List.set_cons_zero]
        refine lx_val (by rfl) (.int .u8 (y : Int)) (fun X hX hF => (exec_chr _ Tryd.underlying9 _ _ (by rfl) s k (by rfl) (by rfl) (by omega) hlt X).trans (by rw [← HY.out])) ?_
        simp only [Act.put, List.setIfInBounds_toArray, List.set_cons_succ, List.set_cons_zero]
        refine lx_val (by rfl) (.bool false) (fun X hX hF => exec_lss _ _ _ _ (by rfl) .u8 (y : Int) 48 (by rfl) (by rfl) false (decide_eq_false (by omega)) X) ?_
        simp only [Act.put, List.setIfInBounds_toArray, List.set_cons_succ, List.set_cons_zero]
        refine lx_val (by rfl) (.bool false) (fun X hX hF => by rfl) ?_
        simp only [Act.put, List.setIfInBounds_toArray, List.set_cons_succ, List.set_cons_zero]
        refine lx_val (by rfl) (.string ⟨s.toArray⟩) (fun X hX hF => by rfl) ?_
        simp only [Act.put, List.setIfInBounds_toArray, List.set_cons_succ, List.set_cons_zero]
        refine lx_val (by rfl) (.int .i64 (k : Int)) (fun X hX hF => by rfl) ?_
        simp only [Act.put, List.setIfInBounds_toArray, List.set_cons_succ, List.set_cons_zero]
        refine lx_val (by rfl) (.int .u8 (y : Int)) (fun X hX hF => (exec_chr _ Tryd.underlying9 _ _ (by rfl) s k (by rfl) (by rfl) (by omega) hlt X).trans (by rw [← HY.out])) ?_
        simp only [Act.put, List.setIfInBounds_toArray, List.set_cons_succ, List.set_cons_zero]
        refine lx_val (by rfl) (.bool false) (fun X hX hF => exec_gtr _ _ _ _ (by rfl) .u8 (y : Int) 57 (by rfl) (by rfl) false (decide_eq_false (by omega)) X) ?_
        simp only [Act.put, List.setIfInBounds_toArray, List.set_cons_succ, List.set_cons_zero]
        refine lx_val (by rfl) (.bool false) (fun X hX hF => by rfl) ?_
        simp only [Act.put, List.setIfInBounds_toArray, List.set_cons_succ, List.set_cons_zero]
        refine lx_nil ?_
        intro X2 hX2 hF
        have hR0 := hR0.bel hX2
        have hb := bel_next hb hX2
        clear hF hX2
        go_upto_region 9 with (fail)
        refine lx_region [none, none, none, none, none, none, some (Bts [UInt8.ofNat (y - 48)])] (by kernel_rfl) (by kernel_rfl) (lasts_none (lasts_none (lasts_none (lasts_none (lasts_none (lasts_none (lasts_some (Bts.lasts _) (lasts_nil)))))))) ?_
        simp only [its, Nat.zero_add, Nat.reduceAdd]
        refine lx_val (by rfl) (.string ⟨(be (dval (s.take k))).toArray⟩) (fun X hX hF => by rfl) ?_
        simp only [Act.put, List.setIfInBounds_toArray, List.set_cons_succ, List.set_cons_zero]
        refine lx_call (by rfl) 23 _ _ (by rfl) (.string ⟨(be (dval (s.take k) * 10)).toArray⟩) [.string ⟨(be (dval (s.take k))).toArray⟩, .string ⟨([10] : List UInt8).toArray⟩] (by rfl) (by kernel_rfl) (fun _ => by go_simp) (fun X hX hF => (rmulC (be (dval (s.take k))) [10] X (by omega) (by simp only [List.length_cons, List.length_nil]; omega)).mono fun e X' ⟨h1, h2⟩ => ⟨by rw [h1, val_be, ten], h2⟩) ?_
        simp only [Act.put, List.setIfInBounds_toArray, List.set_cons_succ, List.set_cons_zero]
        refine lx_val (by rfl) (.string ⟨s.toArray⟩) (fun X hX hF => by rfl) ?_
        simp only [Act.put, List.setIfInBounds_toArray, List.set_cons_succ, List.set_cons_zero]
        refine lx_val (by rfl) (.int .i64 (k : Int)) (fun X hX hF => by rfl) ?_
        simp only [Act.put, List.setIfInBounds_toArray, List.set_cons_succ, List.set_cons_zero]
        refine lx_val (by rfl) (.int .u8 (y : Int)) (fun X hX hF => (exec_chr _ Tryd.underlying9 _ _ (by rfl) s k (by rfl) (by rfl) (by omega) hlt X).trans (by rw [← HY.out])) ?_
        simp only [Act.put, List.setIfInBounds_toArray, List.set_cons_succ, List.set_cons_zero]
        refine lx_val (by rfl) (.int .u8 ((y - 48 : Nat) : Int)) (fun X hX hF => exec_subk _ _ _ _ (by rfl) .u8 (y : Int) 48 ((y - 48 : Nat) : Int) (by rfl) (by rfl) (by rw [w8 (by omega) (by omega)]; omega) X) ?_
        simp only [Act.put, List.setIfInBounds_toArray, List.set_cons_succ, List.set_cons_zero]
        refine lx_new (by rfl) (fun X hX hF => ⟨_, _, exec_bs8 _ (by rfl) _ (by rfl) X, Bts.new1 X _ (UInt8.ofNat (y - 48)) (by rw [u8n]; omega), since_alloc X _⟩) ?_
        intro v41
        simp only [Act.put, List.setIfInBounds_toArray, List.set_cons_succ, List.set_cons_zero]
        refine lx_val (by rfl) (.string ⟨[UInt8.ofNat (y - 48)].toArray⟩) (fun X hX hF => by obtain ⟨A9, c9, h9, hr9⟩ := (hF _ _ List.mem_cons_self rfl); subst h9; exact exec_str _ _ 5 Tryd.underlying61 Tryd.underlying5 Tryd.underlying9 _ (by rfl) (by rfl) hr9) ?_
        simp only [Act.put, List.setIfInBounds_toArray, List.set_cons_succ, List.set_cons_zero]
        refine lx_call (by rfl) 21 _ _ (by rfl) (.string ⟨(be (dval (s.take k) * 10 + (y - 48))).toArray⟩) [.string ⟨(be (dval (s.take k) * 10)).toArray⟩, .string ⟨[UInt8.ofNat (y - 48)].toArray⟩] (by rfl) (by kernel_rfl) (fun _ => by go_simp) (fun X hX hF => (raddC (be (dval (s.take k) * 10)) [UInt8.ofNat (y - 48)] X (by omega) (by simp only [List.length_cons, List.length_nil]; omega)).mono fun e X' ⟨h1, h2⟩ => ⟨by rw [h1, val_be, HLW.out], h2⟩) ?_
        simp only [Act.put, List.setIfInBounds_toArray, List.set_cons_succ, List.set_cons_zero]
        refine lx_val (by rfl) (.string ⟨(be (dval (s.take k) * 10 + (y - 48))).toArray⟩) (fun X hX hF => by rfl) ?_
        simp only [Act.put, List.setIfInBounds_toArray, List.set_cons_succ, List.set_cons_zero]
        refine lx_nil ?_
        intro X3 hX3 hF
        have hv41 := hF _ _ List.mem_cons_self
        have hR0 := hR0.bel hX3
        have hb := bel_next hb hX3
        clear hF hX3
        clear hv41
        go_upto_region 6 with (fail)
        refine lx_plain [] (lasts_nil) ?_
        simp only [its, Nat.zero_add, Nat.reduceAdd]
        refine lx_val (by rfl) (.int .i64 (k : Int)) (fun X hX hF => by rfl) ?_
        simp only [Act.put, List.setIfInBounds_toArray, List.set_cons_succ, List.set_cons_zero]
        refine lx_val (by rfl) (.int .i64 ((k + 1 : Nat) : Int)) (fun X hX hF => exec_add _ _ _ _ (by rfl) (k : Int) 1 ((k + 1 : Nat) : Int) (by rfl) (by rfl) (by omega) (by omega) (by omega) X) ?_
        simp only [Act.put, List.setIfInBounds_toArray, List.set_cons_succ, List.set_cons_zero]
        refine lx_val (by rfl) (.int .i64 ((k + 1 : Nat) : Int)) (fun X hX hF => by rfl) ?_
        simp only [Act.put, List.setIfInBounds_toArray, List.set_cons_succ, List.set_cons_zero]
        refine lx_nil ?_
        intro X4 hX4 hF
        have hR0 := hR0.bel hX4
        have hb := bel_next hb hX4
        clear hF hX4
        go_wp2
        go_roundw
        case rel => exact ⟨k + 1, by omega, rfl, by rw [HDV.out], HIS2.out, hR0, hb⟩
        case measure => simp [intOf]; omega
      · have HBAD : Hid (rparV s = .agg #[.string ⟨#[]⟩, .int .i64 27]) := rparV_f (pok_bad hlt (by rw [← HY.out]; exact hd))
        rcases Nat.lt_or_ge y 48 with h48 | h48
        · clear hd
          go_upto_region 7 with (fail)
          refine lx_plain [] (lasts_nil) ?_
          simp only [its, Nat.zero_add, Nat.reduceAdd]
          refine lx_val (by rfl) (.string ⟨s.toArray⟩) (fun X hX hF => by rfl) ?_
          simp only [Act.put, List.setIfInBounds_toArray, List.set_cons_succ, List.set_cons_zero]
          refine lx_val (by rfl) (.int .i64 (k : Int)) (fun X hX hF => by rfl) ?_
          simp only [Act.put, List.setIfInBounds_toArray, List.set_cons_succ, List.set_cons_zero]
          refine lx_val (by rfl) (.int .u8 (y : Int)) (fun X hX hF => (exec_chr _ Tryd.underlying9 _ _ (by rfl) s k (by rfl) (by rfl) (by omega) hlt X).trans (by rw [← HY.out])) ?_
          simp only [Act.put, List.setIfInBounds_toArray, List.set_cons_succ, List.set_cons_zero]
          refine lx_val (by rfl) (.bool true) (fun X hX hF => exec_lss _ _ _ _ (by rfl) .u8 (y : Int) 48 (by rfl) (by rfl) true (decide_eq_true (by omega)) X) ?_
          simp only [Act.put, List.setIfInBounds_toArray, List.set_cons_succ, List.set_cons_zero]
          refine lx_val (by rfl) (.bool true) (fun X hX hF => by rfl) ?_
          simp only [Act.put, List.setIfInBounds_toArray, List.set_cons_succ, List.set_cons_zero]
          refine lx_skip (by rfl) ?_
          simp only [Act.put, List.setIfInBounds_toArray, List.set_cons_succ, List.set_cons_zero]
          refine lx_skip (by rfl) ?_
          simp only [Act.put, List.setIfInBounds_toArray, List.set_cons_succ, List.set_cons_zero]
          refine lx_skip (by rfl) ?_
          simp only [Act.put, List.setIfInBounds_toArray, List.set_cons_succ, List.set_cons_zero]
          refine lx_skip (by rfl) ?_
          simp only [Act.put, List.setIfInBounds_toArray, List.set_cons_succ, List.set_cons_zero]
          refine lx_val (by rfl) (.bool true) (fun X hX hF => by rfl) ?_
          simp only [Act.put, List.setIfInBounds_toArray, List.set_cons_succ, List.set_cons_zero]
          refine lx_nil ?_
          intro X2 hX2 hF
          have hR0 := hR0.bel hX2
          have hb := bel_next hb hX2
          clear hF hX2
          go_upto_region 8 with (fail)
          refine lx_plain_to 1 [] (lasts_nil) ?_
          simp only [its, List.take, List.drop, Nat.zero_add, Nat.reduceAdd]
          refine lx_val (by rfl) (.agg #[.string ⟨#[]⟩, .int .i64 27]) (fun X hX hF => by (unfold execOp; go_simp)) ?_
          simp only [Act.put, List.setIfInBounds_toArray, List.set_cons_succ, List.set_cons_zero]
          refine lx_nil ?_
          intro X3 hX3 hF
          have hR0 := hR0.bel hX3
          have hb := bel_next hb hX3
          clear hF hX3
          refine op_store_blk rfl 29 (.tmp 2) (.tmp 34) rfl w.heap.size 29 _ hR0 rfl [.string ⟨#[]⟩, .int .i64 27] rfl (by rfl) (by intro u hu; simp only [List.mem_cons, List.not_mem_nil, or_false] at hu; rcases hu with rfl | rfl <;> rfl) info_made ?_
          intro w9 hR9 hO9 hB9 hs9
          have hb9 := hB9 _ _ hb (Nat.le_refl _)
          clear hO9 hB9
          go_wp2
          refine post_cell rfl rfl (by rfl) Tryd.underlying29 rfl hR9 info_made ⟨by rw [HBAD.out], hb9⟩
        · have h57 : 57 < y := by omega
          clear hd
          go_upto_region 7 with (fail)
          refine lx_plain [] (lasts_nil) ?_
          simp only [its, Nat.zero_add, Nat.reduceAdd]
          refine lx_val (by rfl) (.string ⟨s.toArray⟩) (fun X hX hF => by rfl) ?_
          simp only [Act.put, List.setIfInBounds_toArray, List.set_cons_succ, List.set_cons_zero]
          refine lx_val (by rfl) (.int .i64 (k : Int)) (fun X hX hF => by rfl) ?_
          simp only [Act.put, List.setIfInBounds_toArray, List.set_cons_succ, List.set_cons_zero]
          refine lx_val (by rfl) (.int .u8 (y : Int)) (fun X hX hF => (exec_chr _ Tryd.underlying9 _ _ (by rfl) s k (by rfl) (by rfl) (by omega) hlt X).trans (by rw [← HY.out])) ?_
          simp only [Act.put, List.setIfInBounds_toArray, List.set_cons_succ, List.set_cons_zero]
          refine lx_val (by rfl) (.bool false) (fun X hX hF => exec_lss _ _ _ _ (by rfl) .u8 (y : Int) 48 (by rfl) (by rfl) false (decide_eq_false (by omega)) X) ?_
          simp only [Act.put, List.setIfInBounds_toArray, List.set_cons_succ, List.set_cons_zero]
          refine lx_val (by rfl) (.bool false) (fun X hX hF => by rfl) ?_
          simp only [Act.put, List.setIfInBounds_toArray, List.set_cons_succ, List.set_cons_zero]
          refine lx_val (by rfl) (.string ⟨s.toArray⟩) (fun X hX hF => by rfl) ?_
          simp only [Act.put, List.setIfInBounds_toArray, List.set_cons_succ, List.set_cons_zero]
          refine lx_val (by rfl) (.int .i64 (k : Int)) (fun X hX hF => by rfl) ?_
          simp only [Act.put, List.setIfInBounds_toArray, List.set_cons_succ, List.set_cons_zero]
          refine lx_val (by rfl) (.int .u8 (y : Int)) (fun X hX hF => (exec_chr _ Tryd.underlying9 _ _ (by rfl) s k (by rfl) (by rfl) (by omega) hlt X).trans (by rw [← HY.out])) ?_
          simp only [Act.put, List.setIfInBounds_toArray, List.set_cons_succ, List.set_cons_zero]
          refine lx_val (by rfl) (.bool true) (fun X hX hF => exec_gtr _ _ _ _ (by rfl) .u8 (y : Int) 57 (by rfl) (by rfl) true (decide_eq_true (by omega)) X) ?_
          simp only [Act.put, List.setIfInBounds_toArray, List.set_cons_succ, List.set_cons_zero]
          refine lx_val (by rfl) (.bool true) (fun X hX hF => by rfl) ?_
          simp only [Act.put, List.setIfInBounds_toArray, List.set_cons_succ, List.set_cons_zero]
          refine lx_nil ?_
          intro X2 hX2 hF
          have hR0 := hR0.bel hX2
          have hb := bel_next hb hX2
          clear hF hX2
          go_upto_region 8 with (fail)
          refine lx_plain_to 1 [] (lasts_nil) ?_
          simp only [its, List.take, List.drop, Nat.zero_add, Nat.reduceAdd]
          refine lx_val (by rfl) (.agg #[.string ⟨#[]⟩, .int .i64 27]) (fun X hX hF => by (unfold execOp; go_simp)) ?_
          simp only [Act.put, List.setIfInBounds_toArray, List.set_cons_succ, List.set_cons_zero]
          refine lx_nil ?_
          intro X3 hX3 hF
          have hR0 := hR0.bel hX3
          have hb := bel_next hb hX3
          clear hF hX3
          refine op_store_blk rfl 29 (.tmp 2) (.tmp 34) rfl w.heap.size 29 _ hR0 rfl [.string ⟨#[]⟩, .int .i64 27] rfl (by rfl) (by intro u hu; simp only [List.mem_cons, List.not_mem_nil, or_false] at hu; rcases hu with rfl | rfl <;> rfl) info_made ?_
          intro w9 hR9 hO9 hB9 hs9
          have hb9 := hB9 _ _ hb (Nat.le_refl _)
          clear hO9 hB9
          go_wp2
          refine post_cell rfl rfl (by rfl) Tryd.underlying29 rfl hR9 info_made ⟨by rw [HBAD.out], hb9⟩
    · have HT : Hid (s.take k = s) := List.take_of_length_le (by omega)
      have HOK : Hid (rparV s = .agg #[.string ⟨(be (dval s)).toArray⟩, .int .i64 0]) := rparV_t (HPO.out (by rw [← HT.out]; exact HIS.out))
      rw [HT.out]
      go_upto_region 5 with (fail)
      refine lx_plain [] (lasts_nil) ?_
      simp only [its, Nat.zero_add, Nat.reduceAdd]
      refine lx_val (by rfl) (.int .i64 (k : Int)) (fun X hX hF => by rfl) ?_
      simp only [Act.put, List.setIfInBounds_toArray, List.set_cons_succ, List.set_cons_zero]
      refine lx_val (by rfl) (.string ⟨s.toArray⟩) (fun X hX hF => by rfl) ?_
      simp only [Act.put, List.setIfInBounds_toArray, List.set_cons_succ, List.set_cons_zero]
      refine lx_val (by rfl) (.int .i64 (s.length : Int)) (fun X hX hF => exec_lens Tryd.underlying9 _ (by rfl) s (by rfl) _ rfl X) ?_
      simp only [Act.put, List.setIfInBounds_toArray, List.set_cons_succ, List.set_cons_zero]
      refine lx_val (by rfl) (.bool false) (fun X hX hF => exec_lss _ _ _ _ (by rfl) .i64 (k : Int) (s.length : Int) (by rfl) (by rfl) false (decide_eq_false (by omega)) X) ?_
      simp only [Act.put, List.setIfInBounds_toArray, List.set_cons_succ, List.set_cons_zero]
      refine lx_nil ?_
      intro X1 hX1 hF
      have hR0 := hR0.bel hX1
      have hb := bel_next hb hX1
      clear hF hX1
      go_upto_region 10 with (fail)
      refine lx_plain_to 2 [] (lasts_nil) ?_
      simp only [its, List.take, List.drop, Nat.zero_add, Nat.reduceAdd]
      refine lx_val (by rfl) (.string ⟨(be (dval s)).toArray⟩) (fun X hX hF => by rfl) ?_
      simp only [Act.put, List.setIfInBounds_toArray, List.set_cons_succ, List.set_cons_zero]
      refine lx_val (by rfl) (.agg #[.string ⟨(be (dval s)).toArray⟩, .int .i64 0]) (fun X hX hF => by (unfold execOp; go_simp)) ?_
      simp only [Act.put, List.setIfInBounds_toArray, List.set_cons_succ, List.set_cons_zero]
      refine lx_nil ?_
      intro X2 hX2 hF
      have hR0 := hR0.bel hX2
      have hb := bel_next hb hX2
      clear hF hX2
      refine op_store_blk rfl 29 (.tmp 2) (.tmp 45) rfl w.heap.size 29 _ hR0 rfl [.string ⟨(be (dval s)).toArray⟩, .int .i64 0] rfl (by rfl) (by intro u hu; simp only [List.mem_cons, List.not_mem_nil, or_false] at hu; rcases hu with rfl | rfl <;> rfl) info_made ?_
      intro w9 hR9 hO9 hB9 hs9
      have hb9 := hB9 _ _ hb (Nat.le_refl _)
      clear hO9 hB9
      go_wp2
      refine post_cell rfl rfl (by rfl) Tryd.underlying29 rfl hR9 info_made ⟨by rw [HOK.out], hb9⟩

set_option maxRecDepth 100000 in
set_option maxHeartbeats 1600000 in
theorem rparO (s : List UInt8) (w : World) (hs : s.length ≤ 4194000) (h0 : 0 < s.length) (hc0 : ¬ (s.getD 0 0).toNat = 48) : Calls Tryd.prog 31 #[.string ⟨s.toArray⟩] w fun e w' => e = .returned (rparV s) ∧ Since w w' := by
  have HNE : Hid (s ≠ []) := fun h => by rw [h] at h0; exact absurd h0 (by decide)
  have HPO : Hid (isd s = true → pok s = true) := fun h => by
    unfold pok
    rw [h]
    have h1 : s.isEmpty = false := by
      cases s with
      | nil => exact absurd rfl HNE.out
      | cons c r => rfl
    rw [h1]
    have h2 : ((s.getD 0 0).toNat == 48) = false := beq_eq_false_iff_ne.2 hc0
    rw [h2]
    rfl
  go_enter Tryd.func31, Tryd.ntmps31
  go_upto_region 1 with (fail)
  have hR0 : Blk (w.alloc (.cells #[.string ⟨#[]⟩, .int .i64 0] 29)) w.heap.size 29 [.string ⟨#[]⟩, .int .i64 0] := Blk.new rfl
  have hb : Below w.heap.size w (w.alloc (.cells #[.string ⟨#[]⟩, .int .i64 0] 29)) := (Below.refl _ _).alloc (Nat.le_refl _) _
  generalize w.alloc (.cells #[.string ⟨#[]⟩, .int .i64 0] 29) = W0 at hR0 hb ⊢
  refine lx_plain [] (lasts_nil) ?_
  simp only [its, Nat.zero_add, Nat.reduceAdd]
  refine lx_val (by rfl) (.string ⟨s.toArray⟩) (fun X hX hF => by rfl) ?_
  simp only [Act.put, List.setIfInBounds_toArray, List.set_cons_succ, List.set_cons_zero]
  refine lx_val (by rfl) (.bool false) (fun X hX hF => exec_eqsB _ _ _ _ (by rfl) s ([] : List UInt8) (by rfl) (by rfl) false (eqs_f HNE.out) X) ?_
  simp only [Act.put, List.setIfInBounds_toArray, List.set_cons_succ, List.set_cons_zero]
  refine lx_val (by rfl) (.bool false) (fun X hX hF => by rfl) ?_
  simp only [Act.put, List.setIfInBounds_toArray, List.set_cons_succ, List.set_cons_zero]
  refine lx_val (by rfl) (.string ⟨s.toArray⟩) (fun X hX hF => by rfl) ?_
  simp only [Act.put, List.setIfInBounds_toArray, List.set_cons_succ, List.set_cons_zero]
  refine lx_val (by rfl) (.int .u8 ((s.getD 0 0).toNat : Int)) (fun X hX hF => exec_chr _ Tryd.underlying9 _ _ (by rfl) s 0 (by rfl) (by rfl) (by omega) (by omega) X) ?_
  simp only [Act.put, List.setIfInBounds_toArray, List.set_cons_succ, List.set_cons_zero]
  refine lx_val (by rfl) (.bool false) (fun X hX hF => exec_eqi _ _ _ _ (by rfl) .u8 ((s.getD 0 0).toNat : Int) 48 (by rfl) (by rfl) false (decide_eq_false (by omega)) X) ?_
  simp only [Act.put, List.setIfInBounds_toArray, List.set_cons_succ, List.set_cons_zero]
  refine lx_val (by rfl) (.bool false) (fun X hX hF => by rfl) ?_
  simp only [Act.put, List.setIfInBounds_toArray, List.set_cons_succ, List.set_cons_zero]
  refine lx_skip (by rfl) ?_
  simp only [Act.put, List.setIfInBounds_toArray, List.set_cons_succ, List.set_cons_zero]
  refine lx_skip (by rfl) ?_
  simp only [Act.put, List.setIfInBounds_toArray, List.set_cons_succ, List.set_cons_zero]
  refine lx_skip (by rfl) ?_
  simp only [Act.put, List.setIfInBounds_toArray, List.set_cons_succ, List.set_cons_zero]
  refine lx_val (by rfl) (.bool false) (fun X hX hF => by rfl) ?_
  simp only [Act.put, List.setIfInBounds_toArray, List.set_cons_succ, List.set_cons_zero]
  refine lx_val (by rfl) (.bool false) (fun X hX hF => by rfl) ?_
  simp only [Act.put, List.setIfInBounds_toArray, List.set_cons_succ, List.set_cons_zero]
  refine lx_nil ?_
  intro X1 hX1 hF
  have hR0 := hR0.bel hX1
  have hb := bel_next hb hX1
  clear hF hX1
  go_wp2
  go_loopw [3, 4] (fun ov kv wr => ∃ k : Nat, k ≤ s.length ∧ kv = .int .i64 (k : Int) ∧ ov = .string ⟨(be (dval (s.take k))).toArray⟩ ∧ isd (s.take k) = true ∧ Blk wr w.heap.size 29 [.string ⟨#[]⟩, .int .i64 0] ∧ Below w.heap.size w wr) (fun _ kv _ => s.length - (intOf kv).toNat)
  case atStart => exact ⟨0, by omega, rfl, rfl, rfl, hR0, hb⟩
  case round =>
    clear hR0 hb
    obtain ⟨k, hk, rfl, rfl, his, hR0, hb⟩ := hrel
    have hlx := be_dval his
    have hlk : (s.take k).length ≤ k := List.length_take_le _ _
    have HIS := Lib.hid his
    clear his
    rcases Nat.lt_or_ge k s.length with hlt | hlt
    · obtain ⟨y, hy⟩ : ∃ y, y = (s.getD k 0).toNat := ⟨_, rfl⟩
      have hy2 : y < 256 := hy ▸ u8_lt _
      have HY := Lib.hid hy
      clear hy
      go_upto_region 5 with (fail)
      refine lx_plain [] (lasts_nil) ?_
      simp only [its, Nat.zero_add, Nat.reduceAdd]
      refine lx_val (by rfl) (.int .i64 (k : Int)) (fun X hX hF => by rfl) ?_
      simp only [Act.put, List.setIfInBounds_toArray, List.set_cons_succ, List.set_cons_zero]
      refine lx_val (by rfl) (.string ⟨s.toArray⟩) (fun X hX hF => by rfl) ?_
      simp only [Act.put, List.setIfInBounds_toArray, List.set_cons_succ, List.set_cons_zero]
      refine lx_val (by rfl) (.int .i64 (s.length : Int)) (fun X hX hF => exec_lens Tryd.underlying9 _ (by rfl) s (by rfl) _ rfl X) ?_
      simp only [Act.put, List.setIfInBounds_toArray, List.set_cons_succ, List.set_cons_zero]
      refine lx_val (by rfl) (.bool true) (fun X hX hF => exec_lss _ _ _ _ (by rfl) .i64 (k : Int) (s.length : Int) (by rfl) (by rfl) true (decide_eq_true (by omega)) X) ?_
      simp only [Act.put, List.setIfInBounds_toArray, List.set_cons_succ, List.set_cons_zero]
      refine lx_nil ?_
      intro X1 hX1 hF
      have hR0 := hR0.bel hX1
      have hb := bel_next hb hX1
      clear hF hX1
      by_cases hd : 48 ≤ y ∧ y ≤ 57
      · obtain ⟨hd1, hd2⟩ := hd
        have HDV : Hid (dval (s.take (k + 1)) = dval (s.take k) * 10 + (y - 48)) := by
          show _ = _
          rw [dval_take_succ s hlt, ← HY.out, Nat.mul_comm]
        have HIS2 : Hid (isd (s.take (k + 1)) = true) := by
          show _ = _
          rw [isd_take_succ s hlt, HIS.out, ← HY.out, decide_eq_true ⟨hd1, hd2⟩]
          rfl
        have HLW : Hid (val [UInt8.ofNat (y - 48)] = y - 48) := by
          show _ = _
          have : val [UInt8.ofNat (y - 48)] = (UInt8.ofNat (y - 48)).toNat := by simp [val, lvN]
          rw [this, u8n, Nat.mod_eq_of_lt (by omega)]
        have hm10 : (be (dval (s.take k) * 10)).length ≤ k + 1 := be_len (by
          have h1 := lt_be_len (dval (s.take k))
          have h2 := Nat.lt_of_lt_of_le h1 (Nat.pow_le_pow_right (n := 256) (by omega) (show (be (dval (s.take k))).length ≤ k by omega))
          rw [Nat.pow_succ]
          omega)
        go_upto_region 7 with (fail)
        refine lx_plain [] (lasts_nil) ?_
        simp only [its, Nat.zero_add, Nat.reduceAdd]
        refine lx_val (by rfl) (.string ⟨s.toArray⟩) (fun X hX hF => by rfl) ?_
        simp only [Act.put, List.setIfInBounds_toArray, List.set_cons_succ, List.set_cons_zero]
        refine lx_val (by rfl) (.int .i64 (k : Int)) (fun X hX hF => by rfl) ?_
        simp only [Act.put, List.setIfInBounds_toArray, List.set_cons_succ, List.set_cons_zero]
        refine lx_val (by rfl) (.int .u8 (y : Int)) (fun X hX hF => (exec_chr _ Tryd.underlying9 _ _ (by rfl) s k (by rfl) (by rfl) (by omega) hlt X).trans (by rw [← HY.out])) ?_
        simp only [Act.put, List.setIfInBounds_toArray, List.set_cons_succ, List.set_cons_zero]
        refine lx_val (by rfl) (.bool false) (fun X hX hF => exec_lss _ _ _ _ (by rfl) .u8 (y : Int) 48 (by rfl) (by rfl) false (decide_eq_false (by omega)) X) ?_
        simp only [Act.put, List.setIfInBounds_toArray, List.set_cons_succ, List.set_cons_zero]
        refine lx_val (by rfl) (.bool false) (fun X hX hF => by rfl) ?_
        simp only [Act.put, List.setIfInBounds_toArray, List.set_cons_succ, List.set_cons_zero]
        refine lx_val (by rfl) (.string ⟨s.toArray⟩) (fun X hX hF => by rfl) ?_
        simp only [Act.put, List.setIfInBounds_toArray, List.set_cons_succ, List.set_cons_zero]
        refine lx_val (by rfl) (.int .i64 (k : Int)) (fun X hX hF => by rfl) ?_
        simp only [Act.put, List.setIfInBounds_toArray, List.set_cons_succ, List.set_cons_zero]
        refine lx_val (by rfl) (.int .u8 (y : Int)) (fun X hX hF => (exec_chr _ Tryd.underlying9 _ _ (by rfl) s k (by rfl) (by rfl) (by omega) hlt X).trans (by rw [← HY.out])) ?_
        simp only [Act.put, List.setIfInBounds_toArray, List.set_cons_succ, List.set_cons_zero]
        refine lx_val (by rfl) (.bool false) (fun X hX hF => exec_gtr _ _ _ _ (by rfl) .u8 (y : Int) 57 (by rfl) (by rfl) false (decide_eq_false (by omega)) X) ?_
        simp only [Act.put, List.setIfInBounds_toArray, List.set_cons_succ, List.set_cons_zero]
        refine lx_val (by rfl) (.bool false) (fun X hX hF => by rfl) ?_
        simp only [Act.put, List.setIfInBounds_toArray, List.set_cons_succ, List.set_cons_zero]
        refine lx_nil ?_
        intro X2 hX2 hF
        have hR0 := hR0.bel hX2
        have hb := bel_next hb hX2
        clear hF hX2
        go_upto_region 9 with (fail)
        refine lx_region [none, none, none, none, none, none, some (Bts [UInt8.ofNat (y - 48)])] (by kernel_rfl) (by kernel_rfl) (lasts_none (lasts_none (lasts_none (lasts_none (lasts_none (lasts_none (lasts_some (Bts.lasts _) (lasts_nil)))))))) ?_
        simp only [its, Nat.zero_add, Nat.reduceAdd]
        refine lx_val (by rfl) (.string ⟨(be (dval (s.take k))).toArray⟩) (fun X hX hF => by rfl) ?_
        simp only [Act.put, List.setIfInBounds_toArray, List.set_cons_succ, List.set_cons_zero]
        refine lx_call (by rfl) 23 _ _ (by rfl) (.string ⟨(be (dval (s.take k) * 10)).toArray⟩) [.string ⟨(be (dval (s.take k))).toArray⟩, .string ⟨([10] : List UInt8).toArray⟩] (by rfl) (by kernel_rfl) (fun _ => by go_simp) (fun X hX hF => (rmulC (be (dval (s.take k))) [10] X (by omega) (by simp only [List.length_cons, List.length_nil]; omega)).mono fun e X' ⟨h1, h2⟩ => ⟨by rw [h1, val_be, ten], h2⟩) ?_
        simp only [Act.put, List.setIfInBounds_toArray, List.set_cons_succ, List.set_cons_zero]
        refine lx_val (by rfl) (.string ⟨s.toArray⟩) (fun X hX hF => by rfl) ?_
        simp only [Act.put, List.setIfInBounds_toArray, List.set_cons_succ, List.set_cons_zero]
        refine lx_val (by rfl) (.int .i64 (k : Int)) (fun X hX hF => by rfl) ?_
        simp only [Act.put, List.setIfInBounds_toArray, List.set_cons_succ, List.set_cons_zero]
        refine lx_val (by rfl) (.int .u8 (y : Int)) (fun X hX hF => (exec_chr _ Tryd.underlying9 _ _ (by rfl) s k (by rfl) (by rfl) (by omega) hlt X).trans (by rw [← HY.out])) ?_
        simp only [Act.put, List.setIfInBounds_toArray, List.set_cons_succ, List.set_cons_zero]
        refine lx_val (by rfl) (.int .u8 ((y - 48 : Nat) : Int)) (fun X hX hF => exec_subk _ _ _ _ (by rfl) .u8 (y : Int) 48 ((y - 48 : Nat) : Int) (by rfl) (by rfl) (by rw [w8 (by omega) (by omega)]; omega) X) ?_
        simp only [Act.put, List.setIfInBounds_toArray, List.set_cons_succ, List.set_cons_zero]
        refine lx_new (by rfl) (fun X hX hF => ⟨_, _, exec_bs8 _ (by rfl) _ (by rfl) X, Bts.new1 X _ (UInt8.ofNat (y - 48)) (by rw [u8n]; omega), since_alloc X _⟩) ?_
        intro v41
        simp only [Act.put, List.setIfInBounds_toArray, List.set_cons_succ, List.set_cons_zero]
        refine lx_val (by rfl) (.string ⟨[UInt8.ofNat (y - 48)].toArray⟩) (fun X hX hF => by obtain ⟨A9, c9, h9, hr9⟩ := (hF _ _ List.mem_cons_self rfl); subst h9; exact exec_str _ _ 5 Tryd.underlying61 Tryd.underlying5 Tryd.underlying9 _ (by rfl) (by rfl) hr9) ?_
        simp only [Act.put, List.setIfInBounds_toArray, List.set_cons_succ, List.set_cons_zero]
        refine lx_call (by rfl) 21 _ _ (by rfl) (.string ⟨(be (dval (s.take k) * 10 + (y - 48))).toArray⟩) [.string ⟨(be (dval (s.take k) * 10)).toArray⟩, .string ⟨[UInt8.ofNat (y - 48)].toArray⟩] (by rfl) (by kernel_rfl) (fun _ => by go_simp) (fun X hX hF => (raddC (be (dval (s.take k) * 10)) [UInt8.ofNat (y - 48)] X (by omega) (by simp only [List.length_cons, List.length_nil]; omega)).mono fun e X' ⟨h1, h2⟩ => ⟨by rw [h1, val_be, HLW.out], h2⟩) ?_
        simp only [Act.put, List.setIfInBounds_toArray, List.set_cons_succ, List.set_cons_zero]
        refine lx_val (by rfl) (.string ⟨(be (dval (s.take k) * 10 + (y - 48))).toArray⟩) (fun X hX hF => by rfl) ?_
        simp only [Act.put, List.setIfInBounds_toArray, List.set_cons_succ, List.set_cons_zero]
        refine lx_nil ?_
        intro X3 hX3 hF
        have hv41 := hF _ _ List.mem_cons_self
        have hR0 := hR0.bel hX3
        have hb := bel_next hb hX3
        clear hF hX3
        clear hv41
        go_upto_region 6 with (fail)
        refine lx_plain [] (lasts_nil) ?_
        simp only [its, Nat.zero_add, Nat.reduceAdd]
        refine lx_val (by rfl) (.int .i64 (k : Int)) (fun X hX hF => by rfl) ?_
        simp only [Act.put, List.setIfInBounds_toArray, List.set_cons_succ, List.set_cons_zero]
        refine lx_val (by rfl) (.int .i64 ((k + 1 : Nat) : Int)) (fun X hX hF => exec_add _ _ _ _ (by rfl) (k : Int) 1 ((k + 1 : Nat) : Int) (by rfl) (by rfl) (by omega) (by omega) (by omega) X) ?_
        simp only [Act.put, List.setIfInBounds_toArray, List.set_cons_succ, List.set_cons_zero]
        refine lx_val (by rfl) (.int .i64 ((k + 1 : Nat) : Int)) (fun X hX hF => by rfl) ?_
        simp only [Act.put, List.setIfInBounds_toArray, List.set_cons_succ, List.set_cons_zero]
        refine lx_nil ?_
        intro X4 hX4 hF
        have hR0 := hR0.bel hX4
        have hb := bel_next hb hX4
        clear hF hX4
        go_wp2
        go_roundw
        case rel => exact ⟨k + 1, by omega, rfl, by rw [HDV.out], HIS2.out, hR0, hb⟩
        case measure => simp [intOf]; omega
      · have HBAD : Hid (rparV s = .agg #[.string ⟨#[]⟩, .int .i64 27]) := rparV_f (pok_bad hlt (by rw [← HY.out]; exact hd))
        rcases Nat.lt_or_ge y 48 with h48 | h48
        · clear hd
          go_upto_region 7 with (fail)
          refine lx_plain [] (lasts_nil) ?_
          simp only [its, Nat.zero_add, Nat.reduceAdd]
          refine lx_val (by rfl) (.string ⟨s.toArray⟩) (fun X hX hF => by rfl) ?_
          simp only [Act.put, List.setIfInBounds_toArray, List.set_cons_succ, List.set_cons_zero]
          refine lx_val (by rfl) (.int .i64 (k : Int)) (fun X hX hF => by rfl) ?_
          simp only [Act.put, List.setIfInBounds_toArray, List.set_cons_succ, List.set_cons_zero]
          refine lx_val (by rfl) (.int .u8 (y : Int)) (fun X hX hF => (exec_chr _ Tryd.underlying9 _ _ (by rfl) s k (by rfl) (by rfl) (by omega) hlt X).trans (by rw [← HY.out])) ?_
          simp only [Act.put, List.setIfInBounds_toArray, List.set_cons_succ, List.set_cons_zero]
          refine lx_val (by rfl) (.bool true) (fun X hX hF => exec_lss _ _ _ _ (by rfl) .u8 (y : Int) 48 (by rfl) (by rfl) true (decide_eq_true (by omega)) X) ?_
          simp only [Act.put, List.setIfInBounds_toArray, List.set_cons_succ, List.set_cons_zero]
          refine lx_val (by rfl) (.bool true) (fun X hX hF => by rfl) ?_
          simp only [Act.put, List.setIfInBounds_toArray, List.set_cons_succ, List.set_cons_zero]
          refine lx_skip (by rfl) ?_
          simp only [Act.put, List.setIfInBounds_toArray, List.set_cons_succ, List.set_cons_zero]
          refine lx_skip (by rfl) ?_
          simp only [Act.put, List.setIfInBounds_toArray, List.set_cons_succ, List.set_cons_zero]
          refine lx_skip (by rfl) ?_
          simp only [Act.put, List.setIfInBounds_toArray, List.set_cons_succ, List.set_cons_zero]
          refine lx_skip (by rfl) ?_
          simp only [Act.put, List.setIfInBounds_toArray, List.set_cons_succ, List.set_cons_zero]
          refine lx_val (by rfl) (.bool true) (fun X hX hF => by rfl) ?_
          simp only [Act.put, List.setIfInBounds_toArray, List.set_cons_succ, List.set_cons_zero]
          refine lx_nil ?_
          intro X2 hX2 hF
          have hR0 := hR0.bel hX2
          have hb := bel_next hb hX2
          clear hF hX2
          go_upto_region 8 with (fail)
          refine lx_plain_to 1 [] (lasts_nil) ?_
          simp only [its, List.take, List.drop, Nat.zero_add, Nat.reduceAdd]
          refine lx_val (by rfl) (.agg #[.string ⟨#[]⟩, .int .i64 27]) (fun X hX hF => by (unfold execOp; go_simp)) ?_
          simp only [Act.put, List.setIfInBounds_toArray, List.set_cons_succ, List.set_cons_zero]
          refine lx_nil ?_
          intro X3 hX3 hF
          have hR0 := hR0.bel hX3
          have hb := bel_next hb hX3
          clear hF hX3
          refine op_store_blk rfl 29 (.tmp 2) (.tmp 34) rfl w.heap.size 29 _ hR0 rfl [.string ⟨#[]⟩, .int .i64 27] rfl (by rfl) (by intro u hu; simp only [List.mem_cons, List.not_mem_nil, or_false] at hu; rcases hu with rfl | rfl <;> rfl) info_made ?_
          intro w9 hR9 hO9 hB9 hs9
          have hb9 := hB9 _ _ hb (Nat.le_refl _)
          clear hO9 hB9
          go_wp2
          refine post_cell rfl rfl (by rfl) Tryd.underlying29 rfl hR9 info_made ⟨by rw [HBAD.out], hb9⟩
        · have h57 : 57 < y := by omega
          clear hd
          go_upto_region 7 with (fail)
          refine lx_plain [] (lasts_nil) ?_
          simp only [its, Nat.zero_add, Nat.reduceAdd]
          refine lx_val (by rfl) (.string ⟨s.toArray⟩) (fun X hX hF => by rfl) ?_
          simp only [Act.put, List.setIfInBounds_toArray, List.set_cons_succ, List.set_cons_zero]
          refine lx_val (by rfl) (.int .i64 (k : Int)) (fun X hX hF => by rfl) ?_
          simp only [Act.put, List.setIfInBounds_toArray, List.set_cons_succ, List.set_cons_zero]
          refine lx_val (by rfl) (.int .u8 (y : Int)) (fun X hX hF => (exec_chr _ Tryd.underlying9 _ _ (by rfl) s k (by rfl) (by rfl) (by omega) hlt X).trans (by rw [← HY.out])) ?_
          simp only [Act.put, List.setIfInBounds_toArray, List.set_cons_succ, List.set_cons_zero]
          refine lx_val (by rfl) (.bool false) (fun X hX hF => exec_lss _ _ _ _ (by rfl) .u8 (y : Int) 48 (by rfl) (by rfl) false (decide_eq_false (by omega)) X) ?_
          simp only [Act.put, List.setIfInBounds_toArray, List.set_cons_succ, List.set_cons_zero]
          refine lx_val (by rfl) (.bool false) (fun X hX hF => by rfl) ?_
          simp only [Act.put, List.setIfInBounds_toArray, List.set_cons_succ, List.set_cons_zero]
          refine lx_val (by rfl) (.string ⟨s.toArray⟩) (fun X hX hF => by rfl) ?_
          simp only [Act.put, List.setIfInBounds_toArray, List.set_cons_succ, List.set_cons_zero]
          refine lx_val (by rfl) (.int .i64 (k : Int)) (fun X hX hF => by rfl) ?_
          simp only [Act.put, List.setIfInBounds_toArray, List.set_cons_succ, List.set_cons_zero]
          refine lx_val (by rfl) (.int .u8 (y : Int)) (fun X hX hF => (exec_chr _ Tryd.underlying9 _ _ (by rfl) s k (by rfl) (by rfl) (by omega) hlt X).trans (by rw [← HY.out])) ?_
          simp only [Act.put, List.setIfInBounds_toArray, List.set_cons_succ, List.set_cons_zero]
          refine lx_val (by rfl) (.bool true) (fun X hX hF => exec_gtr _ _ _ _ (by rfl) .u8 (y : Int) 57 (by rfl) (by rfl) true (decide_eq_true (by omega)) X) ?_
          simp only [Act.put, List.setIfInBounds_toArray, List.set_cons_succ, List.set_cons_zero]
          refine lx_val (by rfl) (.bool true) (fun X hX hF => by rfl) ?_
          simp only [Act.put, List.setIfInBounds_toArray, List.set_cons_succ, List.set_cons_zero]
          refine lx_nil ?_
          intro X2 hX2 hF
          have hR0 := hR0.bel hX2
          have hb := bel_next hb hX2
          clear hF hX2
          go_upto_region 8 with (fail)
          refine lx_plain_to 1 [] (lasts_nil) ?_
          simp only [its, List.take, List.drop, Nat.zero_add, Nat.reduceAdd]
          refine lx_val (by rfl) (.agg #[.string ⟨#[]⟩, .int .i64 27]) (fun X hX hF => by (unfold execOp; go_simp)) ?_
          simp only [Act.put, List.setIfInBounds_toArray, List.set_cons_succ, List.set_cons_zero]
          refine lx_nil ?_
          intro X3 hX3 hF
          have hR0 := hR0.bel hX3
          have hb := bel_next hb hX3
          clear hF hX3
          refine op_store_blk rfl 29 (.tmp 2) (.tmp 34) rfl w.heap.size 29 _ hR0 rfl [.string ⟨#[]⟩, .int .i64 27] rfl (by rfl) (by intro u hu; simp only [List.mem_cons, List.not_mem_nil, or_false] at hu; rcases hu with rfl | rfl <;> rfl) info_made ?_
          intro w9 hR9 hO9 hB9 hs9
          have hb9 := hB9 _ _ hb (Nat.le_refl _)
          clear hO9 hB9
          go_wp2
          refine post_cell rfl rfl (by rfl) Tryd.underlying29 rfl hR9 info_made ⟨by rw [HBAD.out], hb9⟩
    · have HT : Hid (s.take k = s) := List.take_of_length_le (by omega)
      have HOK : Hid (rparV s = .agg #[.string ⟨(be (dval s)).toArray⟩, .int .i64 0]) := rparV_t (HPO.out (by rw [← HT.out]; exact HIS.out))
      rw [HT.out]
      go_upto_region 5 with (fail)
      refine lx_plain [] (lasts_nil) ?_
      simp only [its, Nat.zero_add, Nat.reduceAdd]
      refine lx_val (by rfl) (.int .i64 (k : Int)) (fun X hX hF => by rfl) ?_
      simp only [Act.put, List.setIfInBounds_toArray, List.set_cons_succ, List.set_cons_zero]
      refine lx_val (by rfl) (.string ⟨s.toArray⟩) (fun X hX hF => by rfl) ?_
      simp only [Act.put, List.setIfInBounds_toArray, List.set_cons_succ, List.set_cons_zero]
      refine lx_val (by rfl) (.int .i64 (s.length : Int)) (fun X hX hF => exec_lens Tryd.underlying9 _ (by rfl) s (by rfl) _ rfl X) ?_
      simp only [Act.put, List.setIfInBounds_toArray, List.set_cons_succ, List.set_cons_zero]
      refine lx_val (by rfl) (.bool false) (fun X hX hF => exec_lss _ _ _ _ (by rfl) .i64 (k : Int) (s.length : Int) (by rfl) (by rfl) false (decide_eq_false (by omega)) X) ?_
      simp only [Act.put, List.setIfInBounds_toArray, List.set_cons_succ, List.set_cons_zero]
      refine lx_nil ?_
      intro X1 hX1 hF
      have hR0 := hR0.bel hX1
      have hb := bel_next hb hX1
      clear hF hX1
      go_upto_region 10 with (fail)
      refine lx_plain_to 2 [] (lasts_nil) ?_
      simp only [its, List.take, List.drop, Nat.zero_add, Nat.reduceAdd]
      refine lx_val (by rfl) (.string ⟨(be (dval s)).toArray⟩) (fun X hX hF => by rfl) ?_
      simp only [Act.put, List.setIfInBounds_toArray, List.set_cons_succ, List.set_cons_zero]
      refine lx_val (by rfl) (.agg #[.string ⟨(be (dval s)).toArray⟩, .int .i64 0]) (fun X hX hF => by (unfold execOp; go_simp)) ?_
      simp only [Act.put, List.setIfInBounds_toArray, List.set_cons_succ, List.set_cons_zero]
      refine lx_nil ?_
      intro X2 hX2 hF
      have hR0 := hR0.bel hX2
      have hb := bel_next hb hX2
      clear hF hX2
      refine op_store_blk rfl 29 (.tmp 2) (.tmp 45) rfl w.heap.size 29 _ hR0 rfl [.string ⟨(be (dval s)).toArray⟩, .int .i64 0] rfl (by rfl) (by intro u hu; simp only [List.mem_cons, List.not_mem_nil, or_false] at hu; rcases hu with rfl | rfl <;> rfl) info_made ?_
      intro w9 hR9 hO9 hB9 hs9
      have hb9 := hB9 _ _ hb (Nat.le_refl _)
      clear hO9 hB9
      go_wp2
      refine post_cell rfl rfl (by rfl) Tryd.underlying29 rfl hR9 info_made ⟨by rw [HOK.out], hb9⟩

theorem rparseC (s : List UInt8) (w : World) (hs : s.length ≤ 4194000) : Calls Tryd.prog 31 #[.string ⟨s.toArray⟩] w fun e w' => e = .returned (rparV s) ∧ Since w w' := by
  rcases Nat.eq_zero_or_pos s.length with h0 | h0
  · obtain rfl : s = [] := List.eq_nil_of_length_eq_zero h0
    exact rparN w
  · by_cases hc : (s.getD 0 0).toNat = 48
    · rcases Nat.lt_or_ge 1 s.length with h1 | h1
      · exact rparL s w hs h0 hc h1
      · exact rparZ s w hs h0 hc h1
    · exact rparO s w hs h0 hc
end Go.Proofs.YtglnabciomlmmaaDoor
