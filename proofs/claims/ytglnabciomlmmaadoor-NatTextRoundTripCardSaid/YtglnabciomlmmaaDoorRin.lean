/-
  The references: Int, Value.
-/
import Derived.Test.YtglnabciomlmmaaDoorRdv
namespace Go.Proofs.YtglnabciomlmmaaDoor
open Go.RowKit

theorem info_cnt : (Tryd.prog.info? 45).map (·.size) = some 2 := by kernel_rfl
theorem be_step {m : Nat} (h : 0 < m) : be m = be (m / 256) ++ [UInt8.ofNat (m % 256)] := by
  unfold be
  rw [dg_cons (by omega) h, List.map_cons, List.reverse_cons]
set_option maxRecDepth 100000 in
set_option maxHeartbeats 1600000 in
theorem rintE (n : Int) (w : World) (hn : n < 0) : Calls Tryd.prog 29 #[.int .i64 n] w fun e w' => e = .returned (.agg #[.string ⟨#[]⟩, .int .i64 3]) ∧ Since w w' := by
  go_enter Tryd.func29, Tryd.ntmps29
  go_upto_region 1 with (fail)
  have hR0 : Blk (w.alloc (.cells #[.string ⟨#[]⟩, .int .i64 0] 29)) w.heap.size 29 [.string ⟨#[]⟩, .int .i64 0] := Blk.new rfl
  have hb : Below w.heap.size w (w.alloc (.cells #[.string ⟨#[]⟩, .int .i64 0] 29)) := (Below.refl _ _).alloc (Nat.le_refl _) _
  generalize w.alloc (.cells #[.string ⟨#[]⟩, .int .i64 0] 29) = W0 at hR0 hb ⊢
  refine lx_plain [] (lasts_nil) ?_
  simp only [its, Nat.zero_add, Nat.reduceAdd]
  refine lx_val (by rfl) (.int .i64 n) (fun X hX hF => by rfl) ?_
  simp only [Act.put, List.setIfInBounds_toArray, List.set_cons_succ, List.set_cons_zero]
  refine lx_val (by rfl) (.bool true) (fun X hX hF => exec_lss _ _ _ _ (by rfl) .i64 n 0 (by rfl) (by rfl) true (decide_eq_true (by omega)) X) ?_
  simp only [Act.put, List.setIfInBounds_toArray, List.set_cons_succ, List.set_cons_zero]
  refine lx_nil ?_
  intro X1 hX1 hF
  have hR0 := hR0.bel hX1
  have hb := bel_next hb hX1
  clear hF hX1
  go_upto_region 2 with (fail)
  refine lx_plain_to 1 [] (lasts_nil) ?_
  simp only [its, List.take, List.drop, Nat.zero_add, Nat.reduceAdd]
  refine lx_val (by rfl) (.agg #[.string ⟨#[]⟩, .int .i64 3]) (fun X hX hF => by (unfold execOp; go_simp)) ?_
  simp only [Act.put, List.setIfInBounds_toArray, List.set_cons_succ, List.set_cons_zero]
  refine lx_nil ?_
  intro X2 hX2 hF
  have hR0 := hR0.bel hX2
  have hb := bel_next hb hX2
  clear hF hX2
  refine op_store_blk rfl 29 (.tmp 2) (.tmp 6) rfl w.heap.size 29 _ hR0 rfl [.string ⟨#[]⟩, .int .i64 3] rfl (by rfl) (by intro u hu; simp only [List.mem_cons, List.not_mem_nil, or_false] at hu; rcases hu with rfl | rfl <;> rfl) info_made ?_
  intro w9 hR9 hO9 hB9 hs9
  have hb9 := hB9 _ _ hb (Nat.le_refl _)
  clear hO9 hB9
  go_wp2
  refine post_cell rfl rfl (by rfl) Tryd.underlying29 rfl hR9 info_made ⟨rfl, hb9⟩

set_option maxRecDepth 100000 in
set_option maxHeartbeats 1600000 in
theorem rintC (n : Nat) (w : World) (hn : n < 9223372036854775808) : Calls Tryd.prog 29 #[.int .i64 (n : Int)] w fun e w' => e = .returned (.agg #[.string ⟨(be n).toArray⟩, .int .i64 0]) ∧ Since w w' := by
  have hl8 : (be n).length ≤ 8 := be_len (by omega)
  go_enter Tryd.func29, Tryd.ntmps29
  go_upto_region 1 with (fail)
  have hR0 : Blk (w.alloc (.cells #[.string ⟨#[]⟩, .int .i64 0] 29)) w.heap.size 29 [.string ⟨#[]⟩, .int .i64 0] := Blk.new rfl
  have hb : Below w.heap.size w (w.alloc (.cells #[.string ⟨#[]⟩, .int .i64 0] 29)) := (Below.refl _ _).alloc (Nat.le_refl _) _
  generalize w.alloc (.cells #[.string ⟨#[]⟩, .int .i64 0] 29) = W0 at hR0 hb ⊢
  refine lx_plain [] (lasts_nil) ?_
  simp only [its, Nat.zero_add, Nat.reduceAdd]
  refine lx_val (by rfl) (.int .i64 (n : Int)) (fun X hX hF => by rfl) ?_
  simp only [Act.put, List.setIfInBounds_toArray, List.set_cons_succ, List.set_cons_zero]
  refine lx_val (by rfl) (.bool false) (fun X hX hF => exec_lss _ _ _ _ (by rfl) .i64 (n : Int) 0 (by rfl) (by rfl) false (decide_eq_false (by omega)) X) ?_
  simp only [Act.put, List.setIfInBounds_toArray, List.set_cons_succ, List.set_cons_zero]
  refine lx_nil ?_
  intro X1 hX1 hF
  have hR0 := hR0.bel hX1
  have hb := bel_next hb hX1
  clear hF hX1
  go_wp2
  go_loopw [0, 3] (fun nv sv wr => ∃ (m : Nat) (l : List UInt8), nv = .int .i64 (m : Int) ∧ sv = .string ⟨l.toArray⟩ ∧ m ≤ n ∧ be n = be m ++ l ∧ Blk wr w.heap.size 29 [.string ⟨#[]⟩, .int .i64 0] ∧ Below w.heap.size w wr) (fun nv _ _ => (intOf nv).toNat)
  case atStart => exact ⟨n, [], rfl, rfl, Nat.le_refl _, by rw [List.append_nil], hR0, hb⟩
  case round =>
    clear hR0 hb
    obtain ⟨m, l, rfl, rfl, hm, hbe, hR0, hb⟩ := hrel
    have hll : l.length ≤ 8 := by rw [hbe, List.length_append] at hl8; omega
    have HBE := Lib.hid hbe
    clear hbe
    rcases Nat.eq_zero_or_pos m with h0 | h0
    · have HN : Hid (be n = l) := by show _ = _; rw [HBE.out, h0]; rfl
      have hm0 : m ≤ 0 := by omega
      clear h0
      go_upto_region 4 with (fail)
      refine lx_plain [] (lasts_nil) ?_
      simp only [its, Nat.zero_add, Nat.reduceAdd]
      refine lx_val (by rfl) (.int .i64 (m : Int)) (fun X hX hF => by rfl) ?_
      simp only [Act.put, List.setIfInBounds_toArray, List.set_cons_succ, List.set_cons_zero]
      refine lx_val (by rfl) (.bool false) (fun X hX hF => exec_gtr _ _ _ _ (by rfl) .i64 (m : Int) 0 (by rfl) (by rfl) false (decide_eq_false (by omega)) X) ?_
      simp only [Act.put, List.setIfInBounds_toArray, List.set_cons_succ, List.set_cons_zero]
      refine lx_nil ?_
      intro X1 hX1 hF
      have hR0 := hR0.bel hX1
      have hb := bel_next hb hX1
      clear hF hX1
      go_upto_region 7 with (fail)
      refine lx_plain_to 2 [] (lasts_nil) ?_
      simp only [its, List.take, List.drop, Nat.zero_add, Nat.reduceAdd]
      refine lx_val (by rfl) (.string ⟨l.toArray⟩) (fun X hX hF => by rfl) ?_
      simp only [Act.put, List.setIfInBounds_toArray, List.set_cons_succ, List.set_cons_zero]
      refine lx_val (by rfl) (.agg #[.string ⟨l.toArray⟩, .int .i64 0]) (fun X hX hF => by (unfold execOp; go_simp)) ?_
      simp only [Act.put, List.setIfInBounds_toArray, List.set_cons_succ, List.set_cons_zero]
      refine lx_nil ?_
      intro X2 hX2 hF
      have hR0 := hR0.bel hX2
      have hb := bel_next hb hX2
      clear hF hX2
      refine op_store_blk rfl 29 (.tmp 2) (.tmp 19) rfl w.heap.size 29 _ hR0 rfl [.string ⟨l.toArray⟩, .int .i64 0] rfl (by rfl) (by intro u hu; simp only [List.mem_cons, List.not_mem_nil, or_false] at hu; rcases hu with rfl | rfl <;> rfl) info_made ?_
      intro w9 hR9 hO9 hB9 hs9
      have hb9 := hB9 _ _ hb (Nat.le_refl _)
      clear hO9 hB9
      go_wp2
      refine post_cell rfl rfl (by rfl) Tryd.underlying29 rfl hR9 info_made ⟨by rw [HN.out], hb9⟩
    · have HBE2 : Hid (be n = be (m / 256) ++ ([UInt8.ofNat (m % 256)] ++ l)) := by show _ = _; rw [HBE.out, be_step h0, List.append_assoc]
      go_upto_region 4 with (fail)
      refine lx_plain [] (lasts_nil) ?_
      simp only [its, Nat.zero_add, Nat.reduceAdd]
      refine lx_val (by rfl) (.int .i64 (m : Int)) (fun X hX hF => by rfl) ?_
      simp only [Act.put, List.setIfInBounds_toArray, List.set_cons_succ, List.set_cons_zero]
      refine lx_val (by rfl) (.bool true) (fun X hX hF => exec_gtr _ _ _ _ (by rfl) .i64 (m : Int) 0 (by rfl) (by rfl) true (decide_eq_true (by omega)) X) ?_
      simp only [Act.put, List.setIfInBounds_toArray, List.set_cons_succ, List.set_cons_zero]
      refine lx_nil ?_
      intro X1 hX1 hF
      have hR0 := hR0.bel hX1
      have hb := bel_next hb hX1
      clear hF hX1
      go_upto_region 5 with (fail)
      refine lx_plain [none, none, none, some (Bts [UInt8.ofNat (m % 256)])] (lasts_none (lasts_none (lasts_none (lasts_some (Bts.lasts _) (lasts_nil))))) ?_
      simp only [its, Nat.zero_add, Nat.reduceAdd]
      refine lx_val (by rfl) (.int .i64 (m : Int)) (fun X hX hF => by rfl) ?_
      simp only [Act.put, List.setIfInBounds_toArray, List.set_cons_succ, List.set_cons_zero]
      refine lx_val (by rfl) (.int .i64 ((m % 256 : Nat) : Int)) (fun X hX hF => exec_rem _ _ _ _ (by rfl) .i64 (m : Int) 256 ((m % 256 : Nat) : Int) (by rfl) (by rfl) (by omega) (by omega) (by omega) X) ?_
      simp only [Act.put, List.setIfInBounds_toArray, List.set_cons_succ, List.set_cons_zero]
      refine lx_val (by rfl) (.int .u8 ((m % 256 : Nat) : Int)) (fun X hX hF => exec_cnv _ _ .i64 .u8 Tryd.underlying3 Tryd.underlying5 _ (by rfl) ((m % 256 : Nat) : Int) ((m % 256 : Nat) : Int) (by rfl) (by rw [w8 (by omega) (by omega)]) X) ?_
      simp only [Act.put, List.setIfInBounds_toArray, List.set_cons_succ, List.set_cons_zero]
      refine lx_new (by rfl) (fun X hX hF => ⟨_, _, exec_bs8 _ (by rfl) _ (by rfl) X, Bts.new1 X _ (UInt8.ofNat (m % 256)) (by rw [u8n]; omega), since_alloc X _⟩) ?_
      intro v12
      simp only [Act.put, List.setIfInBounds_toArray, List.set_cons_succ, List.set_cons_zero]
      refine lx_val (by rfl) (.string ⟨[UInt8.ofNat (m % 256)].toArray⟩) (fun X hX hF => by obtain ⟨A9, c9, h9, hr9⟩ := (hF _ _ List.mem_cons_self rfl); subst h9; exact exec_str _ _ 5 Tryd.underlying61 Tryd.underlying5 Tryd.underlying9 _ (by rfl) (by rfl) hr9) ?_
      simp only [Act.put, List.setIfInBounds_toArray, List.set_cons_succ, List.set_cons_zero]
      refine lx_val (by rfl) (.string ⟨l.toArray⟩) (fun X hX hF => by rfl) ?_
      simp only [Act.put, List.setIfInBounds_toArray, List.set_cons_succ, List.set_cons_zero]
      refine lx_val (by rfl) (.string ⟨([UInt8.ofNat (m % 256)] ++ l).toArray⟩) (fun X hX hF => exec_cat _ _ _ _ (by rfl) [UInt8.ofNat (m % 256)] l (by rfl) (by rfl) (by simp only [List.length_append, List.length_cons, List.length_nil]; omega) X) ?_
      simp only [Act.put, List.setIfInBounds_toArray, List.set_cons_succ, List.set_cons_zero]
      refine lx_val (by rfl) (.string ⟨([UInt8.ofNat (m % 256)] ++ l).toArray⟩) (fun X hX hF => by rfl) ?_
      simp only [Act.put, List.setIfInBounds_toArray, List.set_cons_succ, List.set_cons_zero]
      refine lx_nil ?_
      intro X2 hX2 hF
      have hv12 := hF _ _ List.mem_cons_self
      have hR0 := hR0.bel hX2
      have hb := bel_next hb hX2
      clear hF hX2
      clear hv12
      go_upto_region 6 with (fail)
      refine lx_plain [] (lasts_nil) ?_
      simp only [its, Nat.zero_add, Nat.reduceAdd]
      refine lx_val (by rfl) (.int .i64 (m : Int)) (fun X hX hF => by rfl) ?_
      simp only [Act.put, List.setIfInBounds_toArray, List.set_cons_succ, List.set_cons_zero]
      refine lx_val (by rfl) (.int .i64 ((m / 256 : Nat) : Int)) (fun X hX hF => exec_quo _ _ _ _ (by rfl) .i64 (m : Int) 256 ((m / 256 : Nat) : Int) (by rfl) (by rfl) (by omega) (by omega) (by omega) (IntWalk.i64_in _ (by omega)) X) ?_
      simp only [Act.put, List.setIfInBounds_toArray, List.set_cons_succ, List.set_cons_zero]
      refine lx_val (by rfl) (.int .i64 ((m / 256 : Nat) : Int)) (fun X hX hF => by rfl) ?_
      simp only [Act.put, List.setIfInBounds_toArray, List.set_cons_succ, List.set_cons_zero]
      refine lx_nil ?_
      intro X3 hX3 hF
      have hR0 := hR0.bel hX3
      have hb := bel_next hb hX3
      clear hF hX3
      go_wp2
      go_roundw
      case rel => exact ⟨m / 256, [UInt8.ofNat (m % 256)] ++ l, rfl, rfl, by omega, HBE2.out, hR0, hb⟩
      case measure => simp [intOf]; omega

theorem le_be_len {n k : Nat} (h : 256 ^ k ≤ n) : k < (be n).length := by
  unfold be
  rw [List.length_reverse, List.length_map]
  exact le_dg_len (by omega) h
theorem be_top {v : Nat} (h : (be v).length = 8) : ∃ r, v = ((be v).getD 0 0).toNat * 72057594037927936 + r ∧ r < 72057594037927936 := by
  have h1 := val_be v
  generalize be v = l at h h1 ⊢
  match l, h with
  | c :: r, h =>
    have hr : r.length = 7 := by simpa using h
    have h2 := val_lt r
    rw [hr] at h2
    rw [val_cons, hr] at h1
    exact ⟨val r, by rw [← h1]; rfl, h2⟩
theorem val_take_le (l : List UInt8) (k : Nat) : val (l.take k) ≤ val l := by
  conv => rhs; rw [← List.take_append_drop k l, val_append]
  have h1 : 0 < 256 ^ (l.drop k).length := Nat.pow_pos (by omega)
  have := Nat.le_mul_of_pos_right (val (l.take k)) h1
  omega
set_option maxRecDepth 100000 in
set_option maxHeartbeats 1600000 in
theorem rvalE1 (a : List UInt8) (w : World) (ha : a.length ≤ 4194304) (hl : 8 < (be (val a)).length) : Calls Tryd.prog 30 #[.string ⟨a.toArray⟩] w fun e w' => e = .returned (.agg #[.int .i64 0, .int .i64 3]) ∧ Since w w' := by
  have la := be_val_len a

  go_enter Tryd.func30, Tryd.ntmps30
  go_upto_region 1 with (fail)
  have hR0 : Blk (w.alloc (.cells #[.int .i64 0, .int .i64 0] 45)) w.heap.size 45 [.int .i64 0, .int .i64 0] := Blk.new rfl
  have hb : Below w.heap.size w (w.alloc (.cells #[.int .i64 0, .int .i64 0] 45)) := (Below.refl _ _).alloc (Nat.le_refl _) _
  generalize w.alloc (.cells #[.int .i64 0, .int .i64 0] 45) = W0 at hR0 hb ⊢
  refine lx_plain [] (lasts_nil) ?_
  simp only [its, Nat.zero_add, Nat.reduceAdd]
  refine lx_val (by rfl) (.string ⟨a.toArray⟩) (fun X hX hF => by rfl) ?_
  simp only [Act.put, List.setIfInBounds_toArray, List.set_cons_succ, List.set_cons_zero]
  refine lx_call (by rfl) 17 _ _ (by rfl) (.string ⟨(be (val a)).toArray⟩) [.string ⟨a.toArray⟩] (by rfl) (by kernel_rfl) (fun _ => by go_simp) (fun X hX hF => rcleanC a X (by omega)) ?_
  simp only [Act.put, List.setIfInBounds_toArray, List.set_cons_succ, List.set_cons_zero]
  refine lx_val (by rfl) (.string ⟨(be (val a)).toArray⟩) (fun X hX hF => by rfl) ?_
  simp only [Act.put, List.setIfInBounds_toArray, List.set_cons_succ, List.set_cons_zero]
  refine lx_nil ?_
  intro X1 hX1 hF
  have hR0 := hR0.bel hX1
  have hb := bel_next hb hX1
  clear hF hX1
  go_upto_region 2 with (fail)
  refine lx_plain [] (lasts_nil) ?_
  simp only [its, Nat.zero_add, Nat.reduceAdd]
  refine lx_val (by rfl) (.string ⟨(be (val a)).toArray⟩) (fun X hX hF => by rfl) ?_
  simp only [Act.put, List.setIfInBounds_toArray, List.set_cons_succ, List.set_cons_zero]
  refine lx_val (by rfl) (.int .i64 ((be (val a)).length : Int)) (fun X hX hF => exec_lens Tryd.underlying9 _ (by rfl) (be (val a)) (by rfl) _ rfl X) ?_
  simp only [Act.put, List.setIfInBounds_toArray, List.set_cons_succ, List.set_cons_zero]
  refine lx_val (by rfl) (.bool true) (fun X hX hF => exec_gtr _ _ _ _ (by rfl) .i64 ((be (val a)).length : Int) 8 (by rfl) (by rfl) true (decide_eq_true (by omega)) X) ?_
  simp only [Act.put, List.setIfInBounds_toArray, List.set_cons_succ, List.set_cons_zero]
  refine lx_val (by rfl) (.bool true) (fun X hX hF => by rfl) ?_
  simp only [Act.put, List.setIfInBounds_toArray, List.set_cons_succ, List.set_cons_zero]
  refine lx_skip (by rfl) ?_
  simp only [Act.put, List.setIfInBounds_toArray, List.set_cons_succ, List.set_cons_zero]
  refine lx_skip (by rfl) ?_
  simp only [Act.put, List.setIfInBounds_toArray, List.set_cons_succ, List.set_cons_zero]
  refine lx_skip (by rfl) ?_
  simp only [Act.put, List.setIfInBounds_toArray, List.set_cons_succ, List.set_cons_zero]
  refine lx_skip (by rfl) ?_
  simp only [Act.put, List.setIfInBounds_toArray, List.set_cons_succ, List.set_cons_zero]
  refine lx_skip (by rfl) ?_
  simp only [Act.put, List.setIfInBounds_toArray, List.set_cons_succ, List.set_cons_zero]
  refine lx_skip (by rfl) ?_
  simp only [Act.put, List.setIfInBounds_toArray, List.set_cons_succ, List.set_cons_zero]
  refine lx_skip (by rfl) ?_
  simp only [Act.put, List.setIfInBounds_toArray, List.set_cons_succ, List.set_cons_zero]
  refine lx_skip (by rfl) ?_
  simp only [Act.put, List.setIfInBounds_toArray, List.set_cons_succ, List.set_cons_zero]
  refine lx_val (by rfl) (.bool true) (fun X hX hF => by rfl) ?_
  simp only [Act.put, List.setIfInBounds_toArray, List.set_cons_succ, List.set_cons_zero]
  refine lx_nil ?_
  intro X2 hX2 hF
  have hR0 := hR0.bel hX2
  have hb := bel_next hb hX2
  clear hF hX2
  go_upto_region 3 with (fail)
  refine lx_plain_to 1 [] (lasts_nil) ?_
  simp only [its, List.take, List.drop, Nat.zero_add, Nat.reduceAdd]
  refine lx_val (by rfl) (.agg #[.int .i64 0, .int .i64 3]) (fun X hX hF => by (unfold execOp; go_simp)) ?_
  simp only [Act.put, List.setIfInBounds_toArray, List.set_cons_succ, List.set_cons_zero]
  refine lx_nil ?_
  intro X3 hX3 hF
  have hR0 := hR0.bel hX3
  have hb := bel_next hb hX3
  clear hF hX3
  refine op_store_blk rfl 45 (.tmp 2) (.tmp 21) rfl w.heap.size 45 _ hR0 rfl [.int .i64 0, .int .i64 3] rfl (by rfl) (by intro u hu; simp only [List.mem_cons, List.not_mem_nil, or_false] at hu; rcases hu with rfl | rfl <;> rfl) info_cnt ?_
  intro w9 hR9 hO9 hB9 hs9
  have hb9 := hB9 _ _ hb (Nat.le_refl _)
  clear hO9 hB9
  go_wp2
  refine post_cell rfl rfl (by rfl) Tryd.underlying45 rfl hR9 info_cnt ⟨rfl, hb9⟩

set_option maxRecDepth 100000 in
set_option maxHeartbeats 1600000 in
theorem rvalE2 (a : List UInt8) (w : World) (ha : a.length ≤ 4194304) (hl : (be (val a)).length = 8) (t : Nat) (ht : t = ((be (val a)).getD 0 0).toNat) (ht2 : 127 < t) : Calls Tryd.prog 30 #[.string ⟨a.toArray⟩] w fun e w' => e = .returned (.agg #[.int .i64 0, .int .i64 3]) ∧ Since w w' := by
  have la := be_val_len a
  have hl1 : (be (val a)).length ≤ 8 ∧ 8 ≤ (be (val a)).length := by omega
  have HT := Lib.hid ht
  clear hl ht
  go_enter Tryd.func30, Tryd.ntmps30
  go_upto_region 1 with (fail)
  have hR0 : Blk (w.alloc (.cells #[.int .i64 0, .int .i64 0] 45)) w.heap.size 45 [.int .i64 0, .int .i64 0] := Blk.new rfl
  have hb : Below w.heap.size w (w.alloc (.cells #[.int .i64 0, .int .i64 0] 45)) := (Below.refl _ _).alloc (Nat.le_refl _) _
  generalize w.alloc (.cells #[.int .i64 0, .int .i64 0] 45) = W0 at hR0 hb ⊢
  refine lx_plain [] (lasts_nil) ?_
  simp only [its, Nat.zero_add, Nat.reduceAdd]
  refine lx_val (by rfl) (.string ⟨a.toArray⟩) (fun X hX hF => by rfl) ?_
  simp only [Act.put, List.setIfInBounds_toArray, List.set_cons_succ, List.set_cons_zero]
  refine lx_call (by rfl) 17 _ _ (by rfl) (.string ⟨(be (val a)).toArray⟩) [.string ⟨a.toArray⟩] (by rfl) (by kernel_rfl) (fun _ => by go_simp) (fun X hX hF => rcleanC a X (by omega)) ?_
  simp only [Act.put, List.setIfInBounds_toArray, List.set_cons_succ, List.set_cons_zero]
  refine lx_val (by rfl) (.string ⟨(be (val a)).toArray⟩) (fun X hX hF => by rfl) ?_
  simp only [Act.put, List.setIfInBounds_toArray, List.set_cons_succ, List.set_cons_zero]
  refine lx_nil ?_
  intro X1 hX1 hF
  have hR0 := hR0.bel hX1
  have hb := bel_next hb hX1
  clear hF hX1
  go_upto_region 2 with (fail)
  refine lx_plain [] (lasts_nil) ?_
  simp only [its, Nat.zero_add, Nat.reduceAdd]
  refine lx_val (by rfl) (.string ⟨(be (val a)).toArray⟩) (fun X hX hF => by rfl) ?_
  simp only [Act.put, List.setIfInBounds_toArray, List.set_cons_succ, List.set_cons_zero]
  refine lx_val (by rfl) (.int .i64 ((be (val a)).length : Int)) (fun X hX hF => exec_lens Tryd.underlying9 _ (by rfl) (be (val a)) (by rfl) _ rfl X) ?_
  simp only [Act.put, List.setIfInBounds_toArray, List.set_cons_succ, List.set_cons_zero]
  refine lx_val (by rfl) (.bool false) (fun X hX hF => exec_gtr _ _ _ _ (by rfl) .i64 ((be (val a)).length : Int) 8 (by rfl) (by rfl) false (decide_eq_false (by omega)) X) ?_
  simp only [Act.put, List.setIfInBounds_toArray, List.set_cons_succ, List.set_cons_zero]
  refine lx_val (by rfl) (.bool false) (fun X hX hF => by rfl) ?_
  simp only [Act.put, List.setIfInBounds_toArray, List.set_cons_succ, List.set_cons_zero]
  refine lx_val (by rfl) (.string ⟨(be (val a)).toArray⟩) (fun X hX hF => by rfl) ?_
  simp only [Act.put, List.setIfInBounds_toArray, List.set_cons_succ, List.set_cons_zero]
  refine lx_val (by rfl) (.int .i64 ((be (val a)).length : Int)) (fun X hX hF => exec_lens Tryd.underlying9 _ (by rfl) (be (val a)) (by rfl) _ rfl X) ?_
  simp only [Act.put, List.setIfInBounds_toArray, List.set_cons_succ, List.set_cons_zero]
  refine lx_val (by rfl) (.bool true) (fun X hX hF => exec_eqi _ _ _ _ (by rfl) .i64 ((be (val a)).length : Int) 8 (by rfl) (by rfl) true (decide_eq_true (by omega)) X) ?_
  simp only [Act.put, List.setIfInBounds_toArray, List.set_cons_succ, List.set_cons_zero]
  refine lx_val (by rfl) (.bool true) (fun X hX hF => by rfl) ?_
  simp only [Act.put, List.setIfInBounds_toArray, List.set_cons_succ, List.set_cons_zero]
  refine lx_val (by rfl) (.string ⟨(be (val a)).toArray⟩) (fun X hX hF => by rfl) ?_
  simp only [Act.put, List.setIfInBounds_toArray, List.set_cons_succ, List.set_cons_zero]
  refine lx_val (by rfl) (.int .u8 (t : Int)) (fun X hX hF => (exec_chr _ Tryd.underlying9 _ _ (by rfl) (be (val a)) 0 (by rfl) (by rfl) (by omega) (by omega) X).trans (by rw [← HT.out])) ?_
  simp only [Act.put, List.setIfInBounds_toArray, List.set_cons_succ, List.set_cons_zero]
  refine lx_val (by rfl) (.bool true) (fun X hX hF => exec_gtr _ _ _ _ (by rfl) .u8 (t : Int) 127 (by rfl) (by rfl) true (decide_eq_true (by omega)) X) ?_
  simp only [Act.put, List.setIfInBounds_toArray, List.set_cons_succ, List.set_cons_zero]
  refine lx_val (by rfl) (.bool true) (fun X hX hF => by rfl) ?_
  simp only [Act.put, List.setIfInBounds_toArray, List.set_cons_succ, List.set_cons_zero]
  refine lx_val (by rfl) (.bool true) (fun X hX hF => by rfl) ?_
  simp only [Act.put, List.setIfInBounds_toArray, List.set_cons_succ, List.set_cons_zero]
  refine lx_nil ?_
  intro X2 hX2 hF
  have hR0 := hR0.bel hX2
  have hb := bel_next hb hX2
  clear hF hX2
  go_upto_region 3 with (fail)
  refine lx_plain_to 1 [] (lasts_nil) ?_
  simp only [its, List.take, List.drop, Nat.zero_add, Nat.reduceAdd]
  refine lx_val (by rfl) (.agg #[.int .i64 0, .int .i64 3]) (fun X hX hF => by (unfold execOp; go_simp)) ?_
  simp only [Act.put, List.setIfInBounds_toArray, List.set_cons_succ, List.set_cons_zero]
  refine lx_nil ?_
  intro X3 hX3 hF
  have hR0 := hR0.bel hX3
  have hb := bel_next hb hX3
  clear hF hX3
  refine op_store_blk rfl 45 (.tmp 2) (.tmp 21) rfl w.heap.size 45 _ hR0 rfl [.int .i64 0, .int .i64 3] rfl (by rfl) (by intro u hu; simp only [List.mem_cons, List.not_mem_nil, or_false] at hu; rcases hu with rfl | rfl <;> rfl) info_cnt ?_
  intro w9 hR9 hO9 hB9 hs9
  have hb9 := hB9 _ _ hb (Nat.le_refl _)
  clear hO9 hB9
  go_wp2
  refine post_cell rfl rfl (by rfl) Tryd.underlying45 rfl hR9 info_cnt ⟨rfl, hb9⟩

theorem rvalE (a : List UInt8) (w : World) (ha : a.length ≤ 4194304) (hv : 9223372036854775808 ≤ val a) : Calls Tryd.prog 30 #[.string ⟨a.toArray⟩] w fun e w' => e = .returned (.agg #[.int .i64 0, .int .i64 3]) ∧ Since w w' := by
  rcases Nat.lt_or_ge 8 (be (val a)).length with h | h
  · exact rvalE1 a w ha h
  · have h7 : 7 < (be (val a)).length := le_be_len (Nat.le_trans (by decide) hv)
    have h8 : (be (val a)).length = 8 := by omega
    obtain ⟨r, h1, h2⟩ := be_top h8
    exact rvalE2 a w ha h8 _ rfl (by omega)

set_option maxRecDepth 100000 in
set_option maxHeartbeats 1600000 in
theorem rvalC1 (a : List UInt8) (w : World) (ha : a.length ≤ 4194304) (hv : val a < 9223372036854775808) (hl : (be (val a)).length < 8) : Calls Tryd.prog 30 #[.string ⟨a.toArray⟩] w fun e w' => e = .returned (.agg #[.int .i64 (val a : Int), .int .i64 0]) ∧ Since w w' := by
  have la := be_val_len a

  go_enter Tryd.func30, Tryd.ntmps30
  go_upto_region 1 with (fail)
  have hR0 : Blk (w.alloc (.cells #[.int .i64 0, .int .i64 0] 45)) w.heap.size 45 [.int .i64 0, .int .i64 0] := Blk.new rfl
  have hb : Below w.heap.size w (w.alloc (.cells #[.int .i64 0, .int .i64 0] 45)) := (Below.refl _ _).alloc (Nat.le_refl _) _
  generalize w.alloc (.cells #[.int .i64 0, .int .i64 0] 45) = W0 at hR0 hb ⊢
  refine lx_plain [] (lasts_nil) ?_
  simp only [its, Nat.zero_add, Nat.reduceAdd]
  refine lx_val (by rfl) (.string ⟨a.toArray⟩) (fun X hX hF => by rfl) ?_
  simp only [Act.put, List.setIfInBounds_toArray, List.set_cons_succ, List.set_cons_zero]
  refine lx_call (by rfl) 17 _ _ (by rfl) (.string ⟨(be (val a)).toArray⟩) [.string ⟨a.toArray⟩] (by rfl) (by kernel_rfl) (fun _ => by go_simp) (fun X hX hF => rcleanC a X (by omega)) ?_
  simp only [Act.put, List.setIfInBounds_toArray, List.set_cons_succ, List.set_cons_zero]
  refine lx_val (by rfl) (.string ⟨(be (val a)).toArray⟩) (fun X hX hF => by rfl) ?_
  simp only [Act.put, List.setIfInBounds_toArray, List.set_cons_succ, List.set_cons_zero]
  refine lx_nil ?_
  intro X1 hX1 hF
  have hR0 := hR0.bel hX1
  have hb := bel_next hb hX1
  clear hF hX1
  go_upto_region 2 with (fail)
  refine lx_plain [] (lasts_nil) ?_
  simp only [its, Nat.zero_add, Nat.reduceAdd]
  refine lx_val (by rfl) (.string ⟨(be (val a)).toArray⟩) (fun X hX hF => by rfl) ?_
  simp only [Act.put, List.setIfInBounds_toArray, List.set_cons_succ, List.set_cons_zero]
  refine lx_val (by rfl) (.int .i64 ((be (val a)).length : Int)) (fun X hX hF => exec_lens Tryd.underlying9 _ (by rfl) (be (val a)) (by rfl) _ rfl X) ?_
  simp only [Act.put, List.setIfInBounds_toArray, List.set_cons_succ, List.set_cons_zero]
  refine lx_val (by rfl) (.bool false) (fun X hX hF => exec_gtr _ _ _ _ (by rfl) .i64 ((be (val a)).length : Int) 8 (by rfl) (by rfl) false (decide_eq_false (by omega)) X) ?_
  simp only [Act.put, List.setIfInBounds_toArray, List.set_cons_succ, List.set_cons_zero]
  refine lx_val (by rfl) (.bool false) (fun X hX hF => by rfl) ?_
  simp only [Act.put, List.setIfInBounds_toArray, List.set_cons_succ, List.set_cons_zero]
  refine lx_val (by rfl) (.string ⟨(be (val a)).toArray⟩) (fun X hX hF => by rfl) ?_
  simp only [Act.put, List.setIfInBounds_toArray, List.set_cons_succ, List.set_cons_zero]
  refine lx_val (by rfl) (.int .i64 ((be (val a)).length : Int)) (fun X hX hF => exec_lens Tryd.underlying9 _ (by rfl) (be (val a)) (by rfl) _ rfl X) ?_
  simp only [Act.put, List.setIfInBounds_toArray, List.set_cons_succ, List.set_cons_zero]
  refine lx_val (by rfl) (.bool false) (fun X hX hF => exec_eqi _ _ _ _ (by rfl) .i64 ((be (val a)).length : Int) 8 (by rfl) (by rfl) false (decide_eq_false (by omega)) X) ?_
  simp only [Act.put, List.setIfInBounds_toArray, List.set_cons_succ, List.set_cons_zero]
  refine lx_val (by rfl) (.bool false) (fun X hX hF => by rfl) ?_
  simp only [Act.put, List.setIfInBounds_toArray, List.set_cons_succ, List.set_cons_zero]
  refine lx_skip (by rfl) ?_
  simp only [Act.put, List.setIfInBounds_toArray, List.set_cons_succ, List.set_cons_zero]
  refine lx_skip (by rfl) ?_
  simp only [Act.put, List.setIfInBounds_toArray, List.set_cons_succ, List.set_cons_zero]
  refine lx_skip (by rfl) ?_
  simp only [Act.put, List.setIfInBounds_toArray, List.set_cons_succ, List.set_cons_zero]
  refine lx_val (by rfl) (.bool false) (fun X hX hF => by rfl) ?_
  simp only [Act.put, List.setIfInBounds_toArray, List.set_cons_succ, List.set_cons_zero]
  refine lx_val (by rfl) (.bool false) (fun X hX hF => by rfl) ?_
  simp only [Act.put, List.setIfInBounds_toArray, List.set_cons_succ, List.set_cons_zero]
  refine lx_nil ?_
  intro X2 hX2 hF
  have hR0 := hR0.bel hX2
  have hb := bel_next hb hX2
  clear hF hX2
  go_wp2
  go_loopw [4, 5] (fun nv kv wr => ∃ k : Nat, k ≤ (be (val a)).length ∧ kv = .int .i64 (k : Int) ∧ nv = .int .i64 (val ((be (val a)).take k) : Int) ∧ Blk wr w.heap.size 45 [.int .i64 0, .int .i64 0] ∧ Below w.heap.size w wr) (fun _ kv _ => (be (val a)).length - (intOf kv).toNat)
  case atStart => exact ⟨0, by omega, rfl, rfl, hR0, hb⟩
  case round =>
    clear hR0 hb
    obtain ⟨k, hk, rfl, rfl, hR0, hb⟩ := hrel
    rcases Nat.lt_or_ge k (be (val a)).length with hlt | hlt
    · obtain ⟨c, hc⟩ : ∃ c, c = ((be (val a)).getD k 0).toNat := ⟨_, rfl⟩
      have hcb : c < 256 := hc ▸ u8_lt _
      obtain ⟨n, hn⟩ : ∃ n, n = val ((be (val a)).take k) := ⟨_, rfl⟩
      have hn2 : val ((be (val a)).take (k + 1)) = n * 256 + c := by rw [val_take_succ _ hlt, hc, hn]
      have hle := val_take_le (be (val a)) (k + 1)
      rw [hn2, val_be] at hle
      have HC := Lib.hid hc
      have HN2 := Lib.hid hn2
      rw [← hn]
      clear hn2 hn hc
      go_upto_region 6 with (fail)
      refine lx_plain [] (lasts_nil) ?_
      simp only [its, Nat.zero_add, Nat.reduceAdd]
      refine lx_val (by rfl) (.int .i64 (k : Int)) (fun X hX hF => by rfl) ?_
      simp only [Act.put, List.setIfInBounds_toArray, List.set_cons_succ, List.set_cons_zero]
      refine lx_val (by rfl) (.string ⟨(be (val a)).toArray⟩) (fun X hX hF => by rfl) ?_
      simp only [Act.put, List.setIfInBounds_toArray, List.set_cons_succ, List.set_cons_zero]
      refine lx_val (by rfl) (.int .i64 ((be (val a)).length : Int)) (fun X hX hF => exec_lens Tryd.underlying9 _ (by rfl) (be (val a)) (by rfl) _ rfl X) ?_
      simp only [Act.put, List.setIfInBounds_toArray, List.set_cons_succ, List.set_cons_zero]
      refine lx_val (by rfl) (.bool true) (fun X hX hF => exec_lss _ _ _ _ (by rfl) .i64 (k : Int) ((be (val a)).length : Int) (by rfl) (by rfl) true (decide_eq_true (by omega)) X) ?_
      simp only [Act.put, List.setIfInBounds_toArray, List.set_cons_succ, List.set_cons_zero]
      refine lx_nil ?_
      intro X1 hX1 hF
      have hR0 := hR0.bel hX1
      have hb := bel_next hb hX1
      clear hF hX1
      go_upto_region 8 with (fail)
      refine lx_plain [] (lasts_nil) ?_
      simp only [its, Nat.zero_add, Nat.reduceAdd]
      refine lx_val (by rfl) (.int .i64 (n : Int)) (fun X hX hF => by rfl) ?_
      simp only [Act.put, List.setIfInBounds_toArray, List.set_cons_succ, List.set_cons_zero]
      refine lx_val (by rfl) (.int .i64 (256 * (n : Int))) (fun X hX hF => exec_mul _ _ _ _ (by rfl) 256 (n : Int) (256 * (n : Int)) (by rfl) (by rfl) (by omega) (by omega) (by omega) X) ?_
      simp only [Act.put, List.setIfInBounds_toArray, List.set_cons_succ, List.set_cons_zero]
      refine lx_val (by rfl) (.string ⟨(be (val a)).toArray⟩) (fun X hX hF => by rfl) ?_
      simp only [Act.put, List.setIfInBounds_toArray, List.set_cons_succ, List.set_cons_zero]
      refine lx_val (by rfl) (.int .i64 (k : Int)) (fun X hX hF => by rfl) ?_
      simp only [Act.put, List.setIfInBounds_toArray, List.set_cons_succ, List.set_cons_zero]
      refine lx_val (by rfl) (.int .u8 (c : Int)) (fun X hX hF => (exec_chr _ Tryd.underlying9 _ _ (by rfl) (be (val a)) k (by rfl) (by rfl) (by omega) hlt X).trans (by rw [← HC.out])) ?_
      simp only [Act.put, List.setIfInBounds_toArray, List.set_cons_succ, List.set_cons_zero]
      refine lx_val (by rfl) (.int .i64 (c : Int)) (fun X hX hF => exec_cnv _ _ .u8 .i64 Tryd.underlying5 Tryd.underlying3 _ (by rfl) (c : Int) (c : Int) (by rfl) (by rw [IntWalk.i64_in _ (by omega)]) X) ?_
      simp only [Act.put, List.setIfInBounds_toArray, List.set_cons_succ, List.set_cons_zero]
      refine lx_val (by rfl) (.int .i64 ((n * 256 + c : Nat) : Int)) (fun X hX hF => exec_add _ _ _ _ (by rfl) (256 * (n : Int)) (c : Int) ((n * 256 + c : Nat) : Int) (by rfl) (by rfl) (by omega) (by omega) (by omega) X) ?_
      simp only [Act.put, List.setIfInBounds_toArray, List.set_cons_succ, List.set_cons_zero]
      refine lx_val (by rfl) (.int .i64 ((n * 256 + c : Nat) : Int)) (fun X hX hF => by rfl) ?_
      simp only [Act.put, List.setIfInBounds_toArray, List.set_cons_succ, List.set_cons_zero]
      refine lx_nil ?_
      intro X2 hX2 hF
      have hR0 := hR0.bel hX2
      have hb := bel_next hb hX2
      clear hF hX2
      go_upto_region 7 with (fail)
      refine lx_plain [] (lasts_nil) ?_
      simp only [its, Nat.zero_add, Nat.reduceAdd]
      refine lx_val (by rfl) (.int .i64 (k : Int)) (fun X hX hF => by rfl) ?_
      simp only [Act.put, List.setIfInBounds_toArray, List.set_cons_succ, List.set_cons_zero]
      refine lx_val (by rfl) (.int .i64 ((k + 1 : Nat) : Int)) (fun X hX hF => exec_add _ _ _ _ (by rfl) (k : Int) 1 ((k + 1 : Nat) : Int) (by rfl) (by rfl) (by omega) (by omega) (by omega) X) ?_
      simp only [Act.put, List.setIfInBounds_toArray, List.set_cons_succ, List.set_cons_zero]
      refine lx_val (by rfl) (.int .i64 ((k + 1 : Nat) : Int)) (fun X hX hF => by rfl) ?_
      simp only [Act.put, List.setIfInBounds_toArray, List.set_cons_succ, List.set_cons_zero]
      refine lx_nil ?_
      intro X3 hX3 hF
      have hR0 := hR0.bel hX3
      have hb := bel_next hb hX3
      clear hF hX3
      go_wp2
      go_roundw
      case rel => exact ⟨k + 1, by omega, rfl, int_eq (by rw [HN2.out]), hR0, hb⟩
      case measure => simp [intOf]; omega
    · obtain rfl : k = (be (val a)).length := by omega
      have HT : Hid (val ((be (val a)).take (be (val a)).length) = val a) := by show _ = _; rw [List.take_of_length_le (Nat.le_refl _), val_be]
      rw [HT.out]
      go_upto_region 6 with (fail)
      refine lx_plain [] (lasts_nil) ?_
      simp only [its, Nat.zero_add, Nat.reduceAdd]
      refine lx_val (by rfl) (.int .i64 ((be (val a)).length : Int)) (fun X hX hF => by rfl) ?_
      simp only [Act.put, List.setIfInBounds_toArray, List.set_cons_succ, List.set_cons_zero]
      refine lx_val (by rfl) (.string ⟨(be (val a)).toArray⟩) (fun X hX hF => by rfl) ?_
      simp only [Act.put, List.setIfInBounds_toArray, List.set_cons_succ, List.set_cons_zero]
      refine lx_val (by rfl) (.int .i64 ((be (val a)).length : Int)) (fun X hX hF => exec_lens Tryd.underlying9 _ (by rfl) (be (val a)) (by rfl) _ rfl X) ?_
      simp only [Act.put, List.setIfInBounds_toArray, List.set_cons_succ, List.set_cons_zero]
      refine lx_val (by rfl) (.bool false) (fun X hX hF => exec_lss _ _ _ _ (by rfl) .i64 ((be (val a)).length : Int) ((be (val a)).length : Int) (by rfl) (by rfl) false (decide_eq_false (by omega)) X) ?_
      simp only [Act.put, List.setIfInBounds_toArray, List.set_cons_succ, List.set_cons_zero]
      refine lx_nil ?_
      intro X1 hX1 hF
      have hR0 := hR0.bel hX1
      have hb := bel_next hb hX1
      clear hF hX1
      go_upto_region 9 with (fail)
      refine lx_plain_to 2 [] (lasts_nil) ?_
      simp only [its, List.take, List.drop, Nat.zero_add, Nat.reduceAdd]
      refine lx_val (by rfl) (.int .i64 (val a : Int)) (fun X hX hF => by rfl) ?_
      simp only [Act.put, List.setIfInBounds_toArray, List.set_cons_succ, List.set_cons_zero]
      refine lx_val (by rfl) (.agg #[.int .i64 (val a : Int), .int .i64 0]) (fun X hX hF => by (unfold execOp; go_simp)) ?_
      simp only [Act.put, List.setIfInBounds_toArray, List.set_cons_succ, List.set_cons_zero]
      refine lx_nil ?_
      intro X2 hX2 hF
      have hR0 := hR0.bel hX2
      have hb := bel_next hb hX2
      clear hF hX2
      refine op_store_blk rfl 45 (.tmp 2) (.tmp 36) rfl w.heap.size 45 _ hR0 rfl [.int .i64 (val a : Int), .int .i64 0] rfl (by rfl) (by intro u hu; simp only [List.mem_cons, List.not_mem_nil, or_false] at hu; rcases hu with rfl | rfl <;> rfl) info_cnt ?_
      intro w9 hR9 hO9 hB9 hs9
      have hb9 := hB9 _ _ hb (Nat.le_refl _)
      clear hO9 hB9
      go_wp2
      refine post_cell rfl rfl (by rfl) Tryd.underlying45 rfl hR9 info_cnt ⟨rfl, hb9⟩

set_option maxRecDepth 100000 in
set_option maxHeartbeats 1600000 in
theorem rvalC2 (a : List UInt8) (w : World) (ha : a.length ≤ 4194304) (hv : val a < 9223372036854775808) (hl : (be (val a)).length = 8) (t : Nat) (ht : t = ((be (val a)).getD 0 0).toNat) (ht2 : t ≤ 127) : Calls Tryd.prog 30 #[.string ⟨a.toArray⟩] w fun e w' => e = .returned (.agg #[.int .i64 (val a : Int), .int .i64 0]) ∧ Since w w' := by
  have la := be_val_len a
  have hl1 : (be (val a)).length ≤ 8 ∧ 8 ≤ (be (val a)).length := by omega
  have HT := Lib.hid ht
  clear hl ht
  go_enter Tryd.func30, Tryd.ntmps30
  go_upto_region 1 with (fail)
  have hR0 : Blk (w.alloc (.cells #[.int .i64 0, .int .i64 0] 45)) w.heap.size 45 [.int .i64 0, .int .i64 0] := Blk.new rfl
  have hb : Below w.heap.size w (w.alloc (.cells #[.int .i64 0, .int .i64 0] 45)) := (Below.refl _ _).alloc (Nat.le_refl _) _
  generalize w.alloc (.cells #[.int .i64 0, .int .i64 0] 45) = W0 at hR0 hb ⊢
  refine lx_plain [] (lasts_nil) ?_
  simp only [its, Nat.zero_add, Nat.reduceAdd]
  refine lx_val (by rfl) (.string ⟨a.toArray⟩) (fun X hX hF => by rfl) ?_
  simp only [Act.put, List.setIfInBounds_toArray, List.set_cons_succ, List.set_cons_zero]
  refine lx_call (by rfl) 17 _ _ (by rfl) (.string ⟨(be (val a)).toArray⟩) [.string ⟨a.toArray⟩] (by rfl) (by kernel_rfl) (fun _ => by go_simp) (fun X hX hF => rcleanC a X (by omega)) ?_
  simp only [Act.put, List.setIfInBounds_toArray, List.set_cons_succ, List.set_cons_zero]
  refine lx_val (by rfl) (.string ⟨(be (val a)).toArray⟩) (fun X hX hF => by rfl) ?_
  simp only [Act.put, List.setIfInBounds_toArray, List.set_cons_succ, List.set_cons_zero]
  refine lx_nil ?_
  intro X1 hX1 hF
  have hR0 := hR0.bel hX1
  have hb := bel_next hb hX1
  clear hF hX1
  go_upto_region 2 with (fail)
  refine lx_plain [] (lasts_nil) ?_
  simp only [its, Nat.zero_add, Nat.reduceAdd]
  refine lx_val (by rfl) (.string ⟨(be (val a)).toArray⟩) (fun X hX hF => by rfl) ?_
  simp only [Act.put, List.setIfInBounds_toArray, List.set_cons_succ, List.set_cons_zero]
  refine lx_val (by rfl) (.int .i64 ((be (val a)).length : Int)) (fun X hX hF => exec_lens Tryd.underlying9 _ (by rfl) (be (val a)) (by rfl) _ rfl X) ?_
  simp only [Act.put, List.setIfInBounds_toArray, List.set_cons_succ, List.set_cons_zero]
  refine lx_val (by rfl) (.bool false) (fun X hX hF => exec_gtr _ _ _ _ (by rfl) .i64 ((be (val a)).length : Int) 8 (by rfl) (by rfl) false (decide_eq_false (by omega)) X) ?_
  simp only [Act.put, List.setIfInBounds_toArray, List.set_cons_succ, List.set_cons_zero]
  refine lx_val (by rfl) (.bool false) (fun X hX hF => by rfl) ?_
  simp only [Act.put, List.setIfInBounds_toArray, List.set_cons_succ, List.set_cons_zero]
  refine lx_val (by rfl) (.string ⟨(be (val a)).toArray⟩) (fun X hX hF => by rfl) ?_
  simp only [Act.put, List.setIfInBounds_toArray, List.set_cons_succ, List.set_cons_zero]
  refine lx_val (by rfl) (.int .i64 ((be (val a)).length : Int)) (fun X hX hF => exec_lens Tryd.underlying9 _ (by rfl) (be (val a)) (by rfl) _ rfl X) ?_
  simp only [Act.put, List.setIfInBounds_toArray, List.set_cons_succ, List.set_cons_zero]
  refine lx_val (by rfl) (.bool true) (fun X hX hF => exec_eqi _ _ _ _ (by rfl) .i64 ((be (val a)).length : Int) 8 (by rfl) (by rfl) true (decide_eq_true (by omega)) X) ?_
  simp only [Act.put, List.setIfInBounds_toArray, List.set_cons_succ, List.set_cons_zero]
  refine lx_val (by rfl) (.bool true) (fun X hX hF => by rfl) ?_
  simp only [Act.put, List.setIfInBounds_toArray, List.set_cons_succ, List.set_cons_zero]
  refine lx_val (by rfl) (.string ⟨(be (val a)).toArray⟩) (fun X hX hF => by rfl) ?_
  simp only [Act.put, List.setIfInBounds_toArray, List.set_cons_succ, List.set_cons_zero]
  refine lx_val (by rfl) (.int .u8 (t : Int)) (fun X hX hF => (exec_chr _ Tryd.underlying9 _ _ (by rfl) (be (val a)) 0 (by rfl) (by rfl) (by omega) (by omega) X).trans (by rw [← HT.out])) ?_
  simp only [Act.put, List.setIfInBounds_toArray, List.set_cons_succ, List.set_cons_zero]
  refine lx_val (by rfl) (.bool false) (fun X hX hF => exec_gtr _ _ _ _ (by rfl) .u8 (t : Int) 127 (by rfl) (by rfl) false (decide_eq_false (by omega)) X) ?_
  simp only [Act.put, List.setIfInBounds_toArray, List.set_cons_succ, List.set_cons_zero]
  refine lx_val (by rfl) (.bool false) (fun X hX hF => by rfl) ?_
  simp only [Act.put, List.setIfInBounds_toArray, List.set_cons_succ, List.set_cons_zero]
  refine lx_val (by rfl) (.bool false) (fun X hX hF => by rfl) ?_
  simp only [Act.put, List.setIfInBounds_toArray, List.set_cons_succ, List.set_cons_zero]
  refine lx_nil ?_
  intro X2 hX2 hF
  have hR0 := hR0.bel hX2
  have hb := bel_next hb hX2
  clear hF hX2
  go_wp2
  go_loopw [4, 5] (fun nv kv wr => ∃ k : Nat, k ≤ (be (val a)).length ∧ kv = .int .i64 (k : Int) ∧ nv = .int .i64 (val ((be (val a)).take k) : Int) ∧ Blk wr w.heap.size 45 [.int .i64 0, .int .i64 0] ∧ Below w.heap.size w wr) (fun _ kv _ => (be (val a)).length - (intOf kv).toNat)
  case atStart => exact ⟨0, by omega, rfl, rfl, hR0, hb⟩
  case round =>
    clear hR0 hb
    obtain ⟨k, hk, rfl, rfl, hR0, hb⟩ := hrel
    rcases Nat.lt_or_ge k (be (val a)).length with hlt | hlt
    · obtain ⟨c, hc⟩ : ∃ c, c = ((be (val a)).getD k 0).toNat := ⟨_, rfl⟩
      have hcb : c < 256 := hc ▸ u8_lt _
      obtain ⟨n, hn⟩ : ∃ n, n = val ((be (val a)).take k) := ⟨_, rfl⟩
      have hn2 : val ((be (val a)).take (k + 1)) = n * 256 + c := by rw [val_take_succ _ hlt, hc, hn]
      have hle := val_take_le (be (val a)) (k + 1)
      rw [hn2, val_be] at hle
      have HC := Lib.hid hc
      have HN2 := Lib.hid hn2
      rw [← hn]
      clear hn2 hn hc
      go_upto_region 6 with (fail)
      refine lx_plain [] (lasts_nil) ?_
      simp only [its, Nat.zero_add, Nat.reduceAdd]
      refine lx_val (by rfl) (.int .i64 (k : Int)) (fun X hX hF => by rfl) ?_
      simp only [Act.put, List.setIfInBounds_toArray, List.set_cons_succ, List.set_cons_zero]
      refine lx_val (by rfl) (.string ⟨(be (val a)).toArray⟩) (fun X hX hF => by rfl) ?_
      simp only [Act.put, List.setIfInBounds_toArray, List.set_cons_succ, List.set_cons_zero]
      refine lx_val (by rfl) (.int .i64 ((be (val a)).length : Int)) (fun X hX hF => exec_lens Tryd.underlying9 _ (by rfl) (be (val a)) (by rfl) _ rfl X) ?_
      simp only [Act.put, List.setIfInBounds_toArray, List.set_cons_succ, List.set_cons_zero]
      refine lx_val (by rfl) (.bool true) (fun X hX hF => exec_lss _ _ _ _ (by rfl) .i64 (k : Int) ((be (val a)).length : Int) (by rfl) (by rfl) true (decide_eq_true (by omega)) X) ?_
      simp only [Act.put, List.setIfInBounds_toArray, List.set_cons_succ, List.set_cons_zero]
      refine lx_nil ?_
      intro X1 hX1 hF
      have hR0 := hR0.bel hX1
      have hb := bel_next hb hX1
      clear hF hX1
      go_upto_region 8 with (fail)
      refine lx_plain [] (lasts_nil) ?_
      simp only [its, Nat.zero_add, Nat.reduceAdd]
      refine lx_val (by rfl) (.int .i64 (n : Int)) (fun X hX hF => by rfl) ?_
      simp only [Act.put, List.setIfInBounds_toArray, List.set_cons_succ, List.set_cons_zero]
      refine lx_val (by rfl) (.int .i64 (256 * (n : Int))) (fun X hX hF => exec_mul _ _ _ _ (by rfl) 256 (n : Int) (256 * (n : Int)) (by rfl) (by rfl) (by omega) (by omega) (by omega) X) ?_
      simp only [Act.put, List.setIfInBounds_toArray, List.set_cons_succ, List.set_cons_zero]
      refine lx_val (by rfl) (.string ⟨(be (val a)).toArray⟩) (fun X hX hF => by rfl) ?_
      simp only [Act.put, List.setIfInBounds_toArray, List.set_cons_succ, List.set_cons_zero]
      refine lx_val (by rfl) (.int .i64 (k : Int)) (fun X hX hF => by rfl) ?_
      simp only [Act.put, List.setIfInBounds_toArray, List.set_cons_succ, List.set_cons_zero]
      refine lx_val (by rfl) (.int .u8 (c : Int)) (fun X hX hF => (exec_chr _ Tryd.underlying9 _ _ (by rfl) (be (val a)) k (by rfl) (by rfl) (by omega) hlt X).trans (by rw [← HC.out])) ?_
      simp only [Act.put, List.setIfInBounds_toArray, List.set_cons_succ, List.set_cons_zero]
      refine lx_val (by rfl) (.int .i64 (c : Int)) (fun X hX hF => exec_cnv _ _ .u8 .i64 Tryd.underlying5 Tryd.underlying3 _ (by rfl) (c : Int) (c : Int) (by rfl) (by rw [IntWalk.i64_in _ (by omega)]) X) ?_
      simp only [Act.put, List.setIfInBounds_toArray, List.set_cons_succ, List.set_cons_zero]
      refine lx_val (by rfl) (.int .i64 ((n * 256 + c : Nat) : Int)) (fun X hX hF => exec_add _ _ _ _ (by rfl) (256 * (n : Int)) (c : Int) ((n * 256 + c : Nat) : Int) (by rfl) (by rfl) (by omega) (by omega) (by omega) X) ?_
      simp only [Act.put, List.setIfInBounds_toArray, List.set_cons_succ, List.set_cons_zero]
      refine lx_val (by rfl) (.int .i64 ((n * 256 + c : Nat) : Int)) (fun X hX hF => by rfl) ?_
      simp only [Act.put, List.setIfInBounds_toArray, List.set_cons_succ, List.set_cons_zero]
      refine lx_nil ?_
      intro X2 hX2 hF
      have hR0 := hR0.bel hX2
      have hb := bel_next hb hX2
      clear hF hX2
      go_upto_region 7 with (fail)
      refine lx_plain [] (lasts_nil) ?_
      simp only [its, Nat.zero_add, Nat.reduceAdd]
      refine lx_val (by rfl) (.int .i64 (k : Int)) (fun X hX hF => by rfl) ?_
      simp only [Act.put, List.setIfInBounds_toArray, List.set_cons_succ, List.set_cons_zero]
      refine lx_val (by rfl) (.int .i64 ((k + 1 : Nat) : Int)) (fun X hX hF => exec_add _ _ _ _ (by rfl) (k : Int) 1 ((k + 1 : Nat) : Int) (by rfl) (by rfl) (by omega) (by omega) (by omega) X) ?_
      simp only [Act.put, List.setIfInBounds_toArray, List.set_cons_succ, List.set_cons_zero]
      refine lx_val (by rfl) (.int .i64 ((k + 1 : Nat) : Int)) (fun X hX hF => by rfl) ?_
      simp only [Act.put, List.setIfInBounds_toArray, List.set_cons_succ, List.set_cons_zero]
      refine lx_nil ?_
      intro X3 hX3 hF
      have hR0 := hR0.bel hX3
      have hb := bel_next hb hX3
      clear hF hX3
      go_wp2
      go_roundw
      case rel => exact ⟨k + 1, by omega, rfl, int_eq (by rw [HN2.out]), hR0, hb⟩
      case measure => simp [intOf]; omega
    · obtain rfl : k = (be (val a)).length := by omega
      have HT : Hid (val ((be (val a)).take (be (val a)).length) = val a) := by show _ = _; rw [List.take_of_length_le (Nat.le_refl _), val_be]
      rw [HT.out]
      go_upto_region 6 with (fail)
      refine lx_plain [] (lasts_nil) ?_
      simp only [its, Nat.zero_add, Nat.reduceAdd]
      refine lx_val (by rfl) (.int .i64 ((be (val a)).length : Int)) (fun X hX hF => by rfl) ?_
      simp only [Act.put, List.setIfInBounds_toArray, List.set_cons_succ, List.set_cons_zero]
      refine lx_val (by rfl) (.string ⟨(be (val a)).toArray⟩) (fun X hX hF => by rfl) ?_
      simp only [Act.put, List.setIfInBounds_toArray, List.set_cons_succ, List.set_cons_zero]
      refine lx_val (by rfl) (.int .i64 ((be (val a)).length : Int)) (fun X hX hF => exec_lens Tryd.underlying9 _ (by rfl) (be (val a)) (by rfl) _ rfl X) ?_
      simp only [Act.put, List.setIfInBounds_toArray, List.set_cons_succ, List.set_cons_zero]
      refine lx_val (by rfl) (.bool false) (fun X hX hF => exec_lss _ _ _ _ (by rfl) .i64 ((be (val a)).length : Int) ((be (val a)).length : Int) (by rfl) (by rfl) false (decide_eq_false (by omega)) X) ?_
      simp only [Act.put, List.setIfInBounds_toArray, List.set_cons_succ, List.set_cons_zero]
      refine lx_nil ?_
      intro X1 hX1 hF
      have hR0 := hR0.bel hX1
      have hb := bel_next hb hX1
      clear hF hX1
      go_upto_region 9 with (fail)
      refine lx_plain_to 2 [] (lasts_nil) ?_
      simp only [its, List.take, List.drop, Nat.zero_add, Nat.reduceAdd]
      refine lx_val (by rfl) (.int .i64 (val a : Int)) (fun X hX hF => by rfl) ?_
      simp only [Act.put, List.setIfInBounds_toArray, List.set_cons_succ, List.set_cons_zero]
      refine lx_val (by rfl) (.agg #[.int .i64 (val a : Int), .int .i64 0]) (fun X hX hF => by (unfold execOp; go_simp)) ?_
      simp only [Act.put, List.setIfInBounds_toArray, List.set_cons_succ, List.set_cons_zero]
      refine lx_nil ?_
      intro X2 hX2 hF
      have hR0 := hR0.bel hX2
      have hb := bel_next hb hX2
      clear hF hX2
      refine op_store_blk rfl 45 (.tmp 2) (.tmp 36) rfl w.heap.size 45 _ hR0 rfl [.int .i64 (val a : Int), .int .i64 0] rfl (by rfl) (by intro u hu; simp only [List.mem_cons, List.not_mem_nil, or_false] at hu; rcases hu with rfl | rfl <;> rfl) info_cnt ?_
      intro w9 hR9 hO9 hB9 hs9
      have hb9 := hB9 _ _ hb (Nat.le_refl _)
      clear hO9 hB9
      go_wp2
      refine post_cell rfl rfl (by rfl) Tryd.underlying45 rfl hR9 info_cnt ⟨rfl, hb9⟩

theorem rvalueC (a : List UInt8) (w : World) (ha : a.length ≤ 4194304) (hv : val a < 9223372036854775808) : Calls Tryd.prog 30 #[.string ⟨a.toArray⟩] w fun e w' => e = .returned (.agg #[.int .i64 (val a : Int), .int .i64 0]) ∧ Since w w' := by
  have h8 : (be (val a)).length ≤ 8 := be_len (Nat.lt_of_lt_of_le hv (by decide))
  rcases Nat.lt_or_ge (be (val a)).length 8 with h | h
  · exact rvalC1 a w ha hv h
  · obtain ⟨r, h1, h2⟩ := be_top (v := val a) (by omega)
    exact rvalC2 a w ha hv (by omega) _ rfl (by omega)

end Go.Proofs.YtglnabciomlmmaaDoor
