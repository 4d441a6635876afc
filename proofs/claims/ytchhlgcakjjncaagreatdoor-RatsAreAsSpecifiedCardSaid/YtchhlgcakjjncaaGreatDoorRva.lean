/-
  The reference: Value.
-/
import Derived.Test.YtchhlgcakjjncaaGreatDoorMH
set_option linter.unusedSimpArgs false
set_option linter.unusedVariables false
set_option maxRecDepth 100000
set_option maxHeartbeats 1600000
namespace Go.Proofs.YtchhlgcakjjncaaGreatDoor
open Go.RowKit

theorem info_cnt : (Tryz.prog.info? 101).map (·.size) = some 2 := by kernel_rfl
theorem le_be_len {n k : Nat} (h : 256 ^ k ≤ n) : k < (be n).length := by
  unfold be
  rw [List.length_reverse, List.length_map]
  exact le_dg_len (by omega) h
theorem be_top {v : Nat} (h : (be v).length = 8) : ∃ r, v = ((be v).getD 0 0).toNat * 72057594037927936 + r ∧ r < 72057594037927936 := by
  have h1 := val_be v
  generalize be v = l at h h1 ⊢
  match l, h with
  | c :: r, h =>
    have hr : r.length = 7 := by simpa using h
    have h2 := val_lt r
    rw [hr] at h2
    rw [val_cons, hr] at h1
    exact ⟨val r, by rw [← h1]; rfl, h2⟩
theorem val_take_le (l : List UInt8) (k : Nat) : val (l.take k) ≤ val l := by
  conv => rhs; rw [← List.take_append_drop k l, val_append]
  have h1 : 0 < 256 ^ (l.drop k).length := Nat.pow_pos (by omega)
  have := Nat.le_mul_of_pos_right (val (l.take k)) h1
  omega
theorem rvalE1 (a : List UInt8) (w : World) (ha : a.length ≤ 4194304) (hl : 8 < (be (val a)).length) : Calls Tryz.prog 71 #[.string ⟨a.toArray⟩] w fun e w' => e = .returned (.agg #[.int .i64 0, .int .i64 3]) ∧ Since w w' := by
  have la := be_val_len a

  go_enter Tryz.func71, Tryz.ntmps71
  go_upto_region 1 with (fail)
  have hR0 : Blk (w.alloc (.cells #[.int .i64 0, .int .i64 0] 101)) w.heap.size 101 [.int .i64 0, .int .i64 0] := Blk.new rfl
  have hb : Below w.heap.size w (w.alloc (.cells #[.int .i64 0, .int .i64 0] 101)) := (Below.refl _ _).alloc (Nat.le_refl _) _
  generalize w.alloc (.cells #[.int .i64 0, .int .i64 0] 101) = W0 at hR0 hb ⊢
  refine jp ?_
  refine jm (st a) ?_
  refine jc (st (be (val a))) (fun X hX hF => rcleanC a X (by omega)) ?_
  refine jm (st (be (val a))) ?_
  refine jz fun X1 hX1 => ?_
  have hR0 := hR0.bel hX1
  have hb := bel_next hb hX1
  clear hX1
  go_upto_region 2 with (fail)
  refine jp ?_
  refine jm (st (be (val a))) ?_
  refine jv (.int .i64 ((be (val a)).length : Int)) (exec_lens Tryz.underlying9 _ (by rfl) (be (val a)) (by rfl) _ rfl) ?_
  refine jv (.bool true) (exec_gtr _ _ _ _ (by rfl) .i64 ((be (val a)).length : Int) 8 (by rfl) (by rfl) true (decide_eq_true (by omega))) ?_
  refine jm (.bool true) ?_
  refine js ?_
  refine js ?_
  refine js ?_
  refine js ?_
  refine js ?_
  refine js ?_
  refine js ?_
  refine js ?_
  refine jm (.bool true) ?_
  refine jz fun X2 hX2 => ?_
  have hR0 := hR0.bel hX2
  have hb := bel_next hb hX2
  clear hX2
  go_upto_region 3 with (fail)
  refine jq 1 ?_
  refine jn (.agg #[.int .i64 0, .int .i64 3]) ?_
  refine jz fun X3 hX3 => ?_
  have hR0 := hR0.bel hX3
  have hb := bel_next hb hX3
  clear hX3
  refine osb 101 2 21 w.heap.size 101 hR0 [.int .i64 0, .int .i64 3] info_cnt ?_
  intro w9 hR9 hO9 hB9 hs9
  have hb9 := hB9 _ _ hb (Nat.le_refl _)
  clear hO9 hB9
  go_wp2
  refine post_cell rfl rfl (by rfl) Tryz.underlying101 rfl hR9 info_cnt ⟨rfl, hb9⟩

theorem rvalE2 (a : List UInt8) (w : World) (ha : a.length ≤ 4194304) (hl : (be (val a)).length = 8) (t : Nat) (ht : t = ((be (val a)).getD 0 0).toNat) (ht2 : 127 < t) : Calls Tryz.prog 71 #[.string ⟨a.toArray⟩] w fun e w' => e = .returned (.agg #[.int .i64 0, .int .i64 3]) ∧ Since w w' := by
  have la := be_val_len a
  have hl1 : (be (val a)).length ≤ 8 ∧ 8 ≤ (be (val a)).length := by omega
  have HT := Lib.hid ht
  clear hl ht
  go_enter Tryz.func71, Tryz.ntmps71
  go_upto_region 1 with (fail)
  have hR0 : Blk (w.alloc (.cells #[.int .i64 0, .int .i64 0] 101)) w.heap.size 101 [.int .i64 0, .int .i64 0] := Blk.new rfl
  have hb : Below w.heap.size w (w.alloc (.cells #[.int .i64 0, .int .i64 0] 101)) := (Below.refl _ _).alloc (Nat.le_refl _) _
  generalize w.alloc (.cells #[.int .i64 0, .int .i64 0] 101) = W0 at hR0 hb ⊢
  refine jp ?_
  refine jm (st a) ?_
  refine jc (st (be (val a))) (fun X hX hF => rcleanC a X (by omega)) ?_
  refine jm (st (be (val a))) ?_
  refine jz fun X1 hX1 => ?_
  have hR0 := hR0.bel hX1
  have hb := bel_next hb hX1
  clear hX1
  go_upto_region 2 with (fail)
  refine jp ?_
  refine jm (st (be (val a))) ?_
  refine jv (.int .i64 ((be (val a)).length : Int)) (exec_lens Tryz.underlying9 _ (by rfl) (be (val a)) (by rfl) _ rfl) ?_
  refine jv (.bool false) (exec_gtr _ _ _ _ (by rfl) .i64 ((be (val a)).length : Int) 8 (by rfl) (by rfl) false (decide_eq_false (by omega))) ?_
  refine jm (.bool false) ?_
  refine jm (st (be (val a))) ?_
  refine jv (.int .i64 ((be (val a)).length : Int)) (exec_lens Tryz.underlying9 _ (by rfl) (be (val a)) (by rfl) _ rfl) ?_
  refine jv (.bool true) (exec_eqi _ _ _ _ (by rfl) .i64 ((be (val a)).length : Int) 8 (by rfl) (by rfl) true (decide_eq_true (by omega))) ?_
  refine jm (.bool true) ?_
  refine jm (st (be (val a))) ?_
  refine jv (.int .u8 (t : Int)) (fun X => (exec_chr _ Tryz.underlying9 _ _ (by rfl) (be (val a)) 0 (by rfl) (by rfl) (by omega) (by omega) X).trans (by rw [← HT.out])) ?_
  refine jv (.bool true) (exec_gtr _ _ _ _ (by rfl) .u8 (t : Int) 127 (by rfl) (by rfl) true (decide_eq_true (by omega))) ?_
  refine jm (.bool true) ?_
  refine jm (.bool true) ?_
  refine jz fun X2 hX2 => ?_
  have hR0 := hR0.bel hX2
  have hb := bel_next hb hX2
  clear hX2
  go_upto_region 3 with (fail)
  refine jq 1 ?_
  refine jn (.agg #[.int .i64 0, .int .i64 3]) ?_
  refine jz fun X3 hX3 => ?_
  have hR0 := hR0.bel hX3
  have hb := bel_next hb hX3
  clear hX3
  refine osb 101 2 21 w.heap.size 101 hR0 [.int .i64 0, .int .i64 3] info_cnt ?_
  intro w9 hR9 hO9 hB9 hs9
  have hb9 := hB9 _ _ hb (Nat.le_refl _)
  clear hO9 hB9
  go_wp2
  refine post_cell rfl rfl (by rfl) Tryz.underlying101 rfl hR9 info_cnt ⟨rfl, hb9⟩

theorem rvalE (a : List UInt8) (w : World) (ha : a.length ≤ 4194304) (hv : 9223372036854775808 ≤ val a) : Calls Tryz.prog 71 #[.string ⟨a.toArray⟩] w fun e w' => e = .returned (.agg #[.int .i64 0, .int .i64 3]) ∧ Since w w' := by
  rcases Nat.lt_or_ge 8 (be (val a)).length with h | h
  · exact rvalE1 a w ha h
  · have h7 : 7 < (be (val a)).length := le_be_len (Nat.le_trans (by decide) hv)
    have h8 : (be (val a)).length = 8 := by omega
    obtain ⟨r, h1, h2⟩ := be_top h8
    exact rvalE2 a w ha h8 _ rfl (by omega)

theorem rvalC1 (a : List UInt8) (w : World) (ha : a.length ≤ 4194304) (hv : val a < 9223372036854775808) (hl : (be (val a)).length < 8) : Calls Tryz.prog 71 #[.string ⟨a.toArray⟩] w fun e w' => e = .returned (.agg #[.int .i64 (val a : Int), .int .i64 0]) ∧ Since w w' := by
  have la := be_val_len a

  go_enter Tryz.func71, Tryz.ntmps71
  go_upto_region 1 with (fail)
  have hR0 : Blk (w.alloc (.cells #[.int .i64 0, .int .i64 0] 101)) w.heap.size 101 [.int .i64 0, .int .i64 0] := Blk.new rfl
  have hb : Below w.heap.size w (w.alloc (.cells #[.int .i64 0, .int .i64 0] 101)) := (Below.refl _ _).alloc (Nat.le_refl _) _
  generalize w.alloc (.cells #[.int .i64 0, .int .i64 0] 101) = W0 at hR0 hb ⊢
  refine jp ?_
  refine jm (st a) ?_
  refine jc (st (be (val a))) (fun X hX hF => rcleanC a X (by omega)) ?_
  refine jm (st (be (val a))) ?_
  refine jz fun X1 hX1 => ?_
  have hR0 := hR0.bel hX1
  have hb := bel_next hb hX1
  clear hX1
  go_upto_region 2 with (fail)
  refine jp ?_
  refine jm (st (be (val a))) ?_
  refine jv (.int .i64 ((be (val a)).length : Int)) (exec_lens Tryz.underlying9 _ (by rfl) (be (val a)) (by rfl) _ rfl) ?_
  refine jv (.bool false) (exec_gtr _ _ _ _ (by rfl) .i64 ((be (val a)).length : Int) 8 (by rfl) (by rfl) false (decide_eq_false (by omega))) ?_
  refine jm (.bool false) ?_
  refine jm (st (be (val a))) ?_
  refine jv (.int .i64 ((be (val a)).length : Int)) (exec_lens Tryz.underlying9 _ (by rfl) (be (val a)) (by rfl) _ rfl) ?_
  refine jv (.bool false) (exec_eqi _ _ _ _ (by rfl) .i64 ((be (val a)).length : Int) 8 (by rfl) (by rfl) false (decide_eq_false (by omega))) ?_
  refine jm (.bool false) ?_
  refine js ?_
  refine js ?_
  refine js ?_
  refine jm (.bool false) ?_
  refine jm (.bool false) ?_
  refine jz fun X2 hX2 => ?_
  have hR0 := hR0.bel hX2
  have hb := bel_next hb hX2
  clear hX2
  go_wp2
  go_loopw [4, 5] (fun nv kv wr => ∃ k : Nat, k ≤ (be (val a)).length ∧ kv = .int .i64 (k : Int) ∧ nv = .int .i64 (val ((be (val a)).take k) : Int) ∧ Blk wr w.heap.size 101 [.int .i64 0, .int .i64 0] ∧ Below w.heap.size w wr) (fun _ kv _ => (be (val a)).length - (intOf kv).toNat)
  case atStart => exact ⟨0, by omega, rfl, rfl, hR0, hb⟩
  case round =>
    clear hR0 hb
    obtain ⟨k, hk, rfl, rfl, hR0, hb⟩ := hrel
    rcases Nat.lt_or_ge k (be (val a)).length with hlt | hlt
    · obtain ⟨c, hc⟩ : ∃ c, c = ((be (val a)).getD k 0).toNat := ⟨_, rfl⟩
      have hcb : c < 256 := hc ▸ u8_lt _
      obtain ⟨n, hn⟩ : ∃ n, n = val ((be (val a)).take k) := ⟨_, rfl⟩
      have hn2 : val ((be (val a)).take (k + 1)) = n * 256 + c := by rw [val_take_succ _ hlt, hc, hn]
      have hle := val_take_le (be (val a)) (k + 1)
      rw [hn2, val_be] at hle
      have HC := Lib.hid hc
      have HN2 := Lib.hid hn2
      rw [← hn]
      clear hn2 hn hc
      go_upto_region 6 with (fail)
      refine jp ?_
      refine jm (.int .i64 (k : Int)) ?_
      refine jm (st (be (val a))) ?_
      refine jv (.int .i64 ((be (val a)).length : Int)) (exec_lens Tryz.underlying9 _ (by rfl) (be (val a)) (by rfl) _ rfl) ?_
      refine jv (.bool true) (exec_lss _ _ _ _ (by rfl) .i64 (k : Int) ((be (val a)).length : Int) (by rfl) (by rfl) true (decide_eq_true (by omega))) ?_
      refine jz fun X1 hX1 => ?_
      have hR0 := hR0.bel hX1
      have hb := bel_next hb hX1
      clear hX1
      go_upto_region 8 with (fail)
      refine jp ?_
      refine jm (.int .i64 (n : Int)) ?_
      refine jv (.int .i64 (256 * (n : Int))) (exec_mul _ _ _ _ (by rfl) 256 (n : Int) (256 * (n : Int)) (by rfl) (by rfl) (by omega) (by omega) (by omega)) ?_
      refine jm (st (be (val a))) ?_
      refine jm (.int .i64 (k : Int)) ?_
      refine jv (.int .u8 (c : Int)) (fun X => (exec_chr _ Tryz.underlying9 _ _ (by rfl) (be (val a)) k (by rfl) (by rfl) (by omega) hlt X).trans (by rw [← HC.out])) ?_
      refine jv (.int .i64 (c : Int)) (exec_cnv _ _ .u8 .i64 Tryz.underlying5 Tryz.underlying3 _ (by rfl) (c : Int) (c : Int) (by rfl) (by rw [IntWalk.i64_in _ (by omega)])) ?_
      refine jv (.int .i64 ((n * 256 + c : Nat) : Int)) (exec_add _ _ _ _ (by rfl) (256 * (n : Int)) (c : Int) ((n * 256 + c : Nat) : Int) (by rfl) (by rfl) (by omega) (by omega) (by omega)) ?_
      refine jm (.int .i64 ((n * 256 + c : Nat) : Int)) ?_
      refine jz fun X2 hX2 => ?_
      have hR0 := hR0.bel hX2
      have hb := bel_next hb hX2
      clear hX2
      go_upto_region 7 with (fail)
      refine jp ?_
      refine jm (.int .i64 (k : Int)) ?_
      refine jv (.int .i64 ((k + 1 : Nat) : Int)) (exec_add _ _ _ _ (by rfl) (k : Int) 1 ((k + 1 : Nat) : Int) (by rfl) (by rfl) (by omega) (by omega) (by omega)) ?_
      refine jm (.int .i64 ((k + 1 : Nat) : Int)) ?_
      refine jz fun X3 hX3 => ?_
      have hR0 := hR0.bel hX3
      have hb := bel_next hb hX3
      clear hX3
      go_wp2
      go_roundw
      case rel => exact ⟨k + 1, by omega, rfl, int_eq (by rw [HN2.out]), hR0, hb⟩
      case measure => simp [intOf]; omega
    · obtain rfl : k = (be (val a)).length := by omega
      have HT : Hid (val ((be (val a)).take (be (val a)).length) = val a) := by show _ = _; rw [List.take_of_length_le (Nat.le_refl _), val_be]
      rw [HT.out]
      go_upto_region 6 with (fail)
      refine jp ?_
      refine jm (.int .i64 ((be (val a)).length : Int)) ?_
      refine jm (st (be (val a))) ?_
      refine jv (.int .i64 ((be (val a)).length : Int)) (exec_lens Tryz.underlying9 _ (by rfl) (be (val a)) (by rfl) _ rfl) ?_
      refine jv (.bool false) (exec_lss _ _ _ _ (by rfl) .i64 ((be (val a)).length : Int) ((be (val a)).length : Int) (by rfl) (by rfl) false (decide_eq_false (by omega))) ?_
      refine jz fun X1 hX1 => ?_
      have hR0 := hR0.bel hX1
      have hb := bel_next hb hX1
      clear hX1
      go_upto_region 9 with (fail)
      refine jq 2 ?_
      refine jm (.int .i64 (val a : Int)) ?_
      refine jn (.agg #[.int .i64 (val a : Int), .int .i64 0]) ?_
      refine jz fun X2 hX2 => ?_
      have hR0 := hR0.bel hX2
      have hb := bel_next hb hX2
      clear hX2
      refine osb 101 2 36 w.heap.size 101 hR0 [.int .i64 (val a : Int), .int .i64 0] info_cnt ?_
      intro w9 hR9 hO9 hB9 hs9
      have hb9 := hB9 _ _ hb (Nat.le_refl _)
      clear hO9 hB9
      go_wp2
      refine post_cell rfl rfl (by rfl) Tryz.underlying101 rfl hR9 info_cnt ⟨rfl, hb9⟩

theorem rvalC2 (a : List UInt8) (w : World) (ha : a.length ≤ 4194304) (hv : val a < 9223372036854775808) (hl : (be (val a)).length = 8) (t : Nat) (ht : t = ((be (val a)).getD 0 0).toNat) (ht2 : t ≤ 127) : Calls Tryz.prog 71 #[.string ⟨a.toArray⟩] w fun e w' => e = .returned (.agg #[.int .i64 (val a : Int), .int .i64 0]) ∧ Since w w' := by
  have la := be_val_len a
  have hl1 : (be (val a)).length ≤ 8 ∧ 8 ≤ (be (val a)).length := by omega
  have HT := Lib.hid ht
  clear hl ht
  go_enter Tryz.func71, Tryz.ntmps71
  go_upto_region 1 with (fail)
  have hR0 : Blk (w.alloc (.cells #[.int .i64 0, .int .i64 0] 101)) w.heap.size 101 [.int .i64 0, .int .i64 0] := Blk.new rfl
  have hb : Below w.heap.size w (w.alloc (.cells #[.int .i64 0, .int .i64 0] 101)) := (Below.refl _ _).alloc (Nat.le_refl _) _
  generalize w.alloc (.cells #[.int .i64 0, .int .i64 0] 101) = W0 at hR0 hb ⊢
  refine jp ?_
  refine jm (st a) ?_
  refine jc (st (be (val a))) (fun X hX hF => rcleanC a X (by omega)) ?_
  refine jm (st (be (val a))) ?_
  refine jz fun X1 hX1 => ?_
  have hR0 := hR0.bel hX1
  have hb := bel_next hb hX1
  clear hX1
  go_upto_region 2 with (fail)
  refine jp ?_
  refine jm (st (be (val a))) ?_
  refine jv (.int .i64 ((be (val a)).length : Int)) (exec_lens Tryz.underlying9 _ (by rfl) (be (val a)) (by rfl) _ rfl) ?_
  refine jv (.bool false) (exec_gtr _ _ _ _ (by rfl) .i64 ((be (val a)).length : Int) 8 (by rfl) (by rfl) false (decide_eq_false (by omega))) ?_
  refine jm (.bool false) ?_
  refine jm (st (be (val a))) ?_
  refine jv (.int .i64 ((be (val a)).length : Int)) (exec_lens Tryz.underlying9 _ (by rfl) (be (val a)) (by rfl) _ rfl) ?_
  refine jv (.bool true) (exec_eqi _ _ _ _ (by rfl) .i64 ((be (val a)).length : Int) 8 (by rfl) (by rfl) true (decide_eq_true (by omega))) ?_
  refine jm (.bool true) ?_
  refine jm (st (be (val a))) ?_
  refine jv (.int .u8 (t : Int)) (fun X => (exec_chr _ Tryz.underlying9 _ _ (by rfl) (be (val a)) 0 (by rfl) (by rfl) (by omega) (by omega) X).trans (by rw [← HT.out])) ?_
  refine jv (.bool false) (exec_gtr _ _ _ _ (by rfl) .u8 (t : Int) 127 (by rfl) (by rfl) false (decide_eq_false (by omega))) ?_
  refine jm (.bool false) ?_
  refine jm (.bool false) ?_
  refine jz fun X2 hX2 => ?_
  have hR0 := hR0.bel hX2
  have hb := bel_next hb hX2
  clear hX2
  go_wp2
  go_loopw [4, 5] (fun nv kv wr => ∃ k : Nat, k ≤ (be (val a)).length ∧ kv = .int .i64 (k : Int) ∧ nv = .int .i64 (val ((be (val a)).take k) : Int) ∧ Blk wr w.heap.size 101 [.int .i64 0, .int .i64 0] ∧ Below w.heap.size w wr) (fun _ kv _ => (be (val a)).length - (intOf kv).toNat)
  case atStart => exact ⟨0, by omega, rfl, rfl, hR0, hb⟩
  case round =>
    clear hR0 hb
    obtain ⟨k, hk, rfl, rfl, hR0, hb⟩ := hrel
    rcases Nat.lt_or_ge k (be (val a)).length with hlt | hlt
    · obtain ⟨c, hc⟩ : ∃ c, c = ((be (val a)).getD k 0).toNat := ⟨_, rfl⟩
      have hcb : c < 256 := hc ▸ u8_lt _
      obtain ⟨n, hn⟩ : ∃ n, n = val ((be (val a)).take k) := ⟨_, rfl⟩
      have hn2 : val ((be (val a)).take (k + 1)) = n * 256 + c := by rw [val_take_succ _ hlt, hc, hn]
      have hle := val_take_le (be (val a)) (k + 1)
      rw [hn2, val_be] at hle
      have HC := Lib.hid hc
      have HN2 := Lib.hid hn2
      rw [← hn]
      clear hn2 hn hc
      go_upto_region 6 with (fail)
      refine jp ?_
      refine jm (.int .i64 (k : Int)) ?_
      refine jm (st (be (val a))) ?_
      refine jv (.int .i64 ((be (val a)).length : Int)) (exec_lens Tryz.underlying9 _ (by rfl) (be (val a)) (by rfl) _ rfl) ?_
      refine jv (.bool true) (exec_lss _ _ _ _ (by rfl) .i64 (k : Int) ((be (val a)).length : Int) (by rfl) (by rfl) true (decide_eq_true (by omega))) ?_
      refine jz fun X1 hX1 => ?_
      have hR0 := hR0.bel hX1
      have hb := bel_next hb hX1
      clear hX1
      go_upto_region 8 with (fail)
      refine jp ?_
      refine jm (.int .i64 (n : Int)) ?_
      refine jv (.int .i64 (256 * (n : Int))) (exec_mul _ _ _ _ (by rfl) 256 (n : Int) (256 * (n : Int)) (by rfl) (by rfl) (by omega) (by omega) (by omega)) ?_
      refine jm (st (be (val a))) ?_
      refine jm (.int .i64 (k : Int)) ?_
      refine jv (.int .u8 (c : Int)) (fun X => (exec_chr _ Tryz.underlying9 _ _ (by rfl) (be (val a)) k (by rfl) (by rfl) (by omega) hlt X).trans (by rw [← HC.out])) ?_
      refine jv (.int .i64 (c : Int)) (exec_cnv _ _ .u8 .i64 Tryz.underlying5 Tryz.underlying3 _ (by rfl) (c : Int) (c : Int) (by rfl) (by rw [IntWalk.i64_in _ (by omega)])) ?_
      refine jv (.int .i64 ((n * 256 + c : Nat) : Int)) (exec_add _ _ _ _ (by rfl) (256 * (n : Int)) (c : Int) ((n * 256 + c : Nat) : Int) (by rfl) (by rfl) (by omega) (by omega) (by omega)) ?_
      refine jm (.int .i64 ((n * 256 + c : Nat) : Int)) ?_
      refine jz fun X2 hX2 => ?_
      have hR0 := hR0.bel hX2
      have hb := bel_next hb hX2
      clear hX2
      go_upto_region 7 with (fail)
      refine jp ?_
      refine jm (.int .i64 (k : Int)) ?_
      refine jv (.int .i64 ((k + 1 : Nat) : Int)) (exec_add _ _ _ _ (by rfl) (k : Int) 1 ((k + 1 : Nat) : Int) (by rfl) (by rfl) (by omega) (by omega) (by omega)) ?_
      refine jm (.int .i64 ((k + 1 : Nat) : Int)) ?_
      refine jz fun X3 hX3 => ?_
      have hR0 := hR0.bel hX3
      have hb := bel_next hb hX3
      clear hX3
      go_wp2
      go_roundw
      case rel => exact ⟨k + 1, by omega, rfl, int_eq (by rw [HN2.out]), hR0, hb⟩
      case measure => simp [intOf]; omega
    · obtain rfl : k = (be (val a)).length := by omega
      have HT : Hid (val ((be (val a)).take (be (val a)).length) = val a) := by show _ = _; rw [List.take_of_length_le (Nat.le_refl _), val_be]
      rw [HT.out]
      go_upto_region 6 with (fail)
      refine jp ?_
      refine jm (.int .i64 ((be (val a)).length : Int)) ?_
      refine jm (st (be (val a))) ?_
      refine jv (.int .i64 ((be (val a)).length : Int)) (exec_lens Tryz.underlying9 _ (by rfl) (be (val a)) (by rfl) _ rfl) ?_
      refine jv (.bool false) (exec_lss _ _ _ _ (by rfl) .i64 ((be (val a)).length : Int) ((be (val a)).length : Int) (by rfl) (by rfl) false (decide_eq_false (by omega))) ?_
      refine jz fun X1 hX1 => ?_
      have hR0 := hR0.bel hX1
      have hb := bel_next hb hX1
      clear hX1
      go_upto_region 9 with (fail)
      refine jq 2 ?_
      refine jm (.int .i64 (val a : Int)) ?_
      refine jn (.agg #[.int .i64 (val a : Int), .int .i64 0]) ?_
      refine jz fun X2 hX2 => ?_
      have hR0 := hR0.bel hX2
      have hb := bel_next hb hX2
      clear hX2
      refine osb 101 2 36 w.heap.size 101 hR0 [.int .i64 (val a : Int), .int .i64 0] info_cnt ?_
      intro w9 hR9 hO9 hB9 hs9
      have hb9 := hB9 _ _ hb (Nat.le_refl _)
      clear hO9 hB9
      go_wp2
      refine post_cell rfl rfl (by rfl) Tryz.underlying101 rfl hR9 info_cnt ⟨rfl, hb9⟩

theorem rvalueC (a : List UInt8) (w : World) (ha : a.length ≤ 4194304) (hv : val a < 9223372036854775808) : Calls Tryz.prog 71 #[.string ⟨a.toArray⟩] w fun e w' => e = .returned (.agg #[.int .i64 (val a : Int), .int .i64 0]) ∧ Since w w' := by
  have h8 : (be (val a)).length ≤ 8 := be_len (Nat.lt_of_lt_of_le hv (by decide))
  rcases Nat.lt_or_ge (be (val a)).length 8 with h | h
  · exact rvalC1 a w ha hv h
  · obtain ⟨r, h1, h2⟩ := be_top (v := val a) (by omega)
    exact rvalC2 a w ha hv (by omega) _ rfl (by omega)

end Go.Proofs.YtchhlgcakjjncaaGreatDoor
