/-
  The reference: Parse.
-/
import Derived.Test.YtchhlgcakjjncaaDoorRtx
set_option linter.unusedSimpArgs false
set_option linter.unusedVariables false
set_option maxRecDepth 100000
set_option maxHeartbeats 1600000
namespace Go.Proofs.YtchhlgcakjjncaaDoor
open Go.RowKit

/-- What the reference's Parse hands back. -/
def rparV (s : List UInt8) : Value := if pok s = true then .agg #[.string ⟨(be (dval s)).toArray⟩, .int .i64 0] else .agg #[.string ⟨#[]⟩, .int .i64 27]
theorem rparV_t {s : List UInt8} (h : pok s = true) : rparV s = .agg #[.string ⟨(be (dval s)).toArray⟩, .int .i64 0] := by unfold rparV; rw [if_pos h]
theorem rparV_f {s : List UInt8} (h : pok s = false) : rparV s = .agg #[.string ⟨#[]⟩, .int .i64 27] := by unfold rparV; rw [if_neg (by rw [h]; exact Bool.false_ne_true)]
theorem be_dval {l : List UInt8} (h : isd l = true) : (be (dval l)).length ≤ l.length := be_len (Nat.lt_of_lt_of_le (dval_lt l h) (Nat.pow_le_pow_left (by decide) _))
theorem rparN (w : World) : Calls Tryd.prog 53 #[.string ⟨([] : List UInt8).toArray⟩] w fun e w' => e = .returned (rparV []) ∧ Since w w' := by
  go_enter Tryd.func53, Tryd.ntmps53
  go_upto_region 1 with (fail)
  have hR0 : Blk (w.alloc (.cells #[.string ⟨#[]⟩, .int .i64 0] 89)) w.heap.size 89 [.string ⟨#[]⟩, .int .i64 0] := Blk.new rfl
  have hb : Below w.heap.size w (w.alloc (.cells #[.string ⟨#[]⟩, .int .i64 0] 89)) := (Below.refl _ _).alloc (Nat.le_refl _) _
  generalize w.alloc (.cells #[.string ⟨#[]⟩, .int .i64 0] 89) = W0 at hR0 hb ⊢
  refine jp ?_
  refine jm (st []) ?_
  refine jv (.bool true) (exec_eqsB _ _ _ _ (by rfl) ([] : List UInt8) ([] : List UInt8) (by rfl) (by rfl) true rfl) ?_
  refine jm (.bool true) ?_
  refine js ?_
  refine js ?_
  refine js ?_
  refine js ?_
  refine js ?_
  refine js ?_
  refine js ?_
  refine js ?_
  refine jm (.bool true) ?_
  refine jz fun X1 hX1 => ?_
  have hR0 := hR0.bel hX1
  have hb := bel_next hb hX1
  clear hX1
  go_upto_region 2 with (fail)
  refine jq 1 ?_
  refine jn (.agg #[.string ⟨#[]⟩, .int .i64 27]) ?_
  refine jz fun X2 hX2 => ?_
  have hR0 := hR0.bel hX2
  have hb := bel_next hb hX2
  clear hX2
  refine osb 89 2 17 w.heap.size 89 hR0 [.string ⟨#[]⟩, .int .i64 27] info_made ?_
  intro w9 hR9 hO9 hB9 hs9
  have hb9 := hB9 _ _ hb (Nat.le_refl _)
  clear hO9 hB9
  go_wp2
  refine post_cell rfl rfl (by rfl) Tryd.underlying89 rfl hR9 info_made ⟨rfl, hb9⟩

theorem rparL (s : List UInt8) (w : World) (hs : s.length ≤ 4194000) (h0 : 0 < s.length) (hc0 : (s.getD 0 0).toNat = 48) (hl : 1 < s.length) : Calls Tryd.prog 53 #[.string ⟨s.toArray⟩] w fun e w' => e = .returned (rparV s) ∧ Since w w' := by
  have HNE : Hid (s ≠ []) := fun h => by rw [h] at h0; exact absurd h0 (by decide)
  have hn1 : s ≠ [48] := fun h => by rw [h] at hl; exact absurd hl (by decide)
  have HBAD : Hid (rparV s = .agg #[.string ⟨#[]⟩, .int .i64 27]) := rparV_f (by
    unfold pok
    rw [hc0, nes_t hn1]
    simp)
  have hc1 : (s.getD 0 0).toNat ≤ 48 ∧ 48 ≤ (s.getD 0 0).toNat := by omega
  clear hc0 hn1
  go_enter Tryd.func53, Tryd.ntmps53
  go_upto_region 1 with (fail)
  have hR0 : Blk (w.alloc (.cells #[.string ⟨#[]⟩, .int .i64 0] 89)) w.heap.size 89 [.string ⟨#[]⟩, .int .i64 0] := Blk.new rfl
  have hb : Below w.heap.size w (w.alloc (.cells #[.string ⟨#[]⟩, .int .i64 0] 89)) := (Below.refl _ _).alloc (Nat.le_refl _) _
  generalize w.alloc (.cells #[.string ⟨#[]⟩, .int .i64 0] 89) = W0 at hR0 hb ⊢
  refine jp ?_
  refine jm (st s) ?_
  refine jv (.bool false) (exec_eqsB _ _ _ _ (by rfl) s ([] : List UInt8) (by rfl) (by rfl) false (eqs_f HNE.out)) ?_
  refine jm (.bool false) ?_
  refine jm (st s) ?_
  refine jv (.int .u8 ((s.getD 0 0).toNat : Int)) (exec_chr _ Tryd.underlying9 _ _ (by rfl) s 0 (by rfl) (by rfl) (by omega) (by omega)) ?_
  refine jv (.bool true) (exec_eqi _ _ _ _ (by rfl) .u8 ((s.getD 0 0).toNat : Int) 48 (by rfl) (by rfl) true (decide_eq_true (by omega))) ?_
  refine jm (.bool true) ?_
  refine jm (st s) ?_
  refine jv (.int .i64 (s.length : Int)) (exec_lens Tryd.underlying9 _ (by rfl) s (by rfl) _ rfl) ?_
  refine jv (.bool true) (exec_gtr _ _ _ _ (by rfl) .i64 (s.length : Int) 1 (by rfl) (by rfl) true (decide_eq_true (by omega))) ?_
  refine jm (.bool true) ?_
  refine jm (.bool true) ?_
  refine jz fun X1 hX1 => ?_
  have hR0 := hR0.bel hX1
  have hb := bel_next hb hX1
  clear hX1
  go_upto_region 2 with (fail)
  refine jq 1 ?_
  refine jn (.agg #[.string ⟨#[]⟩, .int .i64 27]) ?_
  refine jz fun X2 hX2 => ?_
  have hR0 := hR0.bel hX2
  have hb := bel_next hb hX2
  clear hX2
  refine osb 89 2 17 w.heap.size 89 hR0 [.string ⟨#[]⟩, .int .i64 27] info_made ?_
  intro w9 hR9 hO9 hB9 hs9
  have hb9 := hB9 _ _ hb (Nat.le_refl _)
  clear hO9 hB9
  go_wp2
  refine post_cell rfl rfl (by rfl) Tryd.underlying89 rfl hR9 info_made ⟨by rw [HBAD.out], hb9⟩

theorem rparZ (s : List UInt8) (w : World) (hs : s.length ≤ 4194000) (h0 : 0 < s.length) (hc0 : (s.getD 0 0).toNat = 48) (hl : s.length ≤ 1) : Calls Tryd.prog 53 #[.string ⟨s.toArray⟩] w fun e w' => e = .returned (rparV s) ∧ Since w w' := by
  have HNE : Hid (s ≠ []) := fun h => by rw [h] at h0; exact absurd h0 (by decide)
  have hn1 : s = [48] := one_of (by omega) hc0
  have HPO : Hid (isd s = true → pok s = true) := fun h => by
    unfold pok
    rw [h]
    have h1 : s.isEmpty = false := by
      cases s with
      | nil => exact absurd rfl HNE.out
      | cons c r => rfl
    rw [h1]
    rw [nes_f hn1]
    simp
  have hc1 : (s.getD 0 0).toNat ≤ 48 ∧ 48 ≤ (s.getD 0 0).toNat := by omega
  clear hc0 hn1
  go_enter Tryd.func53, Tryd.ntmps53
  go_upto_region 1 with (fail)
  have hR0 : Blk (w.alloc (.cells #[.string ⟨#[]⟩, .int .i64 0] 89)) w.heap.size 89 [.string ⟨#[]⟩, .int .i64 0] := Blk.new rfl
  have hb : Below w.heap.size w (w.alloc (.cells #[.string ⟨#[]⟩, .int .i64 0] 89)) := (Below.refl _ _).alloc (Nat.le_refl _) _
  generalize w.alloc (.cells #[.string ⟨#[]⟩, .int .i64 0] 89) = W0 at hR0 hb ⊢
  refine jp ?_
  refine jm (st s) ?_
  refine jv (.bool false) (exec_eqsB _ _ _ _ (by rfl) s ([] : List UInt8) (by rfl) (by rfl) false (eqs_f HNE.out)) ?_
  refine jm (.bool false) ?_
  refine jm (st s) ?_
  refine jv (.int .u8 ((s.getD 0 0).toNat : Int)) (exec_chr _ Tryd.underlying9 _ _ (by rfl) s 0 (by rfl) (by rfl) (by omega) (by omega)) ?_
  refine jv (.bool true) (exec_eqi _ _ _ _ (by rfl) .u8 ((s.getD 0 0).toNat : Int) 48 (by rfl) (by rfl) true (decide_eq_true (by omega))) ?_
  refine jm (.bool true) ?_
  refine jm (st s) ?_
  refine jv (.int .i64 (s.length : Int)) (exec_lens Tryd.underlying9 _ (by rfl) s (by rfl) _ rfl) ?_
  refine jv (.bool false) (exec_gtr _ _ _ _ (by rfl) .i64 (s.length : Int) 1 (by rfl) (by rfl) false (decide_eq_false (by omega))) ?_
  refine jm (.bool false) ?_
  refine jm (.bool false) ?_
  refine jz fun X1 hX1 => ?_
  have hR0 := hR0.bel hX1
  have hb := bel_next hb hX1
  clear hX1
  go_wp2
  go_loopw [3, 4] (fun ov kv wr => ∃ k : Nat, k ≤ s.length ∧ kv = .int .i64 (k : Int) ∧ ov = .string ⟨(be (dval (s.take k))).toArray⟩ ∧ isd (s.take k) = true ∧ Blk wr w.heap.size 89 [.string ⟨#[]⟩, .int .i64 0] ∧ Below w.heap.size w wr) (fun _ kv _ => s.length - (intOf kv).toNat)
  case atStart => exact ⟨0, by omega, rfl, rfl, rfl, hR0, hb⟩
  case round =>
    clear hR0 hb
    obtain ⟨k, hk, rfl, rfl, his, hR0, hb⟩ := hrel
    have hlx := be_dval his
    have hlk : (s.take k).length ≤ k := List.length_take_le _ _
    have HIS := Lib.hid his
    clear his
    rcases Nat.lt_or_ge k s.length with hlt | hlt
    · obtain ⟨y, hy⟩ : ∃ y, y = (s.getD k 0).toNat := ⟨_, rfl⟩
      have hy2 : y < 256 := hy ▸ u8_lt _
      have HY := Lib.hid hy
      clear hy
      go_upto_region 5 with (fail)
      refine jp ?_
      refine jm (.int .i64 (k : Int)) ?_
      refine jm (st s) ?_
      refine jv (.int .i64 (s.length : Int)) (exec_lens Tryd.underlying9 _ (by rfl) s (by rfl) _ rfl) ?_
      refine jv (.bool true) (exec_lss _ _ _ _ (by rfl) .i64 (k : Int) (s.length : Int) (by rfl) (by rfl) true (decide_eq_true (by omega))) ?_
      refine jz fun X1 hX1 => ?_
      have hR0 := hR0.bel hX1
      have hb := bel_next hb hX1
      clear hX1
      by_cases hd : 48 ≤ y ∧ y ≤ 57
      · obtain ⟨hd1, hd2⟩ := hd
        have HDV : Hid (dval (s.take (k + 1)) = dval (s.take k) * 10 + (y - 48)) := by
          show _ = _
          rw [dval_take_succ s hlt, ← HY.out, Nat.mul_comm]
        have HIS2 : Hid (isd (s.take (k + 1)) = true) := by
          show _ = _
          rw [isd_take_succ s hlt, HIS.out, ← HY.out, decide_eq_true ⟨hd1, hd2⟩]
          rfl
        have HLW : Hid (val [UInt8.ofNat (y - 48)] = y - 48) := by
          show _ = _
          have : val [UInt8.ofNat (y - 48)] = (UInt8.ofNat (y - 48)).toNat := by simp [val, lvN]
          rw [this, u8n, Nat.mod_eq_of_lt (by omega)]
        have hm10 : (be (dval (s.take k) * 10)).length ≤ k + 1 := be_len (by
          have h1 := lt_be_len (dval (s.take k))
          have h2 := Nat.lt_of_lt_of_le h1 (Nat.pow_le_pow_right (n := 256) (by omega) (show (be (dval (s.take k))).length ≤ k by omega))
          rw [Nat.pow_succ]
          omega)
        go_upto_region 7 with (fail)
        refine jp ?_
        refine jm (st s) ?_
        refine jm (.int .i64 (k : Int)) ?_
        refine jv (.int .u8 (y : Int)) (fun X => (exec_chr _ Tryd.underlying9 _ _ (by rfl) s k (by rfl) (by rfl) (by omega) hlt X).trans (by rw [← HY.out])) ?_
        refine jv (.bool false) (exec_lss _ _ _ _ (by rfl) .u8 (y : Int) 48 (by rfl) (by rfl) false (decide_eq_false (by omega))) ?_
        refine jm (.bool false) ?_
        refine jm (st s) ?_
        refine jm (.int .i64 (k : Int)) ?_
        refine jv (.int .u8 (y : Int)) (fun X => (exec_chr _ Tryd.underlying9 _ _ (by rfl) s k (by rfl) (by rfl) (by omega) hlt X).trans (by rw [← HY.out])) ?_
        refine jv (.bool false) (exec_gtr _ _ _ _ (by rfl) .u8 (y : Int) 57 (by rfl) (by rfl) false (decide_eq_false (by omega))) ?_
        refine jm (.bool false) ?_
        refine jz fun X2 hX2 => ?_
        have hR0 := hR0.bel hX2
        have hb := bel_next hb hX2
        clear hX2
        go_upto_region 9 with (fail)
        refine lx_region [none, none, none, none, none, none, some (Bts [UInt8.ofNat (y - 48)])] (by kernel_rfl) (by kernel_rfl) (lasts_none (lasts_none (lasts_none (lasts_none (lasts_none (lasts_none (lasts_some (Bts.lasts _) (lasts_nil)))))))) ?_
        simp only [iX, Nat.reduceAdd]
        refine jm (st (be (dval (s.take k)))) ?_
        refine jc (st (be (dval (s.take k) * 10))) (fun X hX hF => mo (rmulC (be (dval (s.take k))) [10] X (by omega) (by simp only [List.length_cons, List.length_nil]; omega)) (by rw [val_be, ten])) ?_
        refine jm (st s) ?_
        refine jm (.int .i64 (k : Int)) ?_
        refine jv (.int .u8 (y : Int)) (fun X => (exec_chr _ Tryd.underlying9 _ _ (by rfl) s k (by rfl) (by rfl) (by omega) hlt X).trans (by rw [← HY.out])) ?_
        refine jv (.int .u8 ((y - 48 : Nat) : Int)) (exec_subk _ _ _ _ (by rfl) .u8 (y : Int) 48 ((y - 48 : Nat) : Int) (by rfl) (by rfl) (by rw [w8 (by omega) (by omega)]; omega)) ?_
        refine lx_new (by rfl) (fun X hX hF => ⟨_, _, exec_bs8 _ (by rfl) _ (by rfl) X, Bts.new1 X _ (UInt8.ofNat (y - 48)) (by rw [u8n]; omega), since_alloc X _⟩) ?_
        intro v41
        simp only [pX]
        refine jg (st [UInt8.ofNat (y - 48)]) (fun X hX hF => by obtain ⟨A9, c9, h9, hr9⟩ := (hF _ _ List.mem_cons_self rfl); subst h9; exact exec_str _ _ 5 Tryd.underlying106 Tryd.underlying5 Tryd.underlying9 _ (by rfl) (by rfl) hr9) ?_
        refine jc (st (be (dval (s.take k) * 10 + (y - 48)))) (fun X hX hF => mo (raddC (be (dval (s.take k) * 10)) [UInt8.ofNat (y - 48)] X (by omega) (by simp only [List.length_cons, List.length_nil]; omega)) (by rw [val_be, HLW.out])) ?_
        refine jm (st (be (dval (s.take k) * 10 + (y - 48)))) ?_
        refine lx_nil ?_
        intro X3 hX3 hF
        have hv41 := hF _ _ List.mem_cons_self
        have hR0 := hR0.bel hX3
        have hb := bel_next hb hX3
        clear hF hX3
        clear hv41
        go_upto_region 6 with (fail)
        refine jp ?_
        refine jm (.int .i64 (k : Int)) ?_
        refine jv (.int .i64 ((k + 1 : Nat) : Int)) (exec_add _ _ _ _ (by rfl) (k : Int) 1 ((k + 1 : Nat) : Int) (by rfl) (by rfl) (by omega) (by omega) (by omega)) ?_
        refine jm (.int .i64 ((k + 1 : Nat) : Int)) ?_
        refine jz fun X4 hX4 => ?_
        have hR0 := hR0.bel hX4
        have hb := bel_next hb hX4
        clear hX4
        go_wp2
        go_roundw
        case rel => exact ⟨k + 1, by omega, rfl, by rw [HDV.out], HIS2.out, hR0, hb⟩
        case measure => simp [intOf]; omega
      · have HBAD : Hid (rparV s = .agg #[.string ⟨#[]⟩, .int .i64 27]) := rparV_f (pok_bad hlt (by rw [← HY.out]; exact hd))
        rcases Nat.lt_or_ge y 48 with h48 | h48
        · clear hd
          go_upto_region 7 with (fail)
          refine jp ?_
          refine jm (st s) ?_
          refine jm (.int .i64 (k : Int)) ?_
          refine jv (.int .u8 (y : Int)) (fun X => (exec_chr _ Tryd.underlying9 _ _ (by rfl) s k (by rfl) (by rfl) (by omega) hlt X).trans (by rw [← HY.out])) ?_
          refine jv (.bool true) (exec_lss _ _ _ _ (by rfl) .u8 (y : Int) 48 (by rfl) (by rfl) true (decide_eq_true (by omega))) ?_
          refine jm (.bool true) ?_
          refine js ?_
          refine js ?_
          refine js ?_
          refine js ?_
          refine jm (.bool true) ?_
          refine jz fun X2 hX2 => ?_
          have hR0 := hR0.bel hX2
          have hb := bel_next hb hX2
          clear hX2
          go_upto_region 8 with (fail)
          refine jq 1 ?_
          refine jn (.agg #[.string ⟨#[]⟩, .int .i64 27]) ?_
          refine jz fun X3 hX3 => ?_
          have hR0 := hR0.bel hX3
          have hb := bel_next hb hX3
          clear hX3
          refine osb 89 2 34 w.heap.size 89 hR0 [.string ⟨#[]⟩, .int .i64 27] info_made ?_
          intro w9 hR9 hO9 hB9 hs9
          have hb9 := hB9 _ _ hb (Nat.le_refl _)
          clear hO9 hB9
          go_wp2
          refine post_cell rfl rfl (by rfl) Tryd.underlying89 rfl hR9 info_made ⟨by rw [HBAD.out], hb9⟩
        · have h57 : 57 < y := by omega
          clear hd
          go_upto_region 7 with (fail)
          refine jp ?_
          refine jm (st s) ?_
          refine jm (.int .i64 (k : Int)) ?_
          refine jv (.int .u8 (y : Int)) (fun X => (exec_chr _ Tryd.underlying9 _ _ (by rfl) s k (by rfl) (by rfl) (by omega) hlt X).trans (by rw [← HY.out])) ?_
          refine jv (.bool false) (exec_lss _ _ _ _ (by rfl) .u8 (y : Int) 48 (by rfl) (by rfl) false (decide_eq_false (by omega))) ?_
          refine jm (.bool false) ?_
          refine jm (st s) ?_
          refine jm (.int .i64 (k : Int)) ?_
          refine jv (.int .u8 (y : Int)) (fun X => (exec_chr _ Tryd.underlying9 _ _ (by rfl) s k (by rfl) (by rfl) (by omega) hlt X).trans (by rw [← HY.out])) ?_
          refine jv (.bool true) (exec_gtr _ _ _ _ (by rfl) .u8 (y : Int) 57 (by rfl) (by rfl) true (decide_eq_true (by omega))) ?_
          refine jm (.bool true) ?_
          refine jz fun X2 hX2 => ?_
          have hR0 := hR0.bel hX2
          have hb := bel_next hb hX2
          clear hX2
          go_upto_region 8 with (fail)
          refine jq 1 ?_
          refine jn (.agg #[.string ⟨#[]⟩, .int .i64 27]) ?_
          refine jz fun X3 hX3 => ?_
          have hR0 := hR0.bel hX3
          have hb := bel_next hb hX3
          clear hX3
          refine osb 89 2 34 w.heap.size 89 hR0 [.string ⟨#[]⟩, .int .i64 27] info_made ?_
          intro w9 hR9 hO9 hB9 hs9
          have hb9 := hB9 _ _ hb (Nat.le_refl _)
          clear hO9 hB9
          go_wp2
          refine post_cell rfl rfl (by rfl) Tryd.underlying89 rfl hR9 info_made ⟨by rw [HBAD.out], hb9⟩
    · have HT : Hid (s.take k = s) := List.take_of_length_le (by omega)
      have HOK : Hid (rparV s = .agg #[.string ⟨(be (dval s)).toArray⟩, .int .i64 0]) := rparV_t (HPO.out (by rw [← HT.out]; exact HIS.out))
      rw [HT.out]
      go_upto_region 5 with (fail)
      refine jp ?_
      refine jm (.int .i64 (k : Int)) ?_
      refine jm (st s) ?_
      refine jv (.int .i64 (s.length : Int)) (exec_lens Tryd.underlying9 _ (by rfl) s (by rfl) _ rfl) ?_
      refine jv (.bool false) (exec_lss _ _ _ _ (by rfl) .i64 (k : Int) (s.length : Int) (by rfl) (by rfl) false (decide_eq_false (by omega))) ?_
      refine jz fun X1 hX1 => ?_
      have hR0 := hR0.bel hX1
      have hb := bel_next hb hX1
      clear hX1
      go_upto_region 10 with (fail)
      refine jq 2 ?_
      refine jm (st (be (dval s))) ?_
      refine jn (.agg #[st (be (dval s)), .int .i64 0]) ?_
      refine jz fun X2 hX2 => ?_
      have hR0 := hR0.bel hX2
      have hb := bel_next hb hX2
      clear hX2
      refine osb 89 2 45 w.heap.size 89 hR0 [.string ⟨(be (dval s)).toArray⟩, .int .i64 0] info_made ?_
      intro w9 hR9 hO9 hB9 hs9
      have hb9 := hB9 _ _ hb (Nat.le_refl _)
      clear hO9 hB9
      go_wp2
      refine post_cell rfl rfl (by rfl) Tryd.underlying89 rfl hR9 info_made ⟨by rw [HOK.out], hb9⟩

theorem rparO (s : List UInt8) (w : World) (hs : s.length ≤ 4194000) (h0 : 0 < s.length) (hc0 : ¬ (s.getD 0 0).toNat = 48) : Calls Tryd.prog 53 #[.string ⟨s.toArray⟩] w fun e w' => e = .returned (rparV s) ∧ Since w w' := by
  have HNE : Hid (s ≠ []) := fun h => by rw [h] at h0; exact absurd h0 (by decide)
  have HPO : Hid (isd s = true → pok s = true) := fun h => by
    unfold pok
    rw [h]
    have h1 : s.isEmpty = false := by
      cases s with
      | nil => exact absurd rfl HNE.out
      | cons c r => rfl
    rw [h1]
    have h2 : ((s.getD 0 0).toNat == 48) = false := beq_eq_false_iff_ne.2 hc0
    rw [h2]
    rfl
  go_enter Tryd.func53, Tryd.ntmps53
  go_upto_region 1 with (fail)
  have hR0 : Blk (w.alloc (.cells #[.string ⟨#[]⟩, .int .i64 0] 89)) w.heap.size 89 [.string ⟨#[]⟩, .int .i64 0] := Blk.new rfl
  have hb : Below w.heap.size w (w.alloc (.cells #[.string ⟨#[]⟩, .int .i64 0] 89)) := (Below.refl _ _).alloc (Nat.le_refl _) _
  generalize w.alloc (.cells #[.string ⟨#[]⟩, .int .i64 0] 89) = W0 at hR0 hb ⊢
  refine jp ?_
  refine jm (st s) ?_
  refine jv (.bool false) (exec_eqsB _ _ _ _ (by rfl) s ([] : List UInt8) (by rfl) (by rfl) false (eqs_f HNE.out)) ?_
  refine jm (.bool false) ?_
  refine jm (st s) ?_
  refine jv (.int .u8 ((s.getD 0 0).toNat : Int)) (exec_chr _ Tryd.underlying9 _ _ (by rfl) s 0 (by rfl) (by rfl) (by omega) (by omega)) ?_
  refine jv (.bool false) (exec_eqi _ _ _ _ (by rfl) .u8 ((s.getD 0 0).toNat : Int) 48 (by rfl) (by rfl) false (decide_eq_false (by omega))) ?_
  refine jm (.bool false) ?_
  refine js ?_
  refine js ?_
  refine js ?_
  refine jm (.bool false) ?_
  refine jm (.bool false) ?_
  refine jz fun X1 hX1 => ?_
  have hR0 := hR0.bel hX1
  have hb := bel_next hb hX1
  clear hX1
  go_wp2
  go_loopw [3, 4] (fun ov kv wr => ∃ k : Nat, k ≤ s.length ∧ kv = .int .i64 (k : Int) ∧ ov = .string ⟨(be (dval (s.take k))).toArray⟩ ∧ isd (s.take k) = true ∧ Blk wr w.heap.size 89 [.string ⟨#[]⟩, .int .i64 0] ∧ Below w.heap.size w wr) (fun _ kv _ => s.length - (intOf kv).toNat)
  case atStart => exact ⟨0, by omega, rfl, rfl, rfl, hR0, hb⟩
  case round =>
    clear hR0 hb
    obtain ⟨k, hk, rfl, rfl, his, hR0, hb⟩ := hrel
    have hlx := be_dval his
    have hlk : (s.take k).length ≤ k := List.length_take_le _ _
    have HIS := Lib.hid his
    clear his
    rcases Nat.lt_or_ge k s.length with hlt | hlt
    · obtain ⟨y, hy⟩ : ∃ y, y = (s.getD k 0).toNat := ⟨_, rfl⟩
      have hy2 : y < 256 := hy ▸ u8_lt _
      have HY := Lib.hid hy
      clear hy
      go_upto_region 5 with (fail)
      refine jp ?_
      refine jm (.int .i64 (k : Int)) ?_
      refine jm (st s) ?_
      refine jv (.int .i64 (s.length : Int)) (exec_lens Tryd.underlying9 _ (by rfl) s (by rfl) _ rfl) ?_
      refine jv (.bool true) (exec_lss _ _ _ _ (by rfl) .i64 (k : Int) (s.length : Int) (by rfl) (by rfl) true (decide_eq_true (by omega))) ?_
      refine jz fun X1 hX1 => ?_
      have hR0 := hR0.bel hX1
      have hb := bel_next hb hX1
      clear hX1
      by_cases hd : 48 ≤ y ∧ y ≤ 57
      · obtain ⟨hd1, hd2⟩ := hd
        have HDV : Hid (dval (s.take (k + 1)) = dval (s.take k) * 10 + (y - 48)) := by
          show _ = _
          rw [dval_take_succ s hlt, ← HY.out, Nat.mul_comm]
        have HIS2 : Hid (isd (s.take (k + 1)) = true) := by
          show _ = _
          rw [isd_take_succ s hlt, HIS.out, ← HY.out, decide_eq_true ⟨hd1, hd2⟩]
          rfl
        have HLW : Hid (val [UInt8.ofNat (y - 48)] = y - 48) := by
          show _ = _
          have : val [UInt8.ofNat (y - 48)] = (UInt8.ofNat (y - 48)).toNat := by simp [val, lvN]
          rw [this, u8n, Nat.mod_eq_of_lt (by omega)]
        have hm10 : (be (dval (s.take k) * 10)).length ≤ k + 1 := be_len (by
          have h1 := lt_be_len (dval (s.take k))
          have h2 := Nat.lt_of_lt_of_le h1 (Nat.pow_le_pow_right (n := 256) (by omega) (show (be (dval (s.take k))).length ≤ k by omega))
          rw [Nat.pow_succ]
          omega)
        go_upto_region 7 with (fail)
        refine jp ?_
        refine jm (st s) ?_
        refine jm (.int .i64 (k : Int)) ?_
        refine jv (.int .u8 (y : Int)) (fun X => (exec_chr _ Tryd.underlying9 _ _ (by rfl) s k (by rfl) (by rfl) (by omega) hlt X).trans (by rw [← HY.out])) ?_
        refine jv (.bool false) (exec_lss _ _ _ _ (by rfl) .u8 (y : Int) 48 (by rfl) (by rfl) false (decide_eq_false (by omega))) ?_
        refine jm (.bool false) ?_
        refine jm (st s) ?_
        refine jm (.int .i64 (k : Int)) ?_
        refine jv (.int .u8 (y : Int)) (fun X => (exec_chr _ Tryd.underlying9 _ _ (by rfl) s k (by rfl) (by rfl) (by omega) hlt X).trans (by rw [← HY.out])) ?_
        refine jv (.bool false) (exec_gtr _ _ _ _ (by rfl) .u8 (y : Int) 57 (by rfl) (by rfl) false (decide_eq_false (by omega))) ?_
        refine jm (.bool false) ?_
        refine jz fun X2 hX2 => ?_
        have hR0 := hR0.bel hX2
        have hb := bel_next hb hX2
        clear hX2
        go_upto_region 9 with (fail)
        refine lx_region [none, none, none, none, none, none, some (Bts [UInt8.ofNat (y - 48)])] (by kernel_rfl) (by kernel_rfl) (lasts_none (lasts_none (lasts_none (lasts_none (lasts_none (lasts_none (lasts_some (Bts.lasts _) (lasts_nil)))))))) ?_
        simp only [iX, Nat.reduceAdd]
        refine jm (st (be (dval (s.take k)))) ?_
        refine jc (st (be (dval (s.take k) * 10))) (fun X hX hF => mo (rmulC (be (dval (s.take k))) [10] X (by omega) (by simp only [List.length_cons, List.length_nil]; omega)) (by rw [val_be, ten])) ?_
        refine jm (st s) ?_
        refine jm (.int .i64 (k : Int)) ?_
        refine jv (.int .u8 (y : Int)) (fun X => (exec_chr _ Tryd.underlying9 _ _ (by rfl) s k (by rfl) (by rfl) (by omega) hlt X).trans (by rw [← HY.out])) ?_
        refine jv (.int .u8 ((y - 48 : Nat) : Int)) (exec_subk _ _ _ _ (by rfl) .u8 (y : Int) 48 ((y - 48 : Nat) : Int) (by rfl) (by rfl) (by rw [w8 (by omega) (by omega)]; omega)) ?_
        refine lx_new (by rfl) (fun X hX hF => ⟨_, _, exec_bs8 _ (by rfl) _ (by rfl) X, Bts.new1 X _ (UInt8.ofNat (y - 48)) (by rw [u8n]; omega), since_alloc X _⟩) ?_
        intro v41
        simp only [pX]
        refine jg (st [UInt8.ofNat (y - 48)]) (fun X hX hF => by obtain ⟨A9, c9, h9, hr9⟩ := (hF _ _ List.mem_cons_self rfl); subst h9; exact exec_str _ _ 5 Tryd.underlying106 Tryd.underlying5 Tryd.underlying9 _ (by rfl) (by rfl) hr9) ?_
        refine jc (st (be (dval (s.take k) * 10 + (y - 48)))) (fun X hX hF => mo (raddC (be (dval (s.take k) * 10)) [UInt8.ofNat (y - 48)] X (by omega) (by simp only [List.length_cons, List.length_nil]; omega)) (by rw [val_be, HLW.out])) ?_
        refine jm (st (be (dval (s.take k) * 10 + (y - 48)))) ?_
        refine lx_nil ?_
        intro X3 hX3 hF
        have hv41 := hF _ _ List.mem_cons_self
        have hR0 := hR0.bel hX3
        have hb := bel_next hb hX3
        clear hF hX3
        clear hv41
        go_upto_region 6 with (fail)
        refine jp ?_
        refine jm (.int .i64 (k : Int)) ?_
        refine jv (.int .i64 ((k + 1 : Nat) : Int)) (exec_add _ _ _ _ (by rfl) (k : Int) 1 ((k + 1 : Nat) : Int) (by rfl) (by rfl) (by omega) (by omega) (by omega)) ?_
        refine jm (.int .i64 ((k + 1 : Nat) : Int)) ?_
        refine jz fun X4 hX4 => ?_
        have hR0 := hR0.bel hX4
        have hb := bel_next hb hX4
        clear hX4
        go_wp2
        go_roundw
        case rel => exact ⟨k + 1, by omega, rfl, by rw [HDV.out], HIS2.out, hR0, hb⟩
        case measure => simp [intOf]; omega
      · have HBAD : Hid (rparV s = .agg #[.string ⟨#[]⟩, .int .i64 27]) := rparV_f (pok_bad hlt (by rw [← HY.out]; exact hd))
        rcases Nat.lt_or_ge y 48 with h48 | h48
        · clear hd
          go_upto_region 7 with (fail)
          refine jp ?_
          refine jm (st s) ?_
          refine jm (.int .i64 (k : Int)) ?_
          refine jv (.int .u8 (y : Int)) (fun X => (exec_chr _ Tryd.underlying9 _ _ (by rfl) s k (by rfl) (by rfl) (by omega) hlt X).trans (by rw [← HY.out])) ?_
          refine jv (.bool true) (exec_lss _ _ _ _ (by rfl) .u8 (y : Int) 48 (by rfl) (by rfl) true (decide_eq_true (by omega))) ?_
          refine jm (.bool true) ?_
          refine js ?_
          refine js ?_
          refine js ?_
          refine js ?_
          refine jm (.bool true) ?_
          refine jz fun X2 hX2 => ?_
          have hR0 := hR0.bel hX2
          have hb := bel_next hb hX2
          clear hX2
          go_upto_region 8 with (fail)
          refine jq 1 ?_
          refine jn (.agg #[.string ⟨#[]⟩, .int .i64 27]) ?_
          refine jz fun X3 hX3 => ?_
          have hR0 := hR0.bel hX3
          have hb := bel_next hb hX3
          clear hX3
          refine osb 89 2 34 w.heap.size 89 hR0 [.string ⟨#[]⟩, .int .i64 27] info_made ?_
          intro w9 hR9 hO9 hB9 hs9
          have hb9 := hB9 _ _ hb (Nat.le_refl _)
          clear hO9 hB9
          go_wp2
          refine post_cell rfl rfl (by rfl) Tryd.underlying89 rfl hR9 info_made ⟨by rw [HBAD.out], hb9⟩
        · have h57 : 57 < y := by omega
          clear hd
          go_upto_region 7 with (fail)
          refine jp ?_
          refine jm (st s) ?_
          refine jm (.int .i64 (k : Int)) ?_
          refine jv (.int .u8 (y : Int)) (fun X => (exec_chr _ Tryd.underlying9 _ _ (by rfl) s k (by rfl) (by rfl) (by omega) hlt X).trans (by rw [← HY.out])) ?_
          refine jv (.bool false) (exec_lss _ _ _ _ (by rfl) .u8 (y : Int) 48 (by rfl) (by rfl) false (decide_eq_false (by omega))) ?_
          refine jm (.bool false) ?_
          refine jm (st s) ?_
          refine jm (.int .i64 (k : Int)) ?_
          refine jv (.int .u8 (y : Int)) (fun X => (exec_chr _ Tryd.underlying9 _ _ (by rfl) s k (by rfl) (by rfl) (by omega) hlt X).trans (by rw [← HY.out])) ?_
          refine jv (.bool true) (exec_gtr _ _ _ _ (by rfl) .u8 (y : Int) 57 (by rfl) (by rfl) true (decide_eq_true (by omega))) ?_
          refine jm (.bool true) ?_
          refine jz fun X2 hX2 => ?_
          have hR0 := hR0.bel hX2
          have hb := bel_next hb hX2
          clear hX2
          go_upto_region 8 with (fail)
          refine jq 1 ?_
          refine jn (.agg #[.string ⟨#[]⟩, .int .i64 27]) ?_
          refine jz fun X3 hX3 => ?_
          have hR0 := hR0.bel hX3
          have hb := bel_next hb hX3
          clear hX3
          refine osb 89 2 34 w.heap.size 89 hR0 [.string ⟨#[]⟩, .int .i64 27] info_made ?_
          intro w9 hR9 hO9 hB9 hs9
          have hb9 := hB9 _ _ hb (Nat.le_refl _)
          clear hO9 hB9
          go_wp2
          refine post_cell rfl rfl (by rfl) Tryd.underlying89 rfl hR9 info_made ⟨by rw [HBAD.out], hb9⟩
    · have HT : Hid (s.take k = s) := List.take_of_length_le (by omega)
      have HOK : Hid (rparV s = .agg #[.string ⟨(be (dval s)).toArray⟩, .int .i64 0]) := rparV_t (HPO.out (by rw [← HT.out]; exact HIS.out))
      rw [HT.out]
      go_upto_region 5 with (fail)
      refine jp ?_
      refine jm (.int .i64 (k : Int)) ?_
      refine jm (st s) ?_
      refine jv (.int .i64 (s.length : Int)) (exec_lens Tryd.underlying9 _ (by rfl) s (by rfl) _ rfl) ?_
      refine jv (.bool false) (exec_lss _ _ _ _ (by rfl) .i64 (k : Int) (s.length : Int) (by rfl) (by rfl) false (decide_eq_false (by omega))) ?_
      refine jz fun X1 hX1 => ?_
      have hR0 := hR0.bel hX1
      have hb := bel_next hb hX1
      clear hX1
      go_upto_region 10 with (fail)
      refine jq 2 ?_
      refine jm (st (be (dval s))) ?_
      refine jn (.agg #[st (be (dval s)), .int .i64 0]) ?_
      refine jz fun X2 hX2 => ?_
      have hR0 := hR0.bel hX2
      have hb := bel_next hb hX2
      clear hX2
      refine osb 89 2 45 w.heap.size 89 hR0 [.string ⟨(be (dval s)).toArray⟩, .int .i64 0] info_made ?_
      intro w9 hR9 hO9 hB9 hs9
      have hb9 := hB9 _ _ hb (Nat.le_refl _)
      clear hO9 hB9
      go_wp2
      refine post_cell rfl rfl (by rfl) Tryd.underlying89 rfl hR9 info_made ⟨by rw [HOK.out], hb9⟩

theorem rparseC (s : List UInt8) (w : World) (hs : s.length ≤ 4194000) : Calls Tryd.prog 53 #[.string ⟨s.toArray⟩] w fun e w' => e = .returned (rparV s) ∧ Since w w' := by
  rcases Nat.eq_zero_or_pos s.length with h0 | h0
  · obtain rfl : s = [] := List.eq_nil_of_length_eq_zero h0
    exact rparN w
  · by_cases hc : (s.getD 0 0).toNat = 48
    · rcases Nat.lt_or_ge 1 s.length with h1 | h1
      · exact rparL s w hs h0 hc h1
      · exact rparZ s w hs h0 hc h1
    · exact rparO s w hs h0 hc
end Go.Proofs.YtchhlgcakjjncaaDoor
