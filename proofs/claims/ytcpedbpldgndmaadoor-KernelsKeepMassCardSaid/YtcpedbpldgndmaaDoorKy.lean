/-
  law 31: Few, trimmed, moment.
-/
import Derived.Test.YtcpedbpldgndmaaDoorKx
set_option linter.unusedSimpArgs false
set_option linter.unusedVariables false
set_option maxRecDepth 100000
set_option maxHeartbeats 1600000
namespace Go.Proofs.YtcpedbpldgndmaaDoor
open Go.RowKit
/-- Whether there are at most so many flows, with parts of at most 20 bytes. -/
def fewS (xs : List Tr) (m : Nat) : Bool := decide (xs.length ≤ m) && xs.all fun t => few t.2.1 t.2.2 20
theorem fewS_t {xs : List Tr} {m : Nat} (h : fewS xs m = true) : xs.length ≤ m ∧ ∀ k, tz (xt xs k).2.1 (xt xs k).2.2 20 := by
  unfold fewS at h
  rw [Bool.and_eq_true] at h
  refine ⟨of_decide_eq_true h.1, fun k => ?_⟩
  rcases Nat.lt_or_ge k xs.length with h1 | h1
  · have h2 := List.all_eq_true.1 h.2 _ (List.getElem_mem h1)
    rw [xt_in h1]
    unfold few at h2
    rw [Bool.and_eq_true] at h2
    exact ⟨of_decide_eq_true h2.1, of_decide_eq_true h2.2⟩
  · unfold xt
    rw [List.getD_eq_getElem?_getD, List.getElem?_eq_none h1]
    exact tz_nil
theorem fws0 (v : Value) (xs : List Tr) (m : Nat) (w : World) (hv : Rl xs v w) (h : m < xs.length) : Calls Tryd.prog 16 #[v, .int .i64 (m : Int)] w fun e w' => e = .returned (.bool (fewS xs m)) ∧ Since w w' := by
  obtain ⟨A, n, c, rfl, hln, hn1, hr⟩ := Rl.at hv
  clear hv hr
  rw [hln] at h
  have HC : Hid (fewS xs m = false) := by
    show _ = _
    unfold fewS
    rw [decide_eq_false (by omega)]
    rfl
  go_enter Tryd.func16, Tryd.ntmps16
  go_upto_region 1 with (fail)
  refine jp ?_
  refine jm (.slice A n c) ?_
  refine jv (.int .i64 (n : Int)) (exec_lenv Tryd.underlying43 _ (by rfl) A n c (by rfl) _ rfl) ?_
  refine jm (.int .i64 (m : Int)) ?_
  refine jv (.bool true) (exec_gtr _ _ _ _ (by rfl) .i64 (n : Int) (m : Int) (by rfl) (by rfl) true (decide_eq_true (by omega))) ?_
  refine jz fun X1 hX1 => ?_
  have hb : Below w.heap.size w X1 := hX1
  clear hX1
  go_upto_region 2 with (fail)
  refine jp ?_
  refine jm (.bool false) ?_
  refine jz fun X2 hX2 => ?_
  have hb := bel_next hb hX2
  clear hX2
  go_wp2
  go_ret
  exact ⟨by rw [HC.out]; rfl, hb⟩
theorem fws1 (v : Value) (xs : List Tr) (m : Nat) (w : World) (hv : Rl xs v w) (h : xs.length ≤ m) : Calls Tryd.prog 16 #[v, .int .i64 (m : Int)] w fun e w' => e = .returned (.bool (fewS xs m)) ∧ Since w w' := by
  obtain ⟨A, n, c, rfl, hln, hn1, hr⟩ := Rl.at hv
  clear hv
  have HRX : Hid (∀ X, Since w X → Rd X 3 (.slice A n c) n (fl trc xs)) := fun X h => Rd.below hr h
  have HLN := Lib.hid hln
  clear hr
  rw [hln] at h
  go_enter Tryd.func16, Tryd.ntmps16
  go_upto_region 1 with (fail)
  refine jp ?_
  refine jm (.slice A n c) ?_
  refine jv (.int .i64 (n : Int)) (exec_lenv Tryd.underlying43 _ (by rfl) A n c (by rfl) _ rfl) ?_
  refine jm (.int .i64 (m : Int)) ?_
  refine jv (.bool false) (exec_gtr _ _ _ _ (by rfl) .i64 (n : Int) (m : Int) (by rfl) (by rfl) false (decide_eq_false (by omega))) ?_
  refine jz fun X1 hX1 => ?_
  have hb : Below w.heap.size w X1 := hX1
  clear hX1
  go_upto_region 3 with (fail)
  refine jp ?_
  refine jm (.int .i64 0) ?_
  refine jz fun X2 hX2 => ?_
  have hb := bel_next hb hX2
  clear hX2
  go_wp2
  go_loopw [5] (fun kv wr => ∃ k : Nat, k ≤ n ∧ kv = .int .i64 (k : Int) ∧ Hid (∀ j, j < k → few (xt xs j).2.1 (xt xs j).2.2 20 = true) ∧ Below w.heap.size w wr) (fun kv _ => n - (intOf kv).toNat)
  case atStart => exact ⟨0, by omega, rfl, (fun j hj => by omega), hb⟩
  case round =>
    clear hb
    obtain ⟨k, hk, rfl, HZ, hb⟩ := hrel
    rcases Nat.lt_or_ge k n with hlt | hlt
    · obtain ⟨b, off, rfl, hbb, hcx⟩ := Rl.xtAt (HRX.out _ hb) HLN.out hlt
      obtain ⟨x, x9⟩ : ∃ x, x = xt xs k := ⟨_, rfl⟩
      have HX := Lib.hid x9
      rw [← x9] at hcx
      clear x9
      go_upto_region 4 with (fail)
      refine jp ?_
      refine jm (.int .i64 (k : Int)) ?_
      refine jm (.slice (some ⟨b, off, none⟩) n c) ?_
      refine jv (.int .i64 (n : Int)) (exec_lenv Tryd.underlying43 _ (by rfl) (some ⟨b, off, none⟩) n c (by rfl) _ rfl) ?_
      refine jv (.bool true) (exec_lss _ _ _ _ (by rfl) .i64 (k : Int) (n : Int) (by rfl) (by rfl) true (decide_eq_true (by omega))) ?_
      refine jz fun X1 hX1 => ?_
      have hcx := hcx.below hX1 hbb
      replace hbb := Nat.lt_of_lt_of_le hbb (hX1).size
      have hb := bel_next hb hX1
      clear hX1
      rcases hfx : few x.2.1 x.2.2 20 with _ | _
      · have HF := Lib.hid hfx
        go_upto_region 6 with (fail)
        refine jp ?_
        refine jm (.slice (some ⟨b, off, none⟩) n c) ?_
        refine jm (.int .i64 (k : Int)) ?_
        refine jv (.pointer (some ⟨b, off + k * 3, none⟩)) (exec_ixv Tryd.underlying43 info_rat _ _ (by rfl) b (off) n c k (by omega) (by rfl) (by rfl) rfl) ?_
        refine jg (.agg #[.bool x.1, st x.2.1, st x.2.2]) (fun X hX hF => exec_ldc 38 _ (by rfl) b (off + k * 3) (by rfl) Tryd.underlying38 rfl [.bool x.1, .string ⟨x.2.1.toArray⟩, .string ⟨x.2.2.toArray⟩] X (Cl.part (hcx.below hX hbb) 0 _ (by rfl)) info_rat) ?_
        refine jc (.bool false) (fun X hX hF => mo (fewQ x.1 x.2.1 x.2.2 20 X) (by rw [HF.out])) ?_
        refine jm (.bool false) ?_
        refine jz fun X2 hX2 => ?_
        have hcx := hcx.below hX2 hbb
        replace hbb := Nat.lt_of_lt_of_le hbb (hX2).size
        have hb := bel_next hb hX2
        clear hX2
        go_upto_region 7 with (fail)
        refine jp ?_
        refine jm (.bool false) ?_
        refine jm (.bool true) ?_
        refine jz fun X3 hX3 => ?_
        have hb := bel_next hb hX3
        clear hX3
        have HC : Hid (fewS xs m = false) := by
          show _ = _
          unfold fewS
          have h9 : (xs.all fun t => few t.2.1 t.2.2 20) = false := by
            rw [Bool.eq_false_iff]
            intro h8
            have h7 := List.all_eq_true.1 h8 _ (List.getElem_mem (show k < xs.length by rw [HLN.out]; exact hlt))
            rw [← xt_in, ← HX.out, HF.out] at h7
            cases h7
          rw [h9, Bool.and_false]
        go_upto_region 8 with (fail)
        refine jp ?_
        refine jm (.bool false) ?_
        refine jz fun X4 hX4 => ?_
        have hb := bel_next hb hX4
        clear hX4
        go_wp2
        go_ret
        exact ⟨by rw [HC.out]; rfl, hb⟩
      · have HF := Lib.hid hfx
        go_upto_region 6 with (fail)
        refine jp ?_
        refine jm (.slice (some ⟨b, off, none⟩) n c) ?_
        refine jm (.int .i64 (k : Int)) ?_
        refine jv (.pointer (some ⟨b, off + k * 3, none⟩)) (exec_ixv Tryd.underlying43 info_rat _ _ (by rfl) b (off) n c k (by omega) (by rfl) (by rfl) rfl) ?_
        refine jg (.agg #[.bool x.1, st x.2.1, st x.2.2]) (fun X hX hF => exec_ldc 38 _ (by rfl) b (off + k * 3) (by rfl) Tryd.underlying38 rfl [.bool x.1, .string ⟨x.2.1.toArray⟩, .string ⟨x.2.2.toArray⟩] X (Cl.part (hcx.below hX hbb) 0 _ (by rfl)) info_rat) ?_
        refine jc (.bool true) (fun X hX hF => mo (fewQ x.1 x.2.1 x.2.2 20 X) (by rw [HF.out])) ?_
        refine jm (.bool true) ?_
        refine jz fun X2 hX2 => ?_
        have hcx := hcx.below hX2 hbb
        replace hbb := Nat.lt_of_lt_of_le hbb (hX2).size
        have hb := bel_next hb hX2
        clear hX2
        go_upto_region 7 with (fail)
        refine jp ?_
        refine jm (.bool true) ?_
        refine jm (.bool false) ?_
        refine jz fun X3 hX3 => ?_
        have hb := bel_next hb hX3
        clear hX3
        have HZ2 : Hid (∀ j, j < k + 1 → few (xt xs j).2.1 (xt xs j).2.2 20 = true) := fun j hj => by
          rcases Nat.lt_or_ge j k with h9 | h9
          · exact HZ.out j h9
          · rw [show j = k by omega, ← HX.out]; exact HF.out
        go_upto_region 5 with (fail)
        refine jp ?_
        refine jm (.int .i64 (k : Int)) ?_
        refine jv (.int .i64 ((k + 1 : Nat) : Int)) (exec_add _ _ _ _ (by rfl) (k : Int) 1 ((k + 1 : Nat) : Int) (by rfl) (by rfl) (by omega) (by omega) (by omega)) ?_
        refine jm (.int .i64 ((k + 1 : Nat) : Int)) ?_
        refine jz fun X4 hX4 => ?_
        have hb := bel_next hb hX4
        clear hX4
        go_wp2
        go_roundw
        case rel => exact ⟨k + 1, by omega, rfl, HZ2, hb⟩
        case measure => simp [intOf]; omega
    · obtain rfl : k = n := by omega
      have HC : Hid (fewS xs m = true) := by
        show _ = _
        unfold fewS
        rw [decide_eq_true (by rw [HLN.out]; exact h), Bool.true_and]
        refine List.all_eq_true.2 fun t ht => ?_
        obtain ⟨i, hi, rfl⟩ := List.getElem_of_mem ht
        rw [← xt_in hi]
        exact HZ.out i (by rw [← HLN.out]; exact hi)
      go_upto_region 4 with (fail)
      refine jp ?_
      refine jm (.int .i64 (k : Int)) ?_
      refine jm (.slice A k c) ?_
      refine jv (.int .i64 (k : Int)) (exec_lenv Tryd.underlying43 _ (by rfl) A k c (by rfl) _ rfl) ?_
      refine jv (.bool false) (exec_lss _ _ _ _ (by rfl) .i64 (k : Int) (k : Int) (by rfl) (by rfl) false (decide_eq_false (by omega))) ?_
      refine jz fun X1 hX1 => ?_
      have hb := bel_next hb hX1
      clear hX1
      go_upto_region 9 with (fail)
      refine jp ?_
      refine jm (.bool true) ?_
      refine jz fun X2 hX2 => ?_
      have hb := bel_next hb hX2
      clear hX2
      go_wp2
      go_ret
      exact ⟨by rw [HC.out]; rfl, hb⟩
theorem fwsV (v : Value) (xs : List Tr) (m : Nat) (w : World) (hv : Rl xs v w) : Calls Tryd.prog 16 #[v, .int .i64 (m : Int)] w fun e w' => e = .returned (.bool (fewS xs m)) ∧ Since w w' := by
  rcases Nat.lt_or_ge m xs.length with h | h
  · exact fws0 v xs m w hv h
  · exact fws1 v xs m w hv h
/-- How many numbers are left without the zeros at the end. -/
def tl (l : List Rat) : Nat → Nat
  | 0 => 0
  | k + 1 => if yq l k = 0 then tl l k else k + 1
theorem Rq.at {l : List Rat} {v : Value} {w : World} (h : Rq l v w) : ∃ A n c, v = .slice A n c ∧ l.length = n ∧ n ≤ c ∧ n ≤ 9223372036854775807 ∧ c ≤ maxLen ∧ Rd w 3 (.slice A n c) n (fl trc (l.map tr)) := by
  have h9 : Rd w 3 v (l.map tr).length (fl trc (l.map tr)) := h
  have h8 := h9
  obtain ⟨hl, A, c, h2, hc, hm, hx⟩ := h9
  subst h2
  rw [List.length_map] at hc h8 ⊢
  refine ⟨A, l.length, c, rfl, rfl, hc, ?_, hm, h8⟩
  unfold maxLen at hm
  omega
theorem rqAt {w : World} {A : Option Addr} {n c : Nat} {l : List Rat} (h : Rd w 3 (.slice A n c) n (fl trc (l.map tr))) (hl : l.length = n) {k : Nat} (hk : k < n) : ∃ b off, A = some ⟨b, off, none⟩ ∧ b < w.heap.size ∧ Cl w b (off + k * 3) (rc (yq l k)) := by
  obtain ⟨b, off, h1, h2, h3⟩ := Rl.xtAt h (by rw [List.length_map]; exact hl) hk
  rw [xt_map] at h3
  exact ⟨b, off, h1, h2, h3⟩
/-- The sum of each place times its number. -/
def mom (l : List Rat) (k : Nat) : Rat := sm k fun i => ((i : Int) : Rat) * yq l i
theorem momC (v : Value) (l : List Rat) (w : World) (hv : Rq l v w) (hl : l.length ≤ 200) (B : Nat) (hB4 : B ≤ 4000) (HB : Hid (∀ k, szR (yq l k) B)) : Calls Tryd.prog 22 #[v] w fun e w' => e = .returned (rbv (mom l l.length)) ∧ Since w w' := by
  obtain ⟨A, n, c, rfl, hln, hnc, hn1, hcm, hr⟩ := hv.at
  clear hv
  have HRX : Hid (∀ X, Since w X → Rd X 3 (.slice A n c) n (fl trc (l.map tr))) := fun X h => Rd.below hr h
  have HLN := Lib.hid hln
  clear hr
  rw [hln] at hl
  obtain ⟨D, hD⟩ : ∃ D, D = B + 8 := ⟨_, rfl⟩
  have hD4 : D ≤ 4008 := by omega
  go_enter Tryd.func22, Tryd.ntmps22
  go_upto_region 1 with (fail)
  obtain ⟨W0, hW0, hB0, hb⟩ := start1 w 38 [.bool false, .string ⟨#[]⟩, .string ⟨#[]⟩]
  rw [← hW0]
  clear hW0
  go_upto_region 2 with (fail)
  obtain ⟨Y0, hY9, hD3, hS9⟩ := start1 W0 38 [.bool false, .string ⟨#[]⟩, .string ⟨#[]⟩]
  rw [← hY9]
  clear hY9
  have hgs3 := hb.size
  have hlt3x0 := hB0.lt
  replace hB0 := hB0.bel hS9
  have hb := bel_next hb hS9
  clear hS9
  generalize W0.heap.size = g3 at *
  refine jp ?_
  refine jm (.slice A n c) ?_
  refine jv (.int .i64 (n : Int)) (exec_lenv Tryd.underlying43 _ (by rfl) A n c (by rfl) _ rfl) ?_
  refine jm (.int .i64 0) ?_
  refine jz fun X1 hX1 => ?_
  replace hB0 := hB0.bel hX1
  replace hD3 := hD3.bel hX1
  have hb := bel_next hb hX1
  clear hX1
  go_wp2
  go_loopw [8] (fun kv wr => ∃ (k : Nat) (s : Rat), k ≤ n ∧ kv = .int .i64 (k : Int) ∧ Hid (s = mom l k) ∧ szR s (k * D + 1) ∧ Blk wr g3 38 [.bool (rN s), .string ⟨(rP s).toArray⟩, .string ⟨(rD s).toArray⟩] ∧ Blk wr w.heap.size 38 [.bool false, .string ⟨#[]⟩, .string ⟨#[]⟩] ∧ Below w.heap.size w wr) (fun kv _ => n - (intOf kv).toNat)
  case atStart => exact ⟨0, 0, by omega, rfl, rfl, szR_zero.mono (by omega), hD3, hB0, hb⟩
  case round =>
    clear hD3 hB0 hb
    obtain ⟨k, s, hk, rfl, HS, hs, hD3, hB0, hb⟩ := hrel
    rcases Nat.lt_or_ge k n with hlt | hlt
    · obtain ⟨b, off, rfl, hbb, hcx⟩ := rqAt (HRX.out _ hb) HLN.out hlt
      obtain ⟨x, x9⟩ : ∃ x, x = yq l k := ⟨_, rfl⟩
      have HX := Lib.hid x9
      have hxB : szR x B := by rw [x9]; exact HB.out k
      rw [← x9] at hcx
      clear x9
      have hcx : Cl wr b (off + k * 3) [.bool (rN x), .string ⟨(rP x).toArray⟩, .string ⟨(rD x).toArray⟩] := hcx
      have hx9 : szR x 4000 := hxB.mono hB4
      have hkD : k * D ≤ 200 * 4008 := Nat.mul_le_mul (by omega) hD4
      have hkD2 : (k + 1) * D = k * D + D := Nat.succ_mul k D
      have hs9 : szR s 801601 := hs.mono (by omega)
      have hki : insB (k : Int) = true := insB_nn (by omega) (by omega)
      have LB0 : szR ((k : Int) : Rat) 7 := szR_int hki
      have LB1 : szR x 4000 := hx9
      have LB2 : szR s 801601 := hs9
      have LB3 : szR (((k : Int) : Rat) * x) 4007 := szR_mul LB0 LB1
      go_upto_region 3 with (fail)
      refine jp ?_
      refine jv (.bool true) (exec_lss _ _ _ _ (by rfl) .i64 (k : Int) (n : Int) (by rfl) (by rfl) true (decide_eq_true (by omega))) ?_
      refine jz fun X1 hX1 => ?_
      replace hB0 := hB0.bel hX1
      replace hD3 := hD3.bel hX1
      have hcx := hcx.below hX1 hbb
      replace hbb := Nat.lt_of_lt_of_le hbb (hX1).size
      have hb := bel_next hb hX1
      clear hX1
      go_upto_region 4 with (fail)
      refine jq 3 ?_
      refine jm (.int .i64 (k : Int)) ?_
      refine jv (.pointer (some ⟨b, off + k * 3, none⟩)) (exec_ixv Tryd.underlying43 info_rat _ _ (by rfl) b (off) n c k (by omega) (by rfl) (by rfl) rfl) ?_
      refine jg (rt (rN x) (rP x) (rD x)) (fun X hX hF => exec_ldc 38 _ (by rfl) b (off + k * 3) (by rfl) Tryd.underlying38 rfl [.bool (rN x), .string ⟨(rP x).toArray⟩, .string ⟨(rD x).toArray⟩] X (Cl.part (hcx.below hX hbb) 0 _ (by rfl)) info_rat) ?_
      refine jz fun X2 hX2 => ?_
      replace hB0 := hB0.bel hX2
      replace hD3 := hD3.bel hX2
      have hcx := hcx.below hX2 hbb
      replace hbb := Nat.lt_of_lt_of_le hbb (hX2).size
      have hb := bel_next hb hX2
      clear hX2
      go_upto_region 5 with (refine osn 38 5 12 #[.bool (rN x), .string ⟨(rP x).toArray⟩, .string ⟨(rD x).toArray⟩] info_rat ?_)
      obtain ⟨Y2, hY9, hD5, hS9⟩ := start1 X2 38 [.bool (rN x), .string ⟨(rP x).toArray⟩, .string ⟨(rD x).toArray⟩]
      rw [← hY9]
      clear hY9
      have hgs5 := hb.size
      have hlt5x0 := hB0.lt
      have hlt5x1 := hD3.lt
      have hcx := hcx.below hS9 hbb
      replace hbb := Nat.lt_of_lt_of_le hbb (hS9).size
      have hB0 := hB0.bel hS9
      have hD3 := hD3.bel hS9
      have hb := bel_next hb hS9
      clear hS9
      generalize X2.heap.size = g5 at *
      refine lx_region_tail [] (by kernel_rfl) (by kernel_rfl) (by kernel_rfl) rfl (lasts_nil) ?_
      simp only [its, List.dropLast, Nat.zero_add, Nat.reduceAdd]
      refine ja hD3 Tryd.underlying38 (by rfl) info_rat ?_
      refine jm (.int .i64 (k : Int)) ?_
      refine jc (rt (rN ((k : Int) : Rat)) (rP ((k : Int) : Rat)) (rD ((k : Int) : Rat))) (fun X hX hF => rintQ ((k : Int)) X hki) ?_
      refine ja hD5 Tryd.underlying38 (by rfl) info_rat ?_
      refine jc (.agg #[.bool (rN (((k : Int) : Rat) * x)), st (rP (((k : Int) : Rat) * x)), st (rD (((k : Int) : Rat) * x))]) (fun X hX hF => mulG (rN ((k : Int) : Rat)) (rP ((k : Int) : Rat)) (rD ((k : Int) : Rat)) (rN x) (rP x) (rD x) (rq_rb ((k : Int) : Rat)) (rq_rb x) X (tzR LB0 (by omega)) (tzR LB1 (by omega))) ?_
      refine jc (.agg #[.bool (rN (s + (((k : Int) : Rat) * x))), st (rP (s + (((k : Int) : Rat) * x))), st (rD (s + (((k : Int) : Rat) * x)))]) (fun X hX hF => addG (rN s) (rP s) (rD s) (rN (((k : Int) : Rat) * x)) (rP (((k : Int) : Rat) * x)) (rD (((k : Int) : Rat) * x)) (rq_rb s) (rq_rb (((k : Int) : Rat) * x)) X (tzR LB2 (by omega)) (tzR LB3 (by omega))) ?_
      refine jz fun X3 hX3 => ?_
      replace hB0 := hB0.bel hX3
      replace hD3 := hD3.bel hX3
      replace hD5 := hD5.bel hX3
      have hb := bel_next hb hX3
      clear hX3
      refine osb 38 3 18 g3 38 hD3 [.bool (rN (s + (((k : Int) : Rat) * x))), .string ⟨(rP (s + (((k : Int) : Rat) * x))).toArray⟩, .string ⟨(rD (s + (((k : Int) : Rat) * x))).toArray⟩] info_rat ?_
      intro w1s hR9 hO9 hB9 hs9
      have hb := hB9 _ _ hb (by omega)
      have hB0 := hO9 _ _ _ (by omega) hB0
      have hD5 := hO9 _ _ _ (by omega) hD5
      have hD3 := hR9
      clear hO9 hB9 hR9 hs9
      have HS2 : Hid ((s + (((k : Int) : Rat) * x)) = mom l (k + 1)) := by
        show _ = _
        rw [HS.out, HX.out]
        rfl
      have hs2 : szR (s + (((k : Int) : Rat) * x)) ((k + 1) * D + 1) := (szR_add hs (szR_mul (szR_int hki) hxB)).mono (by omega)
      go_upto_region 6 with (fail)
      refine jp ?_
      refine jv (.int .i64 ((k + 1 : Nat) : Int)) (exec_add _ _ _ _ (by rfl) (k : Int) 1 ((k + 1 : Nat) : Int) (by rfl) (by rfl) (by omega) (by omega) (by omega)) ?_
      refine jm (.int .i64 ((k + 1 : Nat) : Int)) ?_
      refine jz fun X4 hX4 => ?_
      replace hB0 := hB0.bel hX4
      replace hD3 := hD3.bel hX4
      have hb := bel_next hb hX4
      clear hX4
      go_wp2
      go_roundw
      case rel => exact ⟨k + 1, (s + (((k : Int) : Rat) * x)), by omega, rfl, HS2, hs2, hD3, hB0, hb⟩
      case measure => simp [intOf]; omega
    · obtain rfl : k = n := by omega
      have HM : Hid (s = mom l l.length) := by
        show _ = _
        rw [HLN.out]; exact HS.out
      go_upto_region 3 with (fail)
      refine jp ?_
      refine jv (.bool false) (exec_lss _ _ _ _ (by rfl) .i64 (k : Int) (k : Int) (by rfl) (by rfl) false (decide_eq_false (by omega))) ?_
      refine jz fun X1 hX1 => ?_
      replace hB0 := hB0.bel hX1
      replace hD3 := hD3.bel hX1
      have hb := bel_next hb hX1
      clear hX1
      go_upto_region 7 with (fail)
      refine jq 1 ?_
      refine ja hD3 Tryd.underlying38 (by rfl) info_rat ?_
      refine jz fun X2 hX2 => ?_
      replace hB0 := hB0.bel hX2
      replace hD3 := hD3.bel hX2
      have hb := bel_next hb hX2
      clear hX2
      refine osb 38 2 20 w.heap.size 38 hB0 [.bool (rN s), .string ⟨(rP s).toArray⟩, .string ⟨(rD s).toArray⟩] info_rat ?_
      intro w9 hR9 hO9 hB9 hs9
      have hb9 := hB9 _ _ hb (by omega)
      have hD3 := hO9 _ _ _ (by omega) hD3
      clear hO9 hB9
      go_wp2
      refine post_cell rfl rfl (by rfl) Tryd.underlying38 rfl hR9 info_rat ⟨by rw [HM.out], hb9⟩
end Go.Proofs.YtcpedbpldgndmaaDoor
