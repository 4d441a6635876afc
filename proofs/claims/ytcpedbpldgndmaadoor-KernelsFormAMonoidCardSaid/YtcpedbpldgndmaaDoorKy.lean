/-
  law 31: Few, trimmed, moment.
-/
import Derived.Test.YtcpedbpldgndmaaDoorKx
set_option linter.unusedSimpArgs false
set_option linter.unusedVariables false
set_option maxRecDepth 100000
set_option maxHeartbeats 1600000
namespace Go.Proofs.YtcpedbpldgndmaaDoor
open Go.RowKit
/-- Whether there are at most so many flows, with parts of at most 20 bytes. -/
def fewS (xs : List Tr) (m : Nat) : Bool := decide (xs.length ≤ m) && xs.all fun t => few t.2.1 t.2.2 20
theorem fewS_t {xs : List Tr} {m : Nat} (h : fewS xs m = true) : xs.length ≤ m ∧ ∀ k, tz (xt xs k).2.1 (xt xs k).2.2 20 := by
  unfold fewS at h
  rw [Bool.and_eq_true] at h
  refine ⟨of_decide_eq_true h.1, fun k => ?_⟩
  rcases Nat.lt_or_ge k xs.length with h1 | h1
  · have h2 := List.all_eq_true.1 h.2 _ (List.getElem_mem h1)
    rw [xt_in h1]
    unfold few at h2
    rw [Bool.and_eq_true] at h2
    exact ⟨of_decide_eq_true h2.1, of_decide_eq_true h2.2⟩
  · unfold xt
    rw [List.getD_eq_getElem?_getD, List.getElem?_eq_none h1]
    exact tz_nil
theorem fws0 (v : Value) (xs : List Tr) (m : Nat) (w : World) (hv : Rl xs v w) (h : m < xs.length) : Calls Tryd.prog 16 #[v, .int .i64 (m : Int)] w fun e w' => e = .returned (.bool (fewS xs m)) ∧ Since w w' := by
  obtain ⟨A, n, c, rfl, hln, hn1, hr⟩ := Rl.at hv
  clear hv hr
  rw [hln] at h
  have HC : Hid (fewS xs m = false) := by
    show _ = _
    unfold fewS
    rw [decide_eq_false (by omega)]
    rfl
  go_enter Tryd.func16, Tryd.ntmps16
  go_upto_region 1 with (fail)
  refine jp ?_
  refine jm (.slice A n c) ?_
  refine jv (.int .i64 (n : Int)) (exec_lenv Tryd.underlying43 _ (by rfl) A n c (by rfl) _ rfl) ?_
  refine jm (.int .i64 (m : Int)) ?_
  refine jv (.bool true) (exec_gtr _ _ _ _ (by rfl) .i64 (n : Int) (m : Int) (by rfl) (by rfl) true (decide_eq_true (by omega))) ?_
  refine jz fun X1 hX1 => ?_
  have hb : Below w.heap.size w X1 := hX1
  clear hX1
  go_upto_region 2 with (fail)
  refine jp ?_
  refine jm (.bool false) ?_
  refine jz fun X2 hX2 => ?_
  have hb := bel_next hb hX2
  clear hX2
  go_wp2
  go_ret
  exact ⟨by rw [HC.out]; rfl, hb⟩
theorem fws1 (v : Value) (xs : List Tr) (m : Nat) (w : World) (hv : Rl xs v w) (h : xs.length ≤ m) : Calls Tryd.prog 16 #[v, .int .i64 (m : Int)] w fun e w' => e = .returned (.bool (fewS xs m)) ∧ Since w w' := by
  obtain ⟨A, n, c, rfl, hln, hn1, hr⟩ := Rl.at hv
  clear hv
  have HRX : Hid (∀ X, Since w X → Rd X 3 (.slice A n c) n (fl trc xs)) := fun X h => Rd.below hr h
  have HLN := Lib.hid hln
  clear hr
  rw [hln] at h
  go_enter Tryd.func16, Tryd.ntmps16
  go_upto_region 1 with (fail)
  refine jp ?_
  refine jm (.slice A n c) ?_
  refine jv (.int .i64 (n : Int)) (exec_lenv Tryd.underlying43 _ (by rfl) A n c (by rfl) _ rfl) ?_
  refine jm (.int .i64 (m : Int)) ?_
  refine jv (.bool false) (exec_gtr _ _ _ _ (by rfl) .i64 (n : Int) (m : Int) (by rfl) (by rfl) false (decide_eq_false (by omega))) ?_
  refine jz fun X1 hX1 => ?_
  have hb : Below w.heap.size w X1 := hX1
  clear hX1
  go_upto_region 3 with (fail)
  refine jp ?_
  refine jm (.int .i64 0) ?_
  refine jz fun X2 hX2 => ?_
  have hb := bel_next hb hX2
  clear hX2
  go_wp2
  go_loopw [5] (fun kv wr => ∃ k : Nat, k ≤ n ∧ kv = .int .i64 (k : Int) ∧ Hid (∀ j, j < k → few (xt xs j).2.1 (xt xs j).2.2 20 = true) ∧ Below w.heap.size w wr) (fun kv _ => n - (intOf kv).toNat)
  case atStart => exact ⟨0, by omega, rfl, (fun j hj => by omega), hb⟩
  case round =>
    clear hb
    obtain ⟨k, hk, rfl, HZ, hb⟩ := hrel
    rcases Nat.lt_or_ge k n with hlt | hlt
    · obtain ⟨b, off, rfl, hbb, hcx⟩ := Rl.xtAt (HRX.out _ hb) HLN.out hlt
      obtain ⟨x, x9⟩ : ∃ x, x = xt xs k := ⟨_, rfl⟩
      have HX := Lib.hid x9
      rw [← x9] at hcx
      clear x9
      go_upto_region 4 with (fail)
      refine jp ?_
      refine jm (.int .i64 (k : Int)) ?_
      refine jm (.slice (some ⟨b, off, none⟩) n c) ?_
      refine jv (.int .i64 (n : Int)) (exec_lenv Tryd.underlying43 _ (by rfl) (some ⟨b, off, none⟩) n c (by rfl) _ rfl) ?_
      refine jv (.bool true) (exec_lss _ _ _ _ (by rfl) .i64 (k : Int) (n : Int) (by rfl) (by rfl) true (decide_eq_true (by omega))) ?_
      refine jz fun X1 hX1 => ?_
      have hcx := hcx.below hX1 hbb
      replace hbb := Nat.lt_of_lt_of_le hbb (hX1).size
      have hb := bel_next hb hX1
      clear hX1
      rcases hfx : few x.2.1 x.2.2 20 with _ | _
      · have HF := Lib.hid hfx
        go_upto_region 6 with (fail)
        refine jp ?_
        refine jm (.slice (some ⟨b, off, none⟩) n c) ?_
        refine jm (.int .i64 (k : Int)) ?_
        refine jv (.pointer (some ⟨b, off + k * 3, none⟩)) (exec_ixv Tryd.underlying43 info_rat _ _ (by rfl) b (off) n c k (by omega) (by rfl) (by rfl) rfl) ?_
        refine jg (.agg #[.bool x.1, st x.2.1, st x.2.2]) (fun X hX hF => exec_ldc 38 _ (by rfl) b (off + k * 3) (by rfl) Tryd.underlying38 rfl [.bool x.1, .string ⟨x.2.1.toArray⟩, .string ⟨x.2.2.toArray⟩] X (Cl.part (hcx.below hX hbb) 0 _ (by rfl)) info_rat) ?_
        refine jc (.bool false) (fun X hX hF => mo (fewQ x.1 x.2.1 x.2.2 20 X) (by rw [HF.out])) ?_
        refine jm (.bool false) ?_
        refine jz fun X2 hX2 => ?_
        have hcx := hcx.below hX2 hbb
        replace hbb := Nat.lt_of_lt_of_le hbb (hX2).size
        have hb := bel_next hb hX2
        clear hX2
        go_upto_region 7 with (fail)
        refine jp ?_
        refine jm (.bool false) ?_
        refine jm (.bool true) ?_
        refine jz fun X3 hX3 => ?_
        have hb := bel_next hb hX3
        clear hX3
        have HC : Hid (fewS xs m = false) := by
          show _ = _
          unfold fewS
          have h9 : (xs.all fun t => few t.2.1 t.2.2 20) = false := by
            rw [Bool.eq_false_iff]
            intro h8
            have h7 := List.all_eq_true.1 h8 _ (List.getElem_mem (show k < xs.length by rw [HLN.out]; exact hlt))
            rw [← xt_in, ← HX.out, HF.out] at h7
            cases h7
          rw [h9, Bool.and_false]
        go_upto_region 8 with (fail)
        refine jp ?_
        refine jm (.bool false) ?_
        refine jz fun X4 hX4 => ?_
        have hb := bel_next hb hX4
        clear hX4
        go_wp2
        go_ret
        exact ⟨by rw [HC.out]; rfl, hb⟩
      · have HF := Lib.hid hfx
        go_upto_region 6 with (fail)
        refine jp ?_
        refine jm (.slice (some ⟨b, off, none⟩) n c) ?_
        refine jm (.int .i64 (k : Int)) ?_
        refine jv (.pointer (some ⟨b, off + k * 3, none⟩)) (exec_ixv Tryd.underlying43 info_rat _ _ (by rfl) b (off) n c k (by omega) (by rfl) (by rfl) rfl) ?_
        refine jg (.agg #[.bool x.1, st x.2.1, st x.2.2]) (fun X hX hF => exec_ldc 38 _ (by rfl) b (off + k * 3) (by rfl) Tryd.underlying38 rfl [.bool x.1, .string ⟨x.2.1.toArray⟩, .string ⟨x.2.2.toArray⟩] X (Cl.part (hcx.below hX hbb) 0 _ (by rfl)) info_rat) ?_
        refine jc (.bool true) (fun X hX hF => mo (fewQ x.1 x.2.1 x.2.2 20 X) (by rw [HF.out])) ?_
        refine jm (.bool true) ?_
        refine jz fun X2 hX2 => ?_
        have hcx := hcx.below hX2 hbb
        replace hbb := Nat.lt_of_lt_of_le hbb (hX2).size
        have hb := bel_next hb hX2
        clear hX2
        go_upto_region 7 with (fail)
        refine jp ?_
        refine jm (.bool true) ?_
        refine jm (.bool false) ?_
        refine jz fun X3 hX3 => ?_
        have hb := bel_next hb hX3
        clear hX3
        have HZ2 : Hid (∀ j, j < k + 1 → few (xt xs j).2.1 (xt xs j).2.2 20 = true) := fun j hj => by
          rcases Nat.lt_or_ge j k with h9 | h9
          · exact HZ.out j h9
          · rw [show j = k by omega, ← HX.out]; exact HF.out
        go_upto_region 5 with (fail)
        refine jp ?_
        refine jm (.int .i64 (k : Int)) ?_
        refine jv (.int .i64 ((k + 1 : Nat) : Int)) (exec_add _ _ _ _ (by rfl) (k : Int) 1 ((k + 1 : Nat) : Int) (by rfl) (by rfl) (by omega) (by omega) (by omega)) ?_
        refine jm (.int .i64 ((k + 1 : Nat) : Int)) ?_
        refine jz fun X4 hX4 => ?_
        have hb := bel_next hb hX4
        clear hX4
        go_wp2
        go_roundw
        case rel => exact ⟨k + 1, by omega, rfl, HZ2, hb⟩
        case measure => simp [intOf]; omega
    · obtain rfl : k = n := by omega
      have HC : Hid (fewS xs m = true) := by
        show _ = _
        unfold fewS
        rw [decide_eq_true (by rw [HLN.out]; exact h), Bool.true_and]
        refine List.all_eq_true.2 fun t ht => ?_
        obtain ⟨i, hi, rfl⟩ := List.getElem_of_mem ht
        rw [← xt_in hi]
        exact HZ.out i (by rw [← HLN.out]; exact hi)
      go_upto_region 4 with (fail)
      refine jp ?_
      refine jm (.int .i64 (k : Int)) ?_
      refine jm (.slice A k c) ?_
      refine jv (.int .i64 (k : Int)) (exec_lenv Tryd.underlying43 _ (by rfl) A k c (by rfl) _ rfl) ?_
      refine jv (.bool false) (exec_lss _ _ _ _ (by rfl) .i64 (k : Int) (k : Int) (by rfl) (by rfl) false (decide_eq_false (by omega))) ?_
      refine jz fun X1 hX1 => ?_
      have hb := bel_next hb hX1
      clear hX1
      go_upto_region 9 with (fail)
      refine jp ?_
      refine jm (.bool true) ?_
      refine jz fun X2 hX2 => ?_
      have hb := bel_next hb hX2
      clear hX2
      go_wp2
      go_ret
      exact ⟨by rw [HC.out]; rfl, hb⟩
theorem fwsV (v : Value) (xs : List Tr) (m : Nat) (w : World) (hv : Rl xs v w) : Calls Tryd.prog 16 #[v, .int .i64 (m : Int)] w fun e w' => e = .returned (.bool (fewS xs m)) ∧ Since w w' := by
  rcases Nat.lt_or_ge m xs.length with h | h
  · exact fws0 v xs m w hv h
  · exact fws1 v xs m w hv h
/-- How many numbers are left without the zeros at the end. -/
def tl (l : List Rat) : Nat → Nat
  | 0 => 0
  | k + 1 => if yq l k = 0 then tl l k else k + 1
theorem tl_succ (l : List Rat) (k : Nat) : tl l (k + 1) = if yq l k = 0 then tl l k else k + 1 := rfl
def trim (l : List Rat) : List Rat := l.take (tl l l.length)
theorem tl_le (l : List Rat) : ∀ k, tl l k ≤ k
  | 0 => Nat.le_refl 0
  | k + 1 => by
    unfold tl
    have := tl_le l k
    split <;> omega
theorem tl_zero {l : List Rat} : ∀ {k j : Nat}, tl l k ≤ j → j < k → yq l j = 0
  | k + 1, j, h1, h2 => by
    unfold tl at h1
    split at h1
    · rename_i h3
      rcases Nat.lt_or_ge j k with h4 | h4
      · exact tl_zero h1 h4
      · rw [show j = k by omega]
        exact h3
    · omega
theorem tl_last {l : List Rat} : ∀ {k : Nat}, 0 < tl l k → yq l (tl l k - 1) ≠ 0
  | k + 1, h => by
    unfold tl at h ⊢
    split
    · rename_i h3
      rw [if_pos h3] at h
      exact tl_last h
    · rename_i h3
      exact h3
/-- Numbers that are the same but for zeros at the end are the same when trimmed. -/
theorem trim_eq {a b : List Rat} (h : ∀ k, yq a k = yq b k) : trim a = trim b := by
  have hz : ∀ (l : List Rat) {j : Nat}, tl l l.length ≤ j → yq l j = 0 := fun l j hj => by
    rcases Nat.lt_or_ge j l.length with h1 | h1
    · exact tl_zero hj h1
    · exact yq_out h1
  have aux : ∀ (x y : List Rat), (∀ k, yq x k = yq y k) → tl x x.length ≤ tl y y.length := fun x y h9 => by
    rcases Nat.lt_or_ge (tl y y.length) (tl x x.length) with h1 | h1
    · exfalso
      refine tl_last (l := x) (k := x.length) (by omega) ?_
      rw [h9]
      exact hz y (by omega)
    · exact h1
  have h1 : tl a a.length = tl b b.length := Nat.le_antisymm (aux a b h) (aux b a fun k => (h k).symm)
  have ha := tl_le a a.length
  have hb := tl_le b b.length
  unfold trim
  refine yq_ext (by rw [List.length_take, List.length_take]; omega) fun k hk => ?_
  rw [List.length_take] at hk
  have e1 : yq (a.take (tl a a.length)) k = yq a k := by
    unfold yq
    rw [List.getD_eq_getElem?_getD, List.getD_eq_getElem?_getD, List.getElem?_take_of_lt (by omega)]
  have e2 : yq (b.take (tl b b.length)) k = yq b k := by
    unfold yq
    rw [List.getD_eq_getElem?_getD, List.getD_eq_getElem?_getD, List.getElem?_take_of_lt (by omega)]
  rw [e1, e2, h k]
theorem Rq.at {l : List Rat} {v : Value} {w : World} (h : Rq l v w) : ∃ A n c, v = .slice A n c ∧ l.length = n ∧ n ≤ c ∧ n ≤ 9223372036854775807 ∧ c ≤ maxLen ∧ Rd w 3 (.slice A n c) n (fl trc (l.map tr)) := by
  have h9 : Rd w 3 v (l.map tr).length (fl trc (l.map tr)) := h
  have h8 := h9
  obtain ⟨hl, A, c, h2, hc, hm, hx⟩ := h9
  subst h2
  rw [List.length_map] at hc h8 ⊢
  refine ⟨A, l.length, c, rfl, rfl, hc, ?_, hm, h8⟩
  unfold maxLen at hm
  omega
theorem rqAt {w : World} {A : Option Addr} {n c : Nat} {l : List Rat} (h : Rd w 3 (.slice A n c) n (fl trc (l.map tr))) (hl : l.length = n) {k : Nat} (hk : k < n) : ∃ b off, A = some ⟨b, off, none⟩ ∧ b < w.heap.size ∧ Cl w b (off + k * 3) (rc (yq l k)) := by
  obtain ⟨b, off, h1, h2, h3⟩ := Rl.xtAt h (by rw [List.length_map]; exact hl) hk
  rw [xt_map] at h3
  exact ⟨b, off, h1, h2, h3⟩
/-- The beginning of a slice of numbers. -/
theorem rd_pre {w : World} {A : Option Addr} {n c k : Nat} {l : List Rat} (h : Rd w 3 (.slice A n c) n (fl trc (l.map tr))) (hl : l.length = n) (hk : k ≤ n) : Rq (l.take k) (.slice A k c) w := by
  have h1 : (fl trc (l.map tr)).take (k * 3) = fl trc ((l.take k).map tr) := by
    rw [fl_take (fun x _ => trc_len x), List.map_take]
  obtain ⟨hl9, A2, c2, h2, hc, hm, hz, hx⟩ := h
  injection h2 with e1 e2 e3
  subst e1 e3
  have hlen : ((l.take k).map tr).length = k := by
    rw [List.length_map, List.length_take]
    omega
  show Rd w 3 _ ((l.take k).map tr).length (fl trc ((l.take k).map tr))
  rw [hlen, ← h1]
  refine ⟨by rw [List.length_take]; omega, A, c, rfl, by omega, hm, hz, fun h0 => ?_⟩
  obtain ⟨b, off, hA, hb, hc9⟩ := hx (by omega)
  exact ⟨b, off, hA, hb, fun j u hj => hc9 j u (by
    rw [List.getElem?_take] at hj
    split at hj
    · exact hj
    · cases hj)⟩
theorem trmC (v : Value) (l : List Rat) (w : World) (hv : Rq l v w) : Calls Tryd.prog 20 #[v] w fun e w' => ∃ v', e = .returned v' ∧ Rq (trim l) v' w' ∧ Since w w' := by
  obtain ⟨A, n, c, rfl, hln, hnc, hn1, hcm, hr⟩ := hv.at
  clear hv
  have HRX : Hid (∀ X, Since w X → Rd X 3 (.slice A n c) n (fl trc (l.map tr))) := fun X h => Rd.below hr h
  have HLN := Lib.hid hln
  clear hr
  go_enter Tryd.func20, Tryd.ntmps20
  have hb : Below w.heap.size w w := Below.refl _ _
  go_wp2
  go_loopw [0] (fun sv wr => ∃ k : Nat, k ≤ n ∧ sv = .slice A k c ∧ Hid (tl l k = tl l n) ∧ Below w.heap.size w wr) (fun sv _ => match sv with | .slice _ k _ => k | _ => 0)
  case atStart => exact ⟨n, Nat.le_refl _, rfl, rfl, hb⟩
  case round =>
    clear hb
    obtain ⟨k, hk, rfl, HT, hb⟩ := hrel
    rcases Nat.eq_zero_or_pos k with hk0 | hk0
    · subst hk0
      have HL : Hid (trim l = []) := by
        show _ = _
        unfold trim
        rw [HLN.out, ← HT.out]
        rfl
      have HQ : Hid (∀ X, Since w X → Rq (trim l) (.slice A 0 c) X) := fun X h => by
        rw [HL.out]
        have h9 := rd_pre (k := 0) (HRX.out X h) HLN.out (Nat.zero_le _)
        rwa [List.take_zero] at h9
      go_upto_region 1 with (fail)
      refine jp ?_
      refine jm (.slice A 0 c) ?_
      refine jn (.int .i64 0) ?_
      refine jv (.bool false) (exec_gtr _ _ _ _ (by rfl) .i64 0 0 (by rfl) (by rfl) false (decide_eq_false (by omega))) ?_
      refine jm (.bool false) ?_
      refine js ?_
      refine js ?_
      refine js ?_
      refine js ?_
      refine js ?_
      refine js ?_
      refine js ?_
      refine js ?_
      refine jm (.bool false) ?_
      refine jz fun X1 hX1 => ?_
      have hb := bel_next hb hX1
      clear hX1
      go_upto_region 3 with (fail)
      refine jp ?_
      refine jm (.slice A 0 c) ?_
      refine jm (.slice A 0 c) ?_
      refine jz fun X2 hX2 => ?_
      have hb := bel_next hb hX2
      clear hX2
      go_wp2
      go_ret
      exact ⟨.slice A 0 c, rfl, HQ.out _ hb, hb⟩
    · obtain ⟨p, rfl⟩ : ∃ p, k = p + 1 := ⟨k - 1, by omega⟩
      obtain ⟨b, off, rfl, hbb, hcx⟩ := rqAt (HRX.out _ hb) HLN.out (show p < n by omega)
      obtain ⟨x, x9⟩ : ∃ x, x = yq l p := ⟨_, rfl⟩
      have HX := Lib.hid x9
      rw [← x9] at hcx
      clear x9
      have hcx : Cl wr b (off + p * 3) [.bool (rN x), .string ⟨(rP x).toArray⟩, .string ⟨(rD x).toArray⟩] := hcx
      by_cases h0 : x = 0
      · have HT2 : Hid (tl l p = tl l n) := by
          show _ = _
          rw [← HT.out, tl_succ, if_pos (by rw [← HX.out]; exact h0)]
        have h0x := Lib.hid h0
        clear h0
        go_upto_region 1 with (fail)
        refine jp ?_
        refine jm (.slice (some ⟨b, off, none⟩) (p + 1) c) ?_
        refine jv (.int .i64 ((p + 1) : Int)) (exec_lenv Tryd.underlying43 _ (by rfl) (some ⟨b, off, none⟩) (p + 1) c (by rfl) _ rfl) ?_
        refine jv (.bool true) (exec_gtr _ _ _ _ (by rfl) .i64 ((p + 1) : Int) 0 (by rfl) (by rfl) true (decide_eq_true (by omega))) ?_
        refine jm (.bool true) ?_
        refine jm (.slice (some ⟨b, off, none⟩) (p + 1) c) ?_
        refine jm (.slice (some ⟨b, off, none⟩) (p + 1) c) ?_
        refine jv (.int .i64 ((p + 1) : Int)) (exec_lenv Tryd.underlying43 _ (by rfl) (some ⟨b, off, none⟩) (p + 1) c (by rfl) _ rfl) ?_
        refine jv (.int .i64 (p : Int)) (exec_sub _ _ _ _ (by rfl) ((p + 1) : Int) 1 (p : Int) (by rfl) (by rfl) (by omega) (by omega) (by omega)) ?_
        refine jv (.pointer (some ⟨b, off + p * 3, none⟩)) (exec_ixv Tryd.underlying43 info_rat _ _ (by rfl) b (off) (p + 1) c p (by omega) (by rfl) (by rfl) rfl) ?_
        refine jg (rt (rN x) (rP x) (rD x)) (fun X hX hF => exec_ldc 38 _ (by rfl) b (off + p * 3) (by rfl) Tryd.underlying38 rfl [.bool (rN x), .string ⟨(rP x).toArray⟩, .string ⟨(rD x).toArray⟩] X (Cl.part (hcx.below hX hbb) 0 _ (by rfl)) info_rat) ?_
        refine jn (rz) ?_
        refine jv (.bool true) (exec_eqr _ _ (by rfl) (rN x) (rP x) (rD x) false [] [] (by rfl) (by rfl) true (rb_zt h0x.out)) ?_
        refine jm (.bool true) ?_
        refine jz fun X1 hX1 => ?_
        have hcx := hcx.below hX1 hbb
        replace hbb := Nat.lt_of_lt_of_le hbb (hX1).size
        have hb := bel_next hb hX1
        clear hX1
        go_upto_region 2 with (fail)
        refine jp ?_
        refine jm (.slice (some ⟨b, off, none⟩) (p + 1) c) ?_
        refine jm (.slice (some ⟨b, off, none⟩) (p + 1) c) ?_
        refine jv (.int .i64 ((p + 1) : Int)) (exec_lenv Tryd.underlying43 _ (by rfl) (some ⟨b, off, none⟩) (p + 1) c (by rfl) _ rfl) ?_
        refine jv (.int .i64 (p : Int)) (exec_sub _ _ _ _ (by rfl) ((p + 1) : Int) 1 (p : Int) (by rfl) (by rfl) (by omega) (by omega) (by omega)) ?_
        refine jv (.slice (some ⟨b, off, none⟩) p c) (exec_pre Tryd.underlying43 info_rat _ _ (by rfl) (some ⟨b, off, none⟩) (p + 1) c p (by omega) (by rfl) (by rfl) rfl) ?_
        refine jm (.slice (some ⟨b, off, none⟩) p c) ?_
        refine jz fun X2 hX2 => ?_
        have hb := bel_next hb hX2
        clear hX2
        go_wp2
        go_roundw
        case rel => exact ⟨p, by omega, rfl, HT2, hb⟩
        case measure => simp
      · have HL : Hid (tl l n = p + 1) := by
          show _ = _
          rw [← HT.out, tl_succ, if_neg (by rw [← HX.out]; exact h0)]
        have HQ : Hid (∀ X, Since w X → Rq (trim l) (.slice (some ⟨b, off, none⟩) (p + 1) c) X) := fun X h => by
          have h9 := rd_pre (k := p + 1) (HRX.out X h) HLN.out hk
          unfold trim
          rw [HLN.out, HL.out]
          exact h9
        have h0x := Lib.hid h0
        clear h0
        go_upto_region 1 with (fail)
        refine jp ?_
        refine jm (.slice (some ⟨b, off, none⟩) (p + 1) c) ?_
        refine jv (.int .i64 ((p + 1) : Int)) (exec_lenv Tryd.underlying43 _ (by rfl) (some ⟨b, off, none⟩) (p + 1) c (by rfl) _ rfl) ?_
        refine jv (.bool true) (exec_gtr _ _ _ _ (by rfl) .i64 ((p + 1) : Int) 0 (by rfl) (by rfl) true (decide_eq_true (by omega))) ?_
        refine jm (.bool true) ?_
        refine jm (.slice (some ⟨b, off, none⟩) (p + 1) c) ?_
        refine jm (.slice (some ⟨b, off, none⟩) (p + 1) c) ?_
        refine jv (.int .i64 ((p + 1) : Int)) (exec_lenv Tryd.underlying43 _ (by rfl) (some ⟨b, off, none⟩) (p + 1) c (by rfl) _ rfl) ?_
        refine jv (.int .i64 (p : Int)) (exec_sub _ _ _ _ (by rfl) ((p + 1) : Int) 1 (p : Int) (by rfl) (by rfl) (by omega) (by omega) (by omega)) ?_
        refine jv (.pointer (some ⟨b, off + p * 3, none⟩)) (exec_ixv Tryd.underlying43 info_rat _ _ (by rfl) b (off) (p + 1) c p (by omega) (by rfl) (by rfl) rfl) ?_
        refine jg (rt (rN x) (rP x) (rD x)) (fun X hX hF => exec_ldc 38 _ (by rfl) b (off + p * 3) (by rfl) Tryd.underlying38 rfl [.bool (rN x), .string ⟨(rP x).toArray⟩, .string ⟨(rD x).toArray⟩] X (Cl.part (hcx.below hX hbb) 0 _ (by rfl)) info_rat) ?_
        refine jn (rz) ?_
        refine jv (.bool false) (exec_eqr _ _ (by rfl) (rN x) (rP x) (rD x) false [] [] (by rfl) (by rfl) false (rb_zf h0x.out)) ?_
        refine jm (.bool false) ?_
        refine jz fun X1 hX1 => ?_
        have hcx := hcx.below hX1 hbb
        replace hbb := Nat.lt_of_lt_of_le hbb (hX1).size
        have hb := bel_next hb hX1
        clear hX1
        go_upto_region 3 with (fail)
        refine jp ?_
        refine jm (.slice (some ⟨b, off, none⟩) (p + 1) c) ?_
        refine jm (.slice (some ⟨b, off, none⟩) (p + 1) c) ?_
        refine jz fun X2 hX2 => ?_
        have hb := bel_next hb hX2
        clear hX2
        go_wp2
        go_ret
        exact ⟨.slice (some ⟨b, off, none⟩) (p + 1) c, rfl, HQ.out _ hb, hb⟩
end Go.Proofs.YtcpedbpldgndmaaDoor
