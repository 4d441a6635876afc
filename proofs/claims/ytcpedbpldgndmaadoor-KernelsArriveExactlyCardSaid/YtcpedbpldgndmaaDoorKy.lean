/-
  law 31: Few, trimmed, moment.
-/
import Derived.Test.YtcpedbpldgndmaaDoorKx
set_option linter.unusedSimpArgs false
set_option linter.unusedVariables false
set_option maxRecDepth 100000
set_option maxHeartbeats 1600000
namespace Go.Proofs.YtcpedbpldgndmaaDoor
open Go.RowKit
/-- Whether there are at most so many flows, with parts of at most 20 bytes. -/
def fewS (xs : List Tr) (m : Nat) : Bool := decide (xs.length ≤ m) && xs.all fun t => few t.2.1 t.2.2 20
theorem fewS_t {xs : List Tr} {m : Nat} (h : fewS xs m = true) : xs.length ≤ m ∧ ∀ k, tz (xt xs k).2.1 (xt xs k).2.2 20 := by
 unfold fewS at h
 rw [Bool.and_eq_true] at h;refine ⟨of_decide_eq_true h.1, fun k => ?_⟩
 rcases Nat.lt_or_ge k xs.length with h1 | h1
 ·have h2 := List.all_eq_true.1 h.2 _ (List.getElem_mem h1)
  rw [xt_in h1]
  unfold few at h2
  rw [Bool.and_eq_true] at h2;exact ⟨of_decide_eq_true h2.1, of_decide_eq_true h2.2⟩
 ·unfold xt
  rw [List.getD_eq_getElem?_getD, List.getElem?_eq_none h1];exact tz_nil
theorem fws0 (v : Value) (xs : List Tr) (m : Nat) (w : World) (hv : Rl xs v w) (h : m < xs.length) : Calls Tryd.prog 16 #[v, .int .i64 (m : Int)] w fun e w' => e = .returned (.bool (fewS xs m)) ∧ Since w w' := by
 obtain ⟨A, n, c, rfl, hln, hn1, hr⟩ := Rl.at hv;clear hv hr;rw [hln] at h
 have HC : Hid (fewS xs m = false) := by
  show _ = _
  unfold fewS
  rw [decide_eq_false (by omega)]
  rfl
 go_enter Tryd.func16, Tryd.ntmps16
 go_upto_region 1 with fail;refine jp ?_;refine jm (.slice A n c) ?_;refine jv (.int .i64 (n : Int)) (exec_lenv Tryd.underlying43 _ (by rfl) A n c (by rfl) _ rfl) ?_;refine jm (.int .i64 (m : Int)) ?_;refine jv (.bool true) (exec_gtr _ _ _ _ (by rfl) .i64 (n : Int) (m : Int) (by rfl) (by rfl) true (decide_eq_true (by omega))) ?_;refine jz fun X1 hX1 => ?_;have hb : Below w.heap.size w X1 := hX1;clear hX1;go_upto_region 2 with fail;refine jp ?_;refine jm (.bool false) ?_;refine jzb hb fun X2 _ hb => ?_
 go_wp2
 go_ret
 exact ⟨by rw [HC.out]; rfl, hb⟩
theorem fws1 (v : Value) (xs : List Tr) (m : Nat) (w : World) (hv : Rl xs v w) (h : xs.length ≤ m) : Calls Tryd.prog 16 #[v, .int .i64 (m : Int)] w fun e w' => e = .returned (.bool (fewS xs m)) ∧ Since w w' := by
 obtain ⟨A, n, c, rfl, hln, hn1, hr⟩ := Rl.at hv;clear hv
 have HRX : Hid (∀ X, Since w X → Rd X 3 (.slice A n c) n (fl trc xs)) := fun X h => Rd.below hr h
 have HLN := Lib.hid hln;clear hr;rw [hln] at h
 go_enter Tryd.func16, Tryd.ntmps16
 go_upto_region 1 with fail;refine jp ?_;refine jm (.slice A n c) ?_;refine jv (.int .i64 (n : Int)) (exec_lenv Tryd.underlying43 _ (by rfl) A n c (by rfl) _ rfl) ?_;refine jm (.int .i64 (m : Int)) ?_;refine jv (.bool false) (exec_gtr _ _ _ _ (by rfl) .i64 (n : Int) (m : Int) (by rfl) (by rfl) false (decide_eq_false (by omega))) ?_;refine jz fun X1 hX1 => ?_;have hb : Below w.heap.size w X1 := hX1;clear hX1;go_upto_region 3 with fail;refine jp ?_;refine jm (.int .i64 0) ?_;refine jzb hb fun X2 _ hb => ?_
 go_wp2
 go_loopw [5] (fun kv wr => ∃ k : Nat, k ≤ n ∧ kv = .int .i64 (k : Int) ∧ Hid (∀ j, j < k → few (xt xs j).2.1 (xt xs j).2.2 20 = true) ∧ Below w.heap.size w wr) (fun kv _ => n - (intOf kv).toNat)
 case atStart => exact ⟨0, by omega, rfl, (fun j hj => by omega), hb⟩
 case round =>
  clear hb;obtain ⟨k, hk, rfl, HZ, hb⟩ := hrel
  rcases Nat.lt_or_ge k n with hlt | hlt
  ·obtain ⟨b, off, rfl, hbb, hcx⟩ := Rl.xtAt (HRX.out _ hb) HLN.out hlt
   obtain ⟨x, x9⟩ : ∃ x, x = xt xs k := ⟨_, rfl⟩;have HX := Lib.hid x9;rw [← x9] at hcx;clear x9;go_upto_region 4 with fail;refine jp ?_;refine jm (.int .i64 (k : Int)) ?_;refine jm (.slice (some ⟨b, off, none⟩) n c) ?_;refine jv (.int .i64 (n : Int)) (exec_lenv Tryd.underlying43 _ (by rfl) (some ⟨b, off, none⟩) n c (by rfl) _ rfl) ?_;refine jv (.bool true) (exec_lss _ _ _ _ (by rfl) .i64 (k : Int) (n : Int) (by rfl) (by rfl) true (decide_eq_true (by omega))) ?_;refine jzb hb fun X1 hX1 hb => ?_;have hcx := hcx.below hX1 hbb;replace hbb := Nat.lt_of_lt_of_le hbb (hX1).size;clear hX1
   rcases hfx : few x.2.1 x.2.2 20 with _ | _
   ·have HF := Lib.hid hfx
    go_upto_region 6 with fail;refine jp ?_;refine jm (.slice (some ⟨b, off, none⟩) n c) ?_;refine jm (.int .i64 (k : Int)) ?_;refine jv (.pointer (some ⟨b, off + k * 3, none⟩)) (exec_ixv Tryd.underlying43 info_rat _ _ (by rfl) b (off) n c k (by omega) (by rfl) (by rfl) rfl) ?_;refine jg (.agg #[.bool x.1, st x.2.1, st x.2.2]) (fun X hX hF => exec_ldc 38 _ (by rfl) b (off + k * 3) (by rfl) Tryd.underlying38 rfl [.bool x.1, .string ⟨x.2.1.toArray⟩, .string ⟨x.2.2.toArray⟩] X (Cl.part (hcx.below hX hbb) 0 _ (by rfl)) info_rat) ?_;refine jc (.bool false) (fun X hX hF => mo (fewQ x.1 x.2.1 x.2.2 20 X) (by rw [HF.out])) ?_;refine jm (.bool false) ?_;refine jzb hb fun X2 hX2 hb => ?_;have hcx := hcx.below hX2 hbb;replace hbb := Nat.lt_of_lt_of_le hbb (hX2).size;clear hX2;go_upto_region 7 with fail;refine jp ?_;refine jm (.bool false) ?_;refine jm (.bool true) ?_;refine jzb hb fun X3 _ hb => ?_
    have HC : Hid (fewS xs m = false) := by
     show _ = _
     unfold fewS
     have h9 : (xs.all fun t => few t.2.1 t.2.2 20) = false := by
      rw [Bool.eq_false_iff];intro h8;have h7 := List.all_eq_true.1 h8 _ (List.getElem_mem (show k < xs.length by rw [HLN.out]; exact hlt));rw [← xt_in, ← HX.out, HF.out] at h7
      cases h7
     rw [h9, Bool.and_false]
    go_upto_region 8 with fail;refine jp ?_;refine jm (.bool false) ?_;refine jzb hb fun X4 _ hb => ?_
    go_wp2
    go_ret
    exact ⟨by rw [HC.out]; rfl, hb⟩
   ·have HF := Lib.hid hfx
    go_upto_region 6 with fail;refine jp ?_;refine jm (.slice (some ⟨b, off, none⟩) n c) ?_;refine jm (.int .i64 (k : Int)) ?_;refine jv (.pointer (some ⟨b, off + k * 3, none⟩)) (exec_ixv Tryd.underlying43 info_rat _ _ (by rfl) b (off) n c k (by omega) (by rfl) (by rfl) rfl) ?_;refine jg (.agg #[.bool x.1, st x.2.1, st x.2.2]) (fun X hX hF => exec_ldc 38 _ (by rfl) b (off + k * 3) (by rfl) Tryd.underlying38 rfl [.bool x.1, .string ⟨x.2.1.toArray⟩, .string ⟨x.2.2.toArray⟩] X (Cl.part (hcx.below hX hbb) 0 _ (by rfl)) info_rat) ?_;refine jc (.bool true) (fun X hX hF => mo (fewQ x.1 x.2.1 x.2.2 20 X) (by rw [HF.out])) ?_;refine jm (.bool true) ?_;refine jzb hb fun X2 hX2 hb => ?_;have hcx := hcx.below hX2 hbb;replace hbb := Nat.lt_of_lt_of_le hbb (hX2).size;clear hX2;go_upto_region 7 with fail;refine jp ?_;refine jm (.bool true) ?_;refine jm (.bool false) ?_;refine jzb hb fun X3 _ hb => ?_
    have HZ2 : Hid (∀ j, j < k + 1 → few (xt xs j).2.1 (xt xs j).2.2 20 = true) := fun j hj => by
     rcases Nat.lt_or_ge j k with h9 | h9
     ·exact HZ.out j h9
     ·rw [show j = k by omega, ← HX.out]; exact HF.out
    go_upto_region 5 with fail;refine jp ?_;refine jm (.int .i64 (k : Int)) ?_;refine jv (.int .i64 ((k + 1 : Nat) : Int)) (exec_add _ _ _ _ (by rfl) (k : Int) 1 ((k + 1 : Nat) : Int) (by rfl) (by rfl) (by omega) (by omega) (by omega)) ?_;refine jm (.int .i64 ((k + 1 : Nat) : Int)) ?_;refine jzb hb fun X4 _ hb => ?_
    go_wp2
    go_roundw
    case rel => exact ⟨k + 1, by omega, rfl, HZ2, hb⟩
    case measure => simp [intOf]; omega
  ·obtain rfl : k = n := by omega
   have HC : Hid (fewS xs m = true) := by
    show _ = _
    unfold fewS
    rw [decide_eq_true (by rw [HLN.out]; exact h), Bool.true_and];refine List.all_eq_true.2 fun t ht => ?_;obtain ⟨i, hi, rfl⟩ := List.getElem_of_mem ht;rw [← xt_in hi];exact HZ.out i (by rw [← HLN.out]; exact hi)
   go_upto_region 4 with fail;refine jp ?_;refine jm (.int .i64 (k : Int)) ?_;refine jm (.slice A k c) ?_;refine jv (.int .i64 (k : Int)) (exec_lenv Tryd.underlying43 _ (by rfl) A k c (by rfl) _ rfl) ?_;refine jv (.bool false) (exec_lss _ _ _ _ (by rfl) .i64 (k : Int) (k : Int) (by rfl) (by rfl) false (decide_eq_false (by omega))) ?_;refine jzb hb fun X1 _ hb => ?_;go_upto_region 9 with fail;refine jp ?_;refine jm (.bool true) ?_;refine jzb hb fun X2 _ hb => ?_
   go_wp2
   go_ret
   exact ⟨by rw [HC.out]; rfl, hb⟩
theorem fwsV (v : Value) (xs : List Tr) (m : Nat) (w : World) (hv : Rl xs v w) : Calls Tryd.prog 16 #[v, .int .i64 (m : Int)] w fun e w' => e = .returned (.bool (fewS xs m)) ∧ Since w w' := by
 rcases Nat.lt_or_ge m xs.length with h | h
 ·exact fws0 v xs m w hv h
 ·exact fws1 v xs m w hv h
/-- How many numbers are left without the zeros at the end. -/
def tl (l : List Rat) : Nat → Nat
 | 0 => 0
 | k + 1 => if yq l k = 0 then tl l k else k + 1
theorem Rq.at {l : List Rat} {v : Value} {w : World} (h : Rq l v w) : ∃ A n c, v = .slice A n c ∧ l.length = n ∧ n ≤ c ∧ n ≤ 9223372036854775807 ∧ c ≤ maxLen ∧ Rd w 3 (.slice A n c) n (fl trc (l.map tr)) := by
 have h9 : Rd w 3 v (l.map tr).length (fl trc (l.map tr)) := h;have h8 := h9;obtain ⟨hl, A, c, h2, hc, hm, hx⟩ := h9;subst h2;rw [List.length_map] at hc h8 ⊢;refine ⟨A, l.length, c, rfl, rfl, hc, ?_, hm, h8⟩
 unfold maxLen at hm
 omega
theorem rqAt {w : World} {A : Option Addr} {n c : Nat} {l : List Rat} (h : Rd w 3 (.slice A n c) n (fl trc (l.map tr))) (hl : l.length = n) {k : Nat} (hk : k < n) : ∃ b off, A = some ⟨b, off, none⟩ ∧ b < w.heap.size ∧ Cl w b (off + k * 3) (rc (yq l k)) := by
 obtain ⟨b, off, h1, h2, h3⟩ := Rl.xtAt h (by rw [List.length_map]; exact hl) hk;rw [xt_map] at h3;exact ⟨b, off, h1, h2, h3⟩
end Go.Proofs.YtcpedbpldgndmaaDoor
