/-
  law 31: of, quotient, few, Same ..
-/
import Derived.Test.YtcpedbpldgndmaaDoorKv
set_option linter.unusedSimpArgs false
set_option linter.unusedVariables false
set_option maxRecDepth 100000
set_option maxHeartbeats 1600000
namespace Go.Proofs.YtcpedbpldgndmaaDoor
open Go.RowKit
theorem ofV (v : Value) (A : Option Addr) (n c : Nat) (w : World) (hv : v = .slice A n c) : Calls Tryd.prog 28 #[v] w fun e w' => e = .returned (.agg #[v]) ∧ Since w w' := by
 subst hv
 go_enter Tryd.func28, Tryd.ntmps28
 go_upto_region 1 with fail;obtain ⟨W0, hW0, hB0, hb⟩ := start1 w 24 [.slice none 0 0];rw [← hW0];clear hW0;refine jq 2 ?_;refine jm (.slice A n c) ?_;refine jn (.agg #[.slice A n c]) ?_;refine jzb hb fun X1 hX1 hb => ?_;replace hB0 := hB0.bel hX1;clear hX1;refine osb 24 2 4 w.heap.size 24 hB0 [.slice A n c] info_kn ?_;intro w9 hR9 hO9 hB9 hs9;have hb9 := hB9 _ _ hb (by omega);clear hO9 hB9
 go_wp2
 refine post_cell rfl rfl (by rfl) Tryd.underlying24 rfl hR9 info_kn ⟨rfl, hb9⟩
theorem quoC (x t : Int) (w : World) (hx : insB x = true) (ht : insB t = true) (h0 : t ≠ 0) : Calls Tryd.prog 30 #[.int .i64 x, .int .i64 t] w fun e w' => e = .returned (rbv (rk x t)) ∧ Since w w' := by
 go_enter Tryd.func30, Tryd.ntmps30
 go_upto_region 1 with fail;obtain ⟨W0, hW0, hB0, hb⟩ := start1 w 38 [.bool false, .string ⟨#[]⟩, .string ⟨#[]⟩];rw [← hW0];clear hW0;refine jq 6 ?_;refine jm (.int .i64 x) ?_;refine jm (.int .i64 t) ?_;refine jc (.tuple #[rt (rN (rk x t)) (rP (rk x t)) (rD (rk x t)), .int .i64 0]) (fun X hX hF => makeC x t X hx ht h0) ?_;refine jm (.tuple #[rt (rN (rk x t)) (rP (rk x t)) (rD (rk x t)), .int .i64 0]) ?_;refine jm (rt (rN (rk x t)) (rP (rk x t)) (rD (rk x t))) ?_;refine jm (.int .i64 0) ?_;refine jzb hb fun X1 hX1 hb => ?_;replace hB0 := hB0.bel hX1;clear hX1;go_upto_region 2 with (refine osn 38 5 11 #[.bool (rN (rk x t)), .string ⟨(rP (rk x t)).toArray⟩, .string ⟨(rD (rk x t)).toArray⟩] info_rat ?_);obtain ⟨Y1, hY9, hD5, hS9⟩ := start1 X1 38 [.bool (rN (rk x t)), .string ⟨(rP (rk x t)).toArray⟩, .string ⟨(rD (rk x t)).toArray⟩];rw [← hY9];clear hY9;have hgs5 := hb.size;have hlt5x0 := hB0.lt;have hB0 := hB0.bel hS9;have hb := bel_next hb hS9;clear hS9;generalize X1.heap.size = g5 at *;refine jq 1 ?_;refine ja hD5 Tryd.underlying38 (by rfl) info_rat ?_;refine jzb hb fun X2 hX2 hb => ?_;replace hB0 := hB0.bel hX2;replace hD5 := hD5.bel hX2;clear hX2;refine osb 38 4 13 w.heap.size 38 hB0 [.bool (rN (rk x t)), .string ⟨(rP (rk x t)).toArray⟩, .string ⟨(rD (rk x t)).toArray⟩] info_rat ?_;intro w9 hR9 hO9 hB9 hs9;have hb9 := hB9 _ _ hb (by omega);clear hO9 hB9
 go_wp2
 refine post_cell rfl rfl (by rfl) Tryd.underlying38 rfl hR9 info_rat ⟨rfl, hb9⟩
def fewK (n : Nat) : Bool := decide (n ≤ 30) || (decide (400 < n) && decide (n < 405))
theorem few310 (v : Value) (l : List Int) (w : World) (hv : Ks l v w) (h : l.length ≤ 30) : Calls Tryd.prog 7 #[.agg #[v]] w fun e w' => e = .returned (.bool (fewK l.length)) ∧ Since w w' := by
 have HC : Hid (fewK l.length = true) := by
  show _ = _
  unfold fewK
  simp
  omega
 obtain ⟨A, n, c, rfl, hln, hn1, hr⟩ := hv.at;clear hv
 have HRX : Hid (∀ X, Since w X → Rd X 1 (.slice A n c) n (l.map I64)) := fun X h => hr.below h
 have HLN := Lib.hid hln;clear hr;rw [hln] at h
 go_enter Tryd.func7, Tryd.ntmps7
 go_upto_region 1 with fail;obtain ⟨W0, hW0, hB0, hb⟩ := start1 w 24 [.slice A n c];rw [← hW0];clear hW0;refine jp ?_;refine jn (.pointer (some ⟨w.heap.size, 0, none⟩)) ?_;refine jf (.slice A n c) hB0 0 load_ints ?_;refine jv (.int .i64 (n : Int)) (exec_lenv Tryd.underlying22 _ (by rfl) A n c (by rfl) _ rfl) ?_;refine jv (.bool true) (exec_leq _ _ _ _ (by rfl) .i64 (n : Int) 30 (by rfl) (by rfl) true (decide_eq_true (by omega))) ?_;refine jm (.bool true) ?_;refine js ?_;refine js ?_;refine js ?_;refine js ?_;refine js ?_;refine js ?_;refine js ?_;refine js ?_;refine js ?_;refine js ?_;refine jm (.bool true) ?_;refine jm (.bool true) ?_;refine jzb hb fun X1 hX1 hb => ?_;replace hB0 := hB0.bel hX1;clear hX1
 go_wp2
 go_ret
 exact ⟨by rw [HC.out]; rfl, hb⟩
theorem few311 (v : Value) (l : List Int) (w : World) (hv : Ks l v w) (h : 30 < l.length) (h2 : l.length ≤ 400) : Calls Tryd.prog 7 #[.agg #[v]] w fun e w' => e = .returned (.bool (fewK l.length)) ∧ Since w w' := by
 have HC : Hid (fewK l.length = false) := by
  show _ = _
  unfold fewK
  simp
  omega
 obtain ⟨A, n, c, rfl, hln, hn1, hr⟩ := hv.at;clear hv
 have HRX : Hid (∀ X, Since w X → Rd X 1 (.slice A n c) n (l.map I64)) := fun X h => hr.below h
 have HLN := Lib.hid hln;clear hr;rw [hln] at h h2
 go_enter Tryd.func7, Tryd.ntmps7
 go_upto_region 1 with fail;obtain ⟨W0, hW0, hB0, hb⟩ := start1 w 24 [.slice A n c];rw [← hW0];clear hW0;refine jp ?_;refine jn (.pointer (some ⟨w.heap.size, 0, none⟩)) ?_;refine jf (.slice A n c) hB0 0 load_ints ?_;refine jv (.int .i64 (n : Int)) (exec_lenv Tryd.underlying22 _ (by rfl) A n c (by rfl) _ rfl) ?_;refine jv (.bool false) (exec_leq _ _ _ _ (by rfl) .i64 (n : Int) 30 (by rfl) (by rfl) false (decide_eq_false (by omega))) ?_;refine jm (.bool false) ?_;refine jn (.pointer (some ⟨w.heap.size, 0, none⟩)) ?_;refine jf (.slice A n c) hB0 0 load_ints ?_;refine jv (.int .i64 (n : Int)) (exec_lenv Tryd.underlying22 _ (by rfl) A n c (by rfl) _ rfl) ?_;refine jv (.bool false) (exec_gtr _ _ _ _ (by rfl) .i64 (n : Int) 400 (by rfl) (by rfl) false (decide_eq_false (by omega))) ?_;refine jm (.bool false) ?_;refine js ?_;refine js ?_;refine js ?_;refine js ?_;refine jm (.bool false) ?_;refine jm (.bool false) ?_;refine jm (.bool false) ?_;refine jzb hb fun X1 hX1 hb => ?_;replace hB0 := hB0.bel hX1;clear hX1
 go_wp2
 go_ret
 exact ⟨by rw [HC.out]; rfl, hb⟩
theorem few312 (v : Value) (l : List Int) (w : World) (hv : Ks l v w) (h : 400 < l.length) (h2 : l.length < 405) : Calls Tryd.prog 7 #[.agg #[v]] w fun e w' => e = .returned (.bool (fewK l.length)) ∧ Since w w' := by
 have HC : Hid (fewK l.length = true) := by
  show _ = _
  unfold fewK
  simp
  omega
 obtain ⟨A, n, c, rfl, hln, hn1, hr⟩ := hv.at;clear hv
 have HRX : Hid (∀ X, Since w X → Rd X 1 (.slice A n c) n (l.map I64)) := fun X h => hr.below h
 have HLN := Lib.hid hln;clear hr;rw [hln] at h h2
 go_enter Tryd.func7, Tryd.ntmps7
 go_upto_region 1 with fail;obtain ⟨W0, hW0, hB0, hb⟩ := start1 w 24 [.slice A n c];rw [← hW0];clear hW0;refine jp ?_;refine jn (.pointer (some ⟨w.heap.size, 0, none⟩)) ?_;refine jf (.slice A n c) hB0 0 load_ints ?_;refine jv (.int .i64 (n : Int)) (exec_lenv Tryd.underlying22 _ (by rfl) A n c (by rfl) _ rfl) ?_;refine jv (.bool false) (exec_leq _ _ _ _ (by rfl) .i64 (n : Int) 30 (by rfl) (by rfl) false (decide_eq_false (by omega))) ?_;refine jm (.bool false) ?_;refine jn (.pointer (some ⟨w.heap.size, 0, none⟩)) ?_;refine jf (.slice A n c) hB0 0 load_ints ?_;refine jv (.int .i64 (n : Int)) (exec_lenv Tryd.underlying22 _ (by rfl) A n c (by rfl) _ rfl) ?_;refine jv (.bool true) (exec_gtr _ _ _ _ (by rfl) .i64 (n : Int) 400 (by rfl) (by rfl) true (decide_eq_true (by omega))) ?_;refine jm (.bool true) ?_;refine jn (.pointer (some ⟨w.heap.size, 0, none⟩)) ?_;refine jf (.slice A n c) hB0 0 load_ints ?_;refine jv (.int .i64 (n : Int)) (exec_lenv Tryd.underlying22 _ (by rfl) A n c (by rfl) _ rfl) ?_;refine jv (.bool true) (exec_lss _ _ _ _ (by rfl) .i64 (n : Int) 405 (by rfl) (by rfl) true (decide_eq_true (by omega))) ?_;refine jm (.bool true) ?_;refine jm (.bool true) ?_;refine jm (.bool true) ?_;refine jzb hb fun X1 hX1 hb => ?_;replace hB0 := hB0.bel hX1;clear hX1
 go_wp2
 go_ret
 exact ⟨by rw [HC.out]; rfl, hb⟩
theorem few313 (v : Value) (l : List Int) (w : World) (hv : Ks l v w) (h : 405 ≤ l.length) : Calls Tryd.prog 7 #[.agg #[v]] w fun e w' => e = .returned (.bool (fewK l.length)) ∧ Since w w' := by
 have HC : Hid (fewK l.length = false) := by
  show _ = _
  unfold fewK
  simp
  omega
 obtain ⟨A, n, c, rfl, hln, hn1, hr⟩ := hv.at;clear hv
 have HRX : Hid (∀ X, Since w X → Rd X 1 (.slice A n c) n (l.map I64)) := fun X h => hr.below h
 have HLN := Lib.hid hln;clear hr;rw [hln] at h
 go_enter Tryd.func7, Tryd.ntmps7
 go_upto_region 1 with fail;obtain ⟨W0, hW0, hB0, hb⟩ := start1 w 24 [.slice A n c];rw [← hW0];clear hW0;refine jp ?_;refine jn (.pointer (some ⟨w.heap.size, 0, none⟩)) ?_;refine jf (.slice A n c) hB0 0 load_ints ?_;refine jv (.int .i64 (n : Int)) (exec_lenv Tryd.underlying22 _ (by rfl) A n c (by rfl) _ rfl) ?_;refine jv (.bool false) (exec_leq _ _ _ _ (by rfl) .i64 (n : Int) 30 (by rfl) (by rfl) false (decide_eq_false (by omega))) ?_;refine jm (.bool false) ?_;refine jn (.pointer (some ⟨w.heap.size, 0, none⟩)) ?_;refine jf (.slice A n c) hB0 0 load_ints ?_;refine jv (.int .i64 (n : Int)) (exec_lenv Tryd.underlying22 _ (by rfl) A n c (by rfl) _ rfl) ?_;refine jv (.bool true) (exec_gtr _ _ _ _ (by rfl) .i64 (n : Int) 400 (by rfl) (by rfl) true (decide_eq_true (by omega))) ?_;refine jm (.bool true) ?_;refine jn (.pointer (some ⟨w.heap.size, 0, none⟩)) ?_;refine jf (.slice A n c) hB0 0 load_ints ?_;refine jv (.int .i64 (n : Int)) (exec_lenv Tryd.underlying22 _ (by rfl) A n c (by rfl) _ rfl) ?_;refine jv (.bool false) (exec_lss _ _ _ _ (by rfl) .i64 (n : Int) 405 (by rfl) (by rfl) false (decide_eq_false (by omega))) ?_;refine jm (.bool false) ?_;refine jm (.bool false) ?_;refine jm (.bool false) ?_;refine jzb hb fun X1 hX1 hb => ?_;replace hB0 := hB0.bel hX1;clear hX1
 go_wp2
 go_ret
 exact ⟨by rw [HC.out]; rfl, hb⟩
theorem fewV (v : Value) (l : List Int) (w : World) (h : Kn l v w) : Calls Tryd.prog 7 #[v] w fun e w' => e = .returned (.bool (fewK l.length)) ∧ Since w w' := by
 obtain ⟨u, rfl, hu⟩ := h
 rcases (show l.length ≤ 30 ∨ (30 < l.length ∧ l.length ≤ 400) ∨ (400 < l.length ∧ l.length < 405) ∨ 405 ≤ l.length by omega) with h | h | h | h
 ·exact few310 u l w hu h
 ·exact few311 u l w hu h.1 h.2
 ·exact few312 u l w hu h.1 h.2
 ·exact few313 u l w hu h
theorem smC (v v2 : Value) (l : List Int) (w : World) (hv : Ks l v w) (hv2 : Ks l v2 w) : Calls Tryd.prog 13 #[.agg #[v], .agg #[v2]] w fun e w' => e = .returned (.bool true) ∧ Since w w' := by
 obtain ⟨A, n, c, rfl, hln, hn1, hr⟩ := hv.at;clear hv;obtain ⟨A2, n2, c2, rfl, hln2, _, hr2⟩ := hv2.at;clear hv2
 obtain rfl : n = n2 := by rw [← hln]; exact hln2
 have HRX : Hid (∀ X, Since w X → Rd X 1 (.slice A n c) n (l.map I64)) := fun X h => hr.below h
 have HRY : Hid (∀ X, Since w X → Rd X 1 (.slice A2 n c2) n (l.map I64)) := fun X h => hr2.below h
 have HLN := Lib.hid hln;clear hr hr2 hln hln2
 go_enter Tryd.func13, Tryd.ntmps13
 go_upto_region 1 with fail;obtain ⟨W0, hW0, hB0, hB1, hb⟩ := start2 w 24 24 [.slice A n c] [.slice A2 n c2];rw [← hW0];clear hW0;refine jp ?_;refine jn (.pointer (some ⟨w.heap.size, 0, none⟩)) ?_;refine jf (.slice A n c) hB0 0 load_ints ?_;refine jv (.int .i64 (n : Int)) (exec_lenv Tryd.underlying22 _ (by rfl) A n c (by rfl) _ rfl) ?_;refine jn (.pointer (some ⟨(w.heap.size + 1), 0, none⟩)) ?_;refine jf (.slice A2 n c2) hB1 0 load_ints ?_;refine jv (.int .i64 (n : Int)) (exec_lenv Tryd.underlying22 _ (by rfl) A2 n c2 (by rfl) _ rfl) ?_;refine jv (.bool false) (exec_nei _ _ _ _ (by rfl) .i64 (n : Int) (n : Int) (by rfl) (by rfl) false (by rw [decide_eq_true (by omega)]; rfl)) ?_;refine jzb hb fun X1 hX1 hb => ?_;replace hB0 := hB0.bel hX1;replace hB1 := hB1.bel hX1;clear hX1;go_upto_region 3 with fail;refine jp ?_;refine jm (.int .i64 0) ?_;refine jzb hb fun X2 hX2 hb => ?_;replace hB0 := hB0.bel hX2;replace hB1 := hB1.bel hX2;clear hX2
 go_wp2
 go_loopw [5] (fun kv wr => ∃ k : Nat, k ≤ n ∧ kv = .int .i64 (k : Int) ∧ Blk wr w.heap.size 24 [.slice A n c] ∧ Blk wr (w.heap.size + 1) 24 [.slice A2 n c2] ∧ Below w.heap.size w wr) (fun kv _ => n - (intOf kv).toNat)
 case atStart => exact ⟨0, by omega, rfl, hB0, hB1, hb⟩
 case round =>
  clear hB0 hB1 hb;obtain ⟨k, hk, rfl, hB0, hB1, hb⟩ := hrel
  rcases Nat.lt_or_ge k n with hlt | hlt
  ·obtain ⟨b, off, rfl, hbb, hcx⟩ := wtIn (HRX.out _ hb) HLN.out hlt
   obtain ⟨b2, off2, rfl, hbb2, hcx2⟩ := wtIn (HRY.out _ hb) HLN.out hlt;obtain ⟨x, x9⟩ : ∃ x, x = wt l k := ⟨_, rfl⟩;rw [← x9] at hcx hcx2;clear x9;go_upto_region 4 with fail;refine jp ?_;refine jm (.int .i64 (k : Int)) ?_;refine jn (.pointer (some ⟨w.heap.size, 0, none⟩)) ?_;refine jf (.slice (some ⟨b, off, none⟩) n c) hB0 0 load_ints ?_;refine jv (.int .i64 (n : Int)) (exec_lenv Tryd.underlying22 _ (by rfl) (some ⟨b, off, none⟩) n c (by rfl) _ rfl) ?_;refine jv (.bool true) (exec_lss _ _ _ _ (by rfl) .i64 (k : Int) (n : Int) (by rfl) (by rfl) true (decide_eq_true (by omega))) ?_;refine jzb hb fun X1 hX1 hb => ?_;replace hB0 := hB0.bel hX1;replace hB1 := hB1.bel hX1;have hcx := hcx.below hX1 hbb;have hcx2 := hcx2.below hX1 hbb2;replace hbb := Nat.lt_of_lt_of_le hbb (hX1).size;replace hbb2 := Nat.lt_of_lt_of_le hbb2 (hX1).size;clear hX1;go_upto_region 6 with fail;refine jd ?_;refine jn (.pointer (some ⟨w.heap.size, 0, none⟩)) ?_;refine jf (.slice (some ⟨b, off, none⟩) n c) hB0 0 load_ints ?_;refine jm (.int .i64 (k : Int)) ?_;refine jv (.pointer (some ⟨b, off + k * 1, none⟩)) (exec_ixv Tryd.underlying22 info_i1 _ _ (by rfl) b (off) n c k (by omega) (by rfl) (by rfl) rfl) ?_;refine jg (.int .i64 x) (fun X hX hF => exec_ld 3 _ (by rfl) b (off + k * 1) (by rfl) _ X ((hcx.below hX hbb) 0 _ rfl) (fun X u h => load_int b (off + k * 1) X u h)) ?_;refine jn (.pointer (some ⟨(w.heap.size + 1), 0, none⟩)) ?_;refine jf (.slice (some ⟨b2, off2, none⟩) n c2) hB1 0 load_ints ?_;refine jm (.int .i64 (k : Int)) ?_
   refine jv (.pointer (some ⟨b2, off2 + k * 1, none⟩)) (exec_ixv Tryd.underlying22 info_i1 _ _ (by rfl) b2 (off2) n c2 k (by omega) (by rfl) (by rfl) rfl) ?_;refine jg (.int .i64 x) (fun X hX hF => exec_ld 3 _ (by rfl) b2 (off2 + k * 1) (by rfl) _ X ((hcx2.below hX hbb2) 0 _ rfl) (fun X u h => load_int b2 (off2 + k * 1) X u h)) ?_;refine jv (.bool false) (exec_nei _ _ _ _ (by rfl) .i64 x x (by rfl) (by rfl) false (by rw [decide_eq_true (by omega)]; rfl)) ?_;refine jzb hb fun X2 hX2 hb => ?_;replace hB0 := hB0.bel hX2;replace hB1 := hB1.bel hX2;have hcx := hcx.below hX2 hbb;have hcx2 := hcx2.below hX2 hbb2;replace hbb := Nat.lt_of_lt_of_le hbb (hX2).size;replace hbb2 := Nat.lt_of_lt_of_le hbb2 (hX2).size;clear hX2;go_upto_region 5 with fail;refine jp ?_;refine jm (.int .i64 (k : Int)) ?_;refine jv (.int .i64 ((k + 1 : Nat) : Int)) (exec_add _ _ _ _ (by rfl) (k : Int) 1 ((k + 1 : Nat) : Int) (by rfl) (by rfl) (by omega) (by omega) (by omega)) ?_;refine jm (.int .i64 ((k + 1 : Nat) : Int)) ?_;refine jzb hb fun X3 hX3 hb => ?_;replace hB0 := hB0.bel hX3;replace hB1 := hB1.bel hX3;clear hX3
   go_wp2
   go_roundw
   case rel => exact ⟨k + 1, by omega, rfl, hB0, hB1, hb⟩
   case measure => simp [intOf]; omega
  ·obtain rfl : k = n := by omega
   go_upto_region 4 with fail;refine jp ?_;refine jm (.int .i64 (k : Int)) ?_;refine jn (.pointer (some ⟨w.heap.size, 0, none⟩)) ?_;refine jf (.slice A k c) hB0 0 load_ints ?_;refine jv (.int .i64 (k : Int)) (exec_lenv Tryd.underlying22 _ (by rfl) A k c (by rfl) _ rfl) ?_;refine jv (.bool false) (exec_lss _ _ _ _ (by rfl) .i64 (k : Int) (k : Int) (by rfl) (by rfl) false (decide_eq_false (by omega))) ?_;refine jzb hb fun X1 hX1 hb => ?_;replace hB0 := hB0.bel hX1;replace hB1 := hB1.bel hX1;clear hX1;go_upto_region 8 with fail;refine jp ?_;refine jm (.bool true) ?_;refine jzb hb fun X2 hX2 hb => ?_;replace hB0 := hB0.bel hX2;replace hB1 := hB1.bel hX2;clear hX2
   go_wp2
   go_ret
   exact ⟨rfl, hb⟩
theorem smV (va vb : Value) (l : List Int) (w : World) (ha : Kn l va w) (hb : Kn l vb w) : Calls Tryd.prog 13 #[va, vb] w fun e w' => e = .returned (.bool true) ∧ Since w w' := by
 obtain ⟨u, rfl, hu⟩ := ha;obtain ⟨t, rfl, ht⟩ := hb;exact smC u t l w hu ht
theorem sfC (v v2 : Value) (xs : List Tr) (w : World) (hv : Rl xs v w) (hv2 : Rl xs v2 w) : Calls Tryd.prog 19 #[v, v2] w fun e w' => e = .returned (.bool true) ∧ Since w w' := by
 obtain ⟨A, n, c, rfl, hln, hn1, hr⟩ := Rl.at hv;clear hv;obtain ⟨A2, n2, c2, rfl, hln2, _, hr2⟩ := Rl.at hv2;clear hv2
 obtain rfl : n = n2 := by rw [← hln]; exact hln2
 have HRX : Hid (∀ X, Since w X → Rd X 3 (.slice A n c) n (fl trc xs)) := fun X h => Rd.below hr h
 have HRY : Hid (∀ X, Since w X → Rd X 3 (.slice A2 n c2) n (fl trc xs)) := fun X h => Rd.below hr2 h
 have HLN := Lib.hid hln;clear hr hr2 hln hln2
 go_enter Tryd.func19, Tryd.ntmps19
 go_upto_region 1 with fail;refine jp ?_;refine jm (.slice A n c) ?_;refine jv (.int .i64 (n : Int)) (exec_lenv Tryd.underlying43 _ (by rfl) A n c (by rfl) _ rfl) ?_;refine jm (.slice A2 n c2) ?_;refine jv (.int .i64 (n : Int)) (exec_lenv Tryd.underlying43 _ (by rfl) A2 n c2 (by rfl) _ rfl) ?_;refine jv (.bool false) (exec_nei _ _ _ _ (by rfl) .i64 (n : Int) (n : Int) (by rfl) (by rfl) false (by rw [decide_eq_true (by omega)]; rfl)) ?_;refine jz fun X1 hX1 => ?_;have hb : Below w.heap.size w X1 := hX1;clear hX1;go_upto_region 3 with fail;refine jp ?_;refine jm (.int .i64 0) ?_;refine jzb hb fun X2 _ hb => ?_
 go_wp2
 go_loopw [5] (fun kv wr => ∃ k : Nat, k ≤ n ∧ kv = .int .i64 (k : Int) ∧ Below w.heap.size w wr) (fun kv _ => n - (intOf kv).toNat)
 case atStart => exact ⟨0, by omega, rfl, hb⟩
 case round =>
  clear hb;obtain ⟨k, hk, rfl, hb⟩ := hrel
  rcases Nat.lt_or_ge k n with hlt | hlt
  ·obtain ⟨b, off, rfl, hbb, hcx⟩ := Rl.xtAt (HRX.out _ hb) HLN.out hlt
   obtain ⟨b2, off2, rfl, hbb2, hcx2⟩ := Rl.xtAt (HRY.out _ hb) HLN.out hlt;obtain ⟨x, x9⟩ : ∃ x, x = xt xs k := ⟨_, rfl⟩;rw [← x9] at hcx hcx2;clear x9;go_upto_region 4 with fail;refine jp ?_;refine jm (.int .i64 (k : Int)) ?_;refine jm (.slice (some ⟨b, off, none⟩) n c) ?_;refine jv (.int .i64 (n : Int)) (exec_lenv Tryd.underlying43 _ (by rfl) (some ⟨b, off, none⟩) n c (by rfl) _ rfl) ?_;refine jv (.bool true) (exec_lss _ _ _ _ (by rfl) .i64 (k : Int) (n : Int) (by rfl) (by rfl) true (decide_eq_true (by omega))) ?_;refine jzb hb fun X1 hX1 hb => ?_;have hcx := hcx.below hX1 hbb;have hcx2 := hcx2.below hX1 hbb2;replace hbb := Nat.lt_of_lt_of_le hbb (hX1).size;replace hbb2 := Nat.lt_of_lt_of_le hbb2 (hX1).size;clear hX1;go_upto_region 6 with fail;refine jd ?_;refine jm (.slice (some ⟨b, off, none⟩) n c) ?_;refine jm (.int .i64 (k : Int)) ?_;refine jv (.pointer (some ⟨b, off + k * 3, none⟩)) (exec_ixv Tryd.underlying43 info_rat _ _ (by rfl) b (off) n c k (by omega) (by rfl) (by rfl) rfl) ?_;refine jg (.agg #[.bool x.1, st x.2.1, st x.2.2]) (fun X hX hF => exec_ldc 38 _ (by rfl) b (off + k * 3) (by rfl) Tryd.underlying38 rfl [.bool x.1, .string ⟨x.2.1.toArray⟩, .string ⟨x.2.2.toArray⟩] X (Cl.part (hcx.below hX hbb) 0 _ (by rfl)) info_rat) ?_;refine jm (.slice (some ⟨b2, off2, none⟩) n c2) ?_;refine jm (.int .i64 (k : Int)) ?_;refine jv (.pointer (some ⟨b2, off2 + k * 3, none⟩)) (exec_ixv Tryd.underlying43 info_rat _ _ (by rfl) b2 (off2) n c2 k (by omega) (by rfl) (by rfl) rfl) ?_
   refine jg (.agg #[.bool x.1, st x.2.1, st x.2.2]) (fun X hX hF => exec_ldc 38 _ (by rfl) b2 (off2 + k * 3) (by rfl) Tryd.underlying38 rfl [.bool x.1, .string ⟨x.2.1.toArray⟩, .string ⟨x.2.2.toArray⟩] X (Cl.part (hcx2.below hX hbb2) 0 _ (by rfl)) info_rat) ?_;refine jv (.bool false) (exec_ner _ _ (by rfl) x.1 x.2.1 x.2.2 x.1 x.2.1 x.2.2 (by rfl) (by rfl) false (by simp)) ?_;refine jzb hb fun X2 hX2 hb => ?_;have hcx := hcx.below hX2 hbb;have hcx2 := hcx2.below hX2 hbb2;replace hbb := Nat.lt_of_lt_of_le hbb (hX2).size;replace hbb2 := Nat.lt_of_lt_of_le hbb2 (hX2).size;clear hX2;go_upto_region 5 with fail;refine jp ?_;refine jm (.int .i64 (k : Int)) ?_;refine jv (.int .i64 ((k + 1 : Nat) : Int)) (exec_add _ _ _ _ (by rfl) (k : Int) 1 ((k + 1 : Nat) : Int) (by rfl) (by rfl) (by omega) (by omega) (by omega)) ?_;refine jm (.int .i64 ((k + 1 : Nat) : Int)) ?_;refine jzb hb fun X3 _ hb => ?_
   go_wp2
   go_roundw
   case rel => exact ⟨k + 1, by omega, rfl, hb⟩
   case measure => simp [intOf]; omega
  ·obtain rfl : k = n := by omega
   go_upto_region 4 with fail;refine jp ?_;refine jm (.int .i64 (k : Int)) ?_;refine jm (.slice A k c) ?_;refine jv (.int .i64 (k : Int)) (exec_lenv Tryd.underlying43 _ (by rfl) A k c (by rfl) _ rfl) ?_;refine jv (.bool false) (exec_lss _ _ _ _ (by rfl) .i64 (k : Int) (k : Int) (by rfl) (by rfl) false (decide_eq_false (by omega))) ?_;refine jzb hb fun X1 _ hb => ?_;go_upto_region 8 with fail;refine jp ?_;refine jm (.bool true) ?_;refine jzb hb fun X2 _ hb => ?_
   go_wp2
   go_ret
   exact ⟨rfl, hb⟩
theorem plAt {P : List Wp} {t : Int} {v : Value} {w : World} (h : Pl P t v w) : ∃ A n c, v = .slice A n c ∧ P.length = n ∧ n ≤ 9223372036854775807 ∧ Rd w 5 (.slice A n c) n (fl (wdc t) P) := by
 have h9 : Rd w 5 v P.length (fl (wdc t) P) := h;have h8 := h9;obtain ⟨hl, A, c, h2, hc, hm, hx⟩ := h9;subst h2;refine ⟨A, P.length, c, rfl, rfl, ?_, h8⟩
 unfold maxLen at hm
 omega
theorem pwIn {w : World} {A : Option Addr} {n c : Nat} {P : List Wp} {t : Int} (h : Rd w 5 (.slice A n c) n (fl (wdc t) P)) (hl : P.length = n) {k : Nat} (hk : k < n) : ∃ b off, A = some ⟨b, off, none⟩ ∧ b < w.heap.size ∧ Cl w b (off + k * 5) (wdc t (pw P k)) := by
 obtain ⟨b, off, x, hA, hb, hc, _, hd⟩ := h.atF (m := 5) (fun x _ => wdc_len t x) (by omega) (k := k) (by omega);have h1 := congrArg (·[0]?) hd.out;rw [pw_in (by omega)]
 have h2 : P[k] = x := by
  have h3 : P[k]? = some x := by simpa [List.getElem?_drop] using h1
  rw [List.getElem?_eq_getElem (by omega)] at h3
  injection h3
 rw [h2];exact ⟨b, off, hA, hb, hc⟩
theorem run_ne_wd (w : World) (a b : Int) (n : Bool) (p q : List UInt8) : (binOp .neq 60 (.agg #[.int .i64 a, .int .i64 b, .bool n, .string ⟨p.toArray⟩, .string ⟨q.toArray⟩]) (.agg #[.int .i64 a, .int .i64 b, .bool n, .string ⟨p.toArray⟩, .string ⟨q.toArray⟩])).run Tryd.prog w = .ok (.bool false) w := by
 go_simp
theorem spC (v v2 : Value) (P : List Wp) (t : Int) (w : World) (hv : Pl P t v w) (hv2 : Pl P t v2 w) : Calls Tryd.prog 31 #[v, v2] w fun e w' => e = .returned (.bool true) ∧ Since w w' := by
 obtain ⟨A, n, c, rfl, hln, hn1, hr⟩ := plAt hv;clear hv;obtain ⟨A2, n2, c2, rfl, hln2, _, hr2⟩ := plAt hv2;clear hv2
 obtain rfl : n = n2 := by rw [← hln]; exact hln2
 have HRX : Hid (∀ X, Since w X → Rd X 5 (.slice A n c) n (fl (wdc t) P)) := fun X h => Rd.below hr h
 have HRY : Hid (∀ X, Since w X → Rd X 5 (.slice A2 n c2) n (fl (wdc t) P)) := fun X h => Rd.below hr2 h
 have HLN := Lib.hid hln;clear hr hr2 hln hln2
 go_enter Tryd.func31, Tryd.ntmps31
 go_upto_region 1 with fail;refine jp ?_;refine jm (.slice A n c) ?_;refine jv (.int .i64 (n : Int)) (exec_lenv Tryd.underlying56 _ (by rfl) A n c (by rfl) _ rfl) ?_;refine jm (.slice A2 n c2) ?_;refine jv (.int .i64 (n : Int)) (exec_lenv Tryd.underlying56 _ (by rfl) A2 n c2 (by rfl) _ rfl) ?_;refine jv (.bool false) (exec_nei _ _ _ _ (by rfl) .i64 (n : Int) (n : Int) (by rfl) (by rfl) false (by rw [decide_eq_true (by omega)]; rfl)) ?_;refine jz fun X1 hX1 => ?_;have hb : Below w.heap.size w X1 := hX1;clear hX1;go_upto_region 3 with fail;refine jp ?_;refine jm (.int .i64 0) ?_;refine jzb hb fun X2 _ hb => ?_
 go_wp2
 go_loopw [5] (fun kv wr => ∃ k : Nat, k ≤ n ∧ kv = .int .i64 (k : Int) ∧ Below w.heap.size w wr) (fun kv _ => n - (intOf kv).toNat)
 case atStart => exact ⟨0, by omega, rfl, hb⟩
 case round =>
  clear hb;obtain ⟨k, hk, rfl, hb⟩ := hrel
  rcases Nat.lt_or_ge k n with hlt | hlt
  ·obtain ⟨b, off, rfl, hbb, hcx⟩ := pwIn (HRX.out _ hb) HLN.out hlt
   obtain ⟨b2, off2, rfl, hbb2, hcx2⟩ := pwIn (HRY.out _ hb) HLN.out hlt;obtain ⟨x, x9⟩ : ∃ x, x = pw P k := ⟨_, rfl⟩;rw [← x9] at hcx hcx2;clear x9;go_upto_region 4 with fail;refine jp ?_;refine jm (.int .i64 (k : Int)) ?_;refine jm (.slice (some ⟨b, off, none⟩) n c) ?_;refine jv (.int .i64 (n : Int)) (exec_lenv Tryd.underlying56 _ (by rfl) (some ⟨b, off, none⟩) n c (by rfl) _ rfl) ?_;refine jv (.bool true) (exec_lss _ _ _ _ (by rfl) .i64 (k : Int) (n : Int) (by rfl) (by rfl) true (decide_eq_true (by omega))) ?_;refine jzb hb fun X1 hX1 hb => ?_;have hcx := hcx.below hX1 hbb;have hcx2 := hcx2.below hX1 hbb2;replace hbb := Nat.lt_of_lt_of_le hbb (hX1).size;replace hbb2 := Nat.lt_of_lt_of_le hbb2 (hX1).size;clear hX1;go_upto_region 6 with fail;refine jd ?_;refine jm (.slice (some ⟨b, off, none⟩) n c) ?_;refine jm (.int .i64 (k : Int)) ?_;refine jv (.pointer (some ⟨b, off + k * 5, none⟩)) (exec_ixv Tryd.underlying56 info_wd _ _ (by rfl) b (off) n c k (by omega) (by rfl) (by rfl) rfl) ?_;refine jg (.agg #[.int .i64 (x.1 : Int), .int .i64 (x.2.1 : Int), .bool (rN (rk x.2.2 t)), st (rP (rk x.2.2 t)), st (rD (rk x.2.2 t))]) (fun X hX hF => exec_ldc 60 _ (by rfl) b (off + k * 5) (by rfl) Tryd.underlying60 rfl [.int .i64 (x.1 : Int), .int .i64 (x.2.1 : Int), .bool (rN (rk x.2.2 t)), .string ⟨(rP (rk x.2.2 t)).toArray⟩, .string ⟨(rD (rk x.2.2 t)).toArray⟩] X (Cl.part (hcx.below hX hbb) 0 _ (by rfl)) info_wd) ?_;refine jm (.slice (some ⟨b2, off2, none⟩) n c2) ?_;refine jm (.int .i64 (k : Int)) ?_
   refine jv (.pointer (some ⟨b2, off2 + k * 5, none⟩)) (exec_ixv Tryd.underlying56 info_wd _ _ (by rfl) b2 (off2) n c2 k (by omega) (by rfl) (by rfl) rfl) ?_;refine jg (.agg #[.int .i64 (x.1 : Int), .int .i64 (x.2.1 : Int), .bool (rN (rk x.2.2 t)), st (rP (rk x.2.2 t)), st (rD (rk x.2.2 t))]) (fun X hX hF => exec_ldc 60 _ (by rfl) b2 (off2 + k * 5) (by rfl) Tryd.underlying60 rfl [.int .i64 (x.1 : Int), .int .i64 (x.2.1 : Int), .bool (rN (rk x.2.2 t)), .string ⟨(rP (rk x.2.2 t)).toArray⟩, .string ⟨(rD (rk x.2.2 t)).toArray⟩] X (Cl.part (hcx2.below hX hbb2) 0 _ (by rfl)) info_wd) ?_;refine jv (.bool false) (fun X => exec_cmp_agg .neq 60 60 _ _ (by rfl) _ _ (by rfl) (by rfl) (by kernel_rfl) _ X (run_ne_wd X _ _ _ _ _)) ?_;refine jzb hb fun X2 hX2 hb => ?_;have hcx := hcx.below hX2 hbb;have hcx2 := hcx2.below hX2 hbb2;replace hbb := Nat.lt_of_lt_of_le hbb (hX2).size;replace hbb2 := Nat.lt_of_lt_of_le hbb2 (hX2).size;clear hX2;go_upto_region 5 with fail;refine jp ?_;refine jm (.int .i64 (k : Int)) ?_;refine jv (.int .i64 ((k + 1 : Nat) : Int)) (exec_add _ _ _ _ (by rfl) (k : Int) 1 ((k + 1 : Nat) : Int) (by rfl) (by rfl) (by omega) (by omega) (by omega)) ?_;refine jm (.int .i64 ((k + 1 : Nat) : Int)) ?_;refine jzb hb fun X3 _ hb => ?_
   go_wp2
   go_roundw
   case rel => exact ⟨k + 1, by omega, rfl, hb⟩
   case measure => simp [intOf]; omega
  ·obtain rfl : k = n := by omega
   go_upto_region 4 with fail;refine jp ?_;refine jm (.int .i64 (k : Int)) ?_;refine jm (.slice A k c) ?_;refine jv (.int .i64 (k : Int)) (exec_lenv Tryd.underlying56 _ (by rfl) A k c (by rfl) _ rfl) ?_;refine jv (.bool false) (exec_lss _ _ _ _ (by rfl) .i64 (k : Int) (k : Int) (by rfl) (by rfl) false (decide_eq_false (by omega))) ?_;refine jzb hb fun X1 _ hb => ?_;go_upto_region 8 with fail;refine jp ?_;refine jm (.bool true) ?_;refine jzb hb fun X2 _ hb => ?_
   go_wp2
   go_ret
   exact ⟨rfl, hb⟩
end Go.Proofs.YtcpedbpldgndmaaDoor
