/-
  law 44: of, entry, is, Few, few, SameRats, Equal.
-/
import Derived.Test.YtffgfkcljcollaaDoorBg
import Derived.Test.YtffgfkcljcollaaDoorBh
import Derived.Test.YtffgfkcljcollaaDoorBb
set_option linter.unusedSimpArgs false
set_option linter.unusedVariables false
set_option maxRecDepth 100000
set_option maxHeartbeats 1600000
namespace Go.Proofs.YtffgfkcljcollaaDoor
open Go.RowKit
def fewB (l : List En) (m : Nat) : Bool := !((decide (m < l.length) && decide (l.length ≤ 4000)) || decide (4002 < l.length)) && l.all fun x => few x.am.2.1 x.am.2.2 12
theorem fewB_t {l : List En} {m : Nat} (h : fewB l m = true) : ∀ k, tz (en l k).am.2.1 (en l k).am.2.2 12 := fun k => by
 unfold fewB at h
 rw [Bool.and_eq_true] at h
 rcases Nat.lt_or_ge k l.length with h1 | h1
 ·have h2 := List.all_eq_true.1 h.2 _ (List.getElem_mem h1)
  rw [en_in h1]
  unfold few at h2
  rw [Bool.and_eq_true] at h2;exact ⟨of_decide_eq_true h2.1, of_decide_eq_true h2.2⟩
 ·unfold en
  rw [List.getD_eq_getElem?_getD, List.getElem?_eq_none h1];exact tz_nil
theorem fewB_0 {l : List En} {m : Nat} (h : (m < l.length ∧ l.length ≤ 4000) ∨ 4002 < l.length) : fewB l m = false := by
 unfold fewB
 have h9 : ((decide (m < l.length) && decide (l.length ≤ 4000)) || decide (4002 < l.length)) = true := by
  rw [Bool.or_eq_true, Bool.and_eq_true, decide_eq_true_eq, decide_eq_true_eq, decide_eq_true_eq];exact h
 rw [h9]
 rfl
theorem fewB_1 {l : List En} {m : Nat} (h : ¬ ((m < l.length ∧ l.length ≤ 4000) ∨ 4002 < l.length)) : fewB l m = l.all fun x => few x.am.2.1 x.am.2.2 12 := by
 unfold fewB
 have h9 : ((decide (m < l.length) && decide (l.length ≤ 4000)) || decide (4002 < l.length)) = false := by
  rw [Bool.eq_false_iff];rw [ne_eq, Bool.or_eq_true, Bool.and_eq_true, decide_eq_true_eq, decide_eq_true_eq, decide_eq_true_eq];exact h
 rw [h9]
 rfl
theorem of44 (x t : Int) (w : World) (hx : insB x = true) (ht : insB t = true) (h0 : t ≠ 0) : Calls Tryd.prog 22 #[.int .i64 x, .int .i64 t] w fun e w' => e = .returned (rbv (rk x t)) ∧ Since w w' := by
 go_enter Tryd.func22, Tryd.ntmps22
 go_upto_region 1 with fail;obtain ⟨W0, hW0, hB0, hb⟩ := start1 w 30 [.bool false, .string ⟨#[]⟩, .string ⟨#[]⟩];rw [← hW0];clear hW0;refine jq 6 ?_;refine jm (.int .i64 x) ?_;refine jm (.int .i64 t) ?_;refine jc (.tuple #[rt (rN (rk x t)) (rP (rk x t)) (rD (rk x t)), .int .i64 0]) (fun X hX hF => makeC x t X hx ht h0) ?_;refine jm (.tuple #[rt (rN (rk x t)) (rP (rk x t)) (rD (rk x t)), .int .i64 0]) ?_;refine jm (rt (rN (rk x t)) (rP (rk x t)) (rD (rk x t))) ?_;refine jm (.int .i64 0) ?_;refine jzb hb fun X1 hX1 hb => ?_;replace hB0 := hB0.bel hX1;clear hX1;go_upto_region 2 with (refine osn 30 5 11 #[.bool (rN (rk x t)), .string ⟨(rP (rk x t)).toArray⟩, .string ⟨(rD (rk x t)).toArray⟩] info_rat ?_);obtain ⟨Y1, hY9, hD5, hS9⟩ := start1 X1 30 [.bool (rN (rk x t)), .string ⟨(rP (rk x t)).toArray⟩, .string ⟨(rD (rk x t)).toArray⟩];rw [← hY9];clear hY9;have hgs5 := hb.size;have hlt5x0 := hB0.lt;have hB0 := hB0.bel hS9;have hb := bel_next hb hS9;clear hS9;generalize X1.heap.size = g5 at *;refine jq 1 ?_;refine ja hD5 Tryd.underlying30 (by rfl) info_rat ?_;refine jzb hb fun X2 hX2 hb => ?_;replace hB0 := hB0.bel hX2;replace hD5 := hD5.bel hX2;clear hX2;refine osb 30 4 13 w.heap.size 30 hB0 [.bool (rN (rk x t)), .string ⟨(rP (rk x t)).toArray⟩, .string ⟨(rD (rk x t)).toArray⟩] info_rat ?_;intro w9 hR9 hO9 hB9 hs9;have hb9 := hB9 _ _ hb (by omega);clear hO9 hB9
 go_wp2
 refine post_cell rfl rfl (by rfl) Tryd.underlying30 rfl hR9 info_rat ⟨rfl, hb9⟩
theorem ent44 (day deb cre kd : Int) (g : Bool) (nn dd : List UInt8) (w : World) : Calls Tryd.prog 20 #[.int .i64 day, .int .i64 deb, .int .i64 cre, .agg #[.bool g, .string ⟨nn.toArray⟩, .string ⟨dd.toArray⟩], .int .i64 kd] w fun e w' => e = .returned (.agg #[.int .i64 day, .int .i64 deb, .int .i64 cre, .bool g, .string ⟨nn.toArray⟩, .string ⟨dd.toArray⟩, .int .i64 kd, .int .i64 2, .int .i64 (-1), .int .i64 0, .int .i64 0, .int .i64 0, .int .i64 0]) ∧ Since w w' := by
 go_enter Tryd.func20, Tryd.ntmps20
 go_upto_region 1 with fail;obtain ⟨W0, hW0, hB0, hB1, hb⟩ := start2 w 30 36 [.bool g, .string ⟨nn.toArray⟩, .string ⟨dd.toArray⟩] [.int .i64 0, .int .i64 0, .int .i64 0, .bool false, .string ⟨#[]⟩, .string ⟨#[]⟩, .int .i64 0, .int .i64 0, .int .i64 0, .int .i64 0, .int .i64 0, .int .i64 0, .int .i64 0];rw [← hW0];clear hW0;refine jq 7 ?_;refine jm (.int .i64 day) ?_;refine jm (.int .i64 deb) ?_;refine jm (.int .i64 cre) ?_;refine ja hB0 Tryd.underlying30 (by rfl) info_rat ?_;refine jm (.int .i64 kd) ?_;refine jn (.agg #[.int .i64 kd, .int .i64 2, .int .i64 (-1), .int .i64 0, .int .i64 0, .int .i64 0, .int .i64 0]) ?_;refine jn (.agg #[.int .i64 day, .int .i64 deb, .int .i64 cre, .bool g, st nn, st dd, .int .i64 kd, .int .i64 2, .int .i64 (-1), .int .i64 0, .int .i64 0, .int .i64 0, .int .i64 0]) ?_;refine jzb hb fun X1 hX1 hb => ?_;replace hB0 := hB0.bel hX1;replace hB1 := hB1.bel hX1;clear hX1;refine osb 36 10 17 (w.heap.size + 1) 36 hB1 [.int .i64 day, .int .i64 deb, .int .i64 cre, .bool g, .string ⟨nn.toArray⟩, .string ⟨dd.toArray⟩, .int .i64 kd, .int .i64 2, .int .i64 (-1), .int .i64 0, .int .i64 0, .int .i64 0, .int .i64 0] info_en ?_;intro w9 hR9 hO9 hB9 hs9;have hb9 := hB9 _ _ hb (by omega);clear hO9 hB9
 go_wp2
 refine post_cell rfl rfl (by rfl) Tryd.underlying36 rfl hR9 info_en ⟨rfl, hb9⟩
theorem is44 (c : Int) (v : Value) (l : List En) (a day : Int) (y : Rat) (w : World) (hv : Es l v w) (hs1 : Hid (∀ k, tz (en l k).am.2.1 (en l k).am.2.2 100)) (hE : Hid (blE c l a day = 0)) (hV : Hid (blV c l a day = y)) : Calls Tryd.prog 26 #[.agg #[.int .i64 c, v], .int .i64 a, .int .i64 day, rbv y] w fun e w' => e = .returned (.bool true) ∧ Since w w' := by
 obtain ⟨A, n, cp, rfl, hln, hn1, hr⟩ := hv.at;clear hv
 have HRX : Hid (∀ X, Since w X → Rd X 13 (.slice A n cp) n (fl enc l)) := fun X h => hr.below h
 have HLN := Lib.hid hln;clear hr
 have HES : Hid (∀ X, Since w X → Es l (.slice A n cp) X) := fun X h => by show Rd X 13 _ l.length _; rw [HLN.out]; exact HRX.out X h
 go_enter Tryd.func26, Tryd.ntmps26
 go_upto_region 1 with fail;obtain ⟨W0, hW0, hB0, hB1, hb⟩ := start2 w 26 30 [.int .i64 c, .slice A n cp] [.bool (rN y), .string ⟨(rP y).toArray⟩, .string ⟨(rD y).toArray⟩];rw [← hW0];clear hW0;refine jq 7 ?_;refine ja hB0 Tryd.underlying26 (by rfl) info_ac ?_;refine jm (.int .i64 a) ?_;refine jm (.int .i64 day) ?_;refine jc (.tuple #[rt (rN y) (rP y) (rD y), .int .i64 0]) (fun X hX hF => mo (blcC c _ l a day X (HES.out X (Since.next hb hX)) hs1) (by rw [hE.out, hV.out])) ?_;refine jm (.tuple #[rt (rN y) (rP y) (rD y), .int .i64 0]) ?_;refine jm (rt (rN y) (rP y) (rD y)) ?_;refine jm (.int .i64 0) ?_;refine jzb hb fun X1 hX1 hb => ?_;replace hB0 := hB0.bel hX1;replace hB1 := hB1.bel hX1;clear hX1;go_upto_region 2 with (refine osn 30 9 16 #[.bool (rN y), .string ⟨(rP y).toArray⟩, .string ⟨(rD y).toArray⟩] info_rat ?_);obtain ⟨Y1, hY9, hD9, hS9⟩ := start1 X1 30 [.bool (rN y), .string ⟨(rP y).toArray⟩, .string ⟨(rD y).toArray⟩];rw [← hY9];clear hY9;have hgs9 := hb.size;have hlt9x0 := hB0.lt;have hlt9x1 := hB1.lt;have hB0 := hB0.bel hS9;have hB1 := hB1.bel hS9;have hb := bel_next hb hS9;clear hS9;generalize X1.heap.size = g9 at *;go_upto_region 2 with fail;refine jp ?_;refine jm (.int .i64 0) ?_;refine jv (.bool true) (exec_eqi _ _ _ _ (by rfl) .i64 0 0 (by rfl) (by rfl) true (decide_eq_true (by omega))) ?_;refine jm (.bool true) ?_;refine ja hD9 Tryd.underlying30 (by rfl) info_rat ?_;refine ja hB1 Tryd.underlying30 (by rfl) info_rat ?_;refine jv (.bool true) (exec_eqr _ _ (by rfl) (rN y) (rP y) (rD y) (rN y) (rP y) (rD y) (by rfl) (by rfl) true (rb_eqt rfl)) ?_
 refine jm (.bool true) ?_;refine jm (.bool true) ?_;refine jzb hb fun X2 hX2 hb => ?_;replace hB0 := hB0.bel hX2;replace hB1 := hB1.bel hX2;replace hD9 := hD9.bel hX2;clear hX2
 go_wp2
 go_ret
 exact ⟨rfl, hb⟩
theorem fwb0 (c : Int) (v : Value) (l : List En) (m : Nat) (w : World) (hv : Es l v w) (hm : m ≤ 3000) (h : m < l.length ∧ l.length ≤ 4000) : Calls Tryd.prog 8 #[.agg #[.int .i64 c, v], .int .i64 (m : Int)] w fun e w' => e = .returned (.bool (fewB l m)) ∧ Since w w' := by
 have HC : Hid (fewB l m = false) := fewB_0 (.inl h);obtain ⟨A, n, cp, rfl, hln, hn1, hr⟩ := hv.at;clear hv
 have HRX : Hid (∀ X, Since w X → Rd X 13 (.slice A n cp) n (fl enc l)) := fun X h => hr.below h
 have HLN := Lib.hid hln;clear hr
 have HES : Hid (∀ X, Since w X → Es l (.slice A n cp) X) := fun X h => by show Rd X 13 _ l.length _; rw [HLN.out]; exact HRX.out X h
 go_enter Tryd.func8, Tryd.ntmps8
 go_upto_region 1 with fail;obtain ⟨W0, hW0, hB0, hb⟩ := start1 w 26 [.int .i64 c, .slice A n cp];rw [← hW0];clear hW0;rw [hln] at h;refine jp ?_;refine jn (.pointer (some ⟨w.heap.size, 1, none⟩)) ?_;refine jf (.slice A n cp) hB0 1 load_ens ?_;refine jv (.int .i64 (n : Int)) (exec_lenv Tryd.underlying22 _ (by rfl) A n cp (by rfl) _ rfl) ?_;refine jm (.int .i64 (m : Int)) ?_;refine jv (.bool true) (exec_gtr _ _ _ _ (by rfl) .i64 (n : Int) (m : Int) (by rfl) (by rfl) true (decide_eq_true (by omega))) ?_;refine jm (.bool true) ?_;refine jn (.pointer (some ⟨w.heap.size, 1, none⟩)) ?_;refine jf (.slice A n cp) hB0 1 load_ens ?_;refine jv (.int .i64 (n : Int)) (exec_lenv Tryd.underlying22 _ (by rfl) A n cp (by rfl) _ rfl) ?_;refine jv (.bool true) (exec_leq _ _ _ _ (by rfl) .i64 (n : Int) 4000 (by rfl) (by rfl) true (decide_eq_true (by omega))) ?_;refine jm (.bool true) ?_;refine jm (.bool true) ?_;refine js ?_;refine js ?_;refine js ?_;refine js ?_;refine jm (.bool true) ?_;refine jzb hb fun X1 hX1 hb => ?_;replace hB0 := hB0.bel hX1;clear hX1;go_upto_region 2 with fail;refine jp ?_;refine jm (.bool false) ?_;refine jzb hb fun X2 hX2 hb => ?_;replace hB0 := hB0.bel hX2;clear hX2
 go_wp2
 go_ret
 exact ⟨by rw [HC.out]; rfl, hb⟩
theorem fwb1 (c : Int) (v : Value) (l : List En) (m : Nat) (w : World) (hv : Es l v w) (hm : m ≤ 3000) (h : 4002 < l.length) : Calls Tryd.prog 8 #[.agg #[.int .i64 c, v], .int .i64 (m : Int)] w fun e w' => e = .returned (.bool (fewB l m)) ∧ Since w w' := by
 have HC : Hid (fewB l m = false) := fewB_0 (.inr h);obtain ⟨A, n, cp, rfl, hln, hn1, hr⟩ := hv.at;clear hv
 have HRX : Hid (∀ X, Since w X → Rd X 13 (.slice A n cp) n (fl enc l)) := fun X h => hr.below h
 have HLN := Lib.hid hln;clear hr
 have HES : Hid (∀ X, Since w X → Es l (.slice A n cp) X) := fun X h => by show Rd X 13 _ l.length _; rw [HLN.out]; exact HRX.out X h
 go_enter Tryd.func8, Tryd.ntmps8
 go_upto_region 1 with fail;obtain ⟨W0, hW0, hB0, hb⟩ := start1 w 26 [.int .i64 c, .slice A n cp];rw [← hW0];clear hW0;rw [hln] at h;refine jp ?_;refine jn (.pointer (some ⟨w.heap.size, 1, none⟩)) ?_;refine jf (.slice A n cp) hB0 1 load_ens ?_;refine jv (.int .i64 (n : Int)) (exec_lenv Tryd.underlying22 _ (by rfl) A n cp (by rfl) _ rfl) ?_;refine jm (.int .i64 (m : Int)) ?_;refine jv (.bool true) (exec_gtr _ _ _ _ (by rfl) .i64 (n : Int) (m : Int) (by rfl) (by rfl) true (decide_eq_true (by omega))) ?_;refine jm (.bool true) ?_;refine jn (.pointer (some ⟨w.heap.size, 1, none⟩)) ?_;refine jf (.slice A n cp) hB0 1 load_ens ?_;refine jv (.int .i64 (n : Int)) (exec_lenv Tryd.underlying22 _ (by rfl) A n cp (by rfl) _ rfl) ?_;refine jv (.bool false) (exec_leq _ _ _ _ (by rfl) .i64 (n : Int) 4000 (by rfl) (by rfl) false (decide_eq_false (by omega))) ?_;refine jm (.bool false) ?_;refine jm (.bool false) ?_;refine jn (.pointer (some ⟨w.heap.size, 1, none⟩)) ?_;refine jf (.slice A n cp) hB0 1 load_ens ?_;refine jv (.int .i64 (n : Int)) (exec_lenv Tryd.underlying22 _ (by rfl) A n cp (by rfl) _ rfl) ?_;refine jv (.bool true) (exec_gtr _ _ _ _ (by rfl) .i64 (n : Int) 4002 (by rfl) (by rfl) true (decide_eq_true (by omega))) ?_;refine jm (.bool true) ?_;refine jzb hb fun X1 hX1 hb => ?_;replace hB0 := hB0.bel hX1;clear hX1;go_upto_region 2 with fail;refine jp ?_;refine jm (.bool false) ?_;refine jzb hb fun X2 hX2 hb => ?_;replace hB0 := hB0.bel hX2;clear hX2
 go_wp2
 go_ret
 exact ⟨by rw [HC.out]; rfl, hb⟩
theorem fwb2 (c : Int) (v : Value) (l : List En) (m : Nat) (w : World) (hv : Es l v w) (hm : m ≤ 3000) (h : l.length ≤ m) : Calls Tryd.prog 8 #[.agg #[.int .i64 c, v], .int .i64 (m : Int)] w fun e w' => e = .returned (.bool (fewB l m)) ∧ Since w w' := by
 have HC : Hid (fewB l m = l.all fun x => few x.am.2.1 x.am.2.2 12) := fewB_1 (by omega);obtain ⟨A, n, cp, rfl, hln, hn1, hr⟩ := hv.at;clear hv
 have HRX : Hid (∀ X, Since w X → Rd X 13 (.slice A n cp) n (fl enc l)) := fun X h => hr.below h
 have HLN := Lib.hid hln;clear hr
 have HES : Hid (∀ X, Since w X → Es l (.slice A n cp) X) := fun X h => by show Rd X 13 _ l.length _; rw [HLN.out]; exact HRX.out X h
 go_enter Tryd.func8, Tryd.ntmps8
 go_upto_region 1 with fail;obtain ⟨W0, hW0, hB0, hb⟩ := start1 w 26 [.int .i64 c, .slice A n cp];rw [← hW0];clear hW0;rw [hln] at h;refine jp ?_;refine jn (.pointer (some ⟨w.heap.size, 1, none⟩)) ?_;refine jf (.slice A n cp) hB0 1 load_ens ?_;refine jv (.int .i64 (n : Int)) (exec_lenv Tryd.underlying22 _ (by rfl) A n cp (by rfl) _ rfl) ?_;refine jm (.int .i64 (m : Int)) ?_;refine jv (.bool false) (exec_gtr _ _ _ _ (by rfl) .i64 (n : Int) (m : Int) (by rfl) (by rfl) false (decide_eq_false (by omega))) ?_;refine jm (.bool false) ?_;refine js ?_;refine js ?_;refine js ?_;refine js ?_;refine jm (.bool false) ?_;refine jm (.bool false) ?_;refine jn (.pointer (some ⟨w.heap.size, 1, none⟩)) ?_;refine jf (.slice A n cp) hB0 1 load_ens ?_;refine jv (.int .i64 (n : Int)) (exec_lenv Tryd.underlying22 _ (by rfl) A n cp (by rfl) _ rfl) ?_;refine jv (.bool false) (exec_gtr _ _ _ _ (by rfl) .i64 (n : Int) 4002 (by rfl) (by rfl) false (decide_eq_false (by omega))) ?_;refine jm (.bool false) ?_;refine jzb hb fun X1 hX1 hb => ?_;replace hB0 := hB0.bel hX1;clear hX1;go_upto_region 3 with fail;refine jp ?_;refine jm (.int .i64 0) ?_;refine jzb hb fun X2 hX2 hb => ?_;replace hB0 := hB0.bel hX2;clear hX2
 go_wp2
 go_loopw [5] (fun kv wr => ∃ k : Nat, k ≤ n ∧ kv = .int .i64 (k : Int) ∧ Hid (∀ j, j < k → few (en l j).am.2.1 (en l j).am.2.2 12 = true) ∧ Blk wr w.heap.size 26 [.int .i64 c, .slice A n cp] ∧ Below w.heap.size w wr) (fun kv _ => n - (intOf kv).toNat)
 case atStart => exact ⟨0, by omega, rfl, (fun j hj => by omega), hB0, hb⟩
 case round =>
  clear hb hB0;obtain ⟨k, hk, rfl, HZ, hB0, hb⟩ := hrel
  rcases Nat.lt_or_ge k n with hlt | hlt
  ·obtain ⟨b, off, rfl, hbb, hcx⟩ := enAt (HRX.out _ hb) HLN.out hlt
   obtain ⟨x, x9⟩ : ∃ x, x = en l k := ⟨_, rfl⟩;have HX := Lib.hid x9;clear x9;rw [← HX.out] at hcx
   change Cl wr b (off + k * 13) [.int .i64 x.day, .int .i64 x.deb, .int .i64 x.cre, .bool x.am.1, .string ⟨x.am.2.1.toArray⟩, .string ⟨x.am.2.2.toArray⟩, .int .i64 x.kd, .int .i64 x.pd, .int .i64 x.rf, .int .i64 x.w1, .int .i64 x.w2, .int .i64 x.w3, .int .i64 x.w4] at hcx
   obtain ⟨q1, q1e⟩ : ∃ z, z = x.am.2.1.length := ⟨_, rfl⟩;obtain ⟨q2, q2e⟩ : ∃ z, z = x.am.2.2.length := ⟨_, rfl⟩;have HQ1 := Lib.hid q1e;have HQ2 := Lib.hid q2e;clear q1e q2e;go_upto_region 4 with fail;refine jp ?_;refine jm (.int .i64 (k : Int)) ?_;refine jn (.pointer (some ⟨w.heap.size, 1, none⟩)) ?_;refine jf (.slice (some ⟨b, off, none⟩) n cp) hB0 1 load_ens ?_;refine jv (.int .i64 (n : Int)) (exec_lenv Tryd.underlying22 _ (by rfl) (some ⟨b, off, none⟩) n cp (by rfl) _ rfl) ?_;refine jv (.bool true) (exec_lss _ _ _ _ (by rfl) .i64 (k : Int) (n : Int) (by rfl) (by rfl) true (decide_eq_true (by omega))) ?_;refine jzb hb fun X1 hX1 hb => ?_;replace hB0 := hB0.bel hX1;have hcx := hcx.below hX1 hbb;replace hbb := Nat.lt_of_lt_of_le hbb (hX1).size;clear hX1
   rcases (show 12 < q1 ∨ (q1 ≤ 12 ∧ 12 < q2) ∨ (q1 ≤ 12 ∧ q2 ≤ 12) by omega) with hq | hq | hq
   ·have HF : Hid (few x.am.2.1 x.am.2.2 12 = false) := by
     show _ = _
     unfold few
     rw [← HQ1.out, ← HQ2.out];rw [Bool.and_eq_false_iff]
     first
      | exact .inl (decide_eq_false (by omega))
      | exact .inr (decide_eq_false (by omega))
    have HN : Hid (fewB l m = false) := by
     show _ = _
     rw [HC.out, Bool.eq_false_iff];intro h8;have h7 := List.all_eq_true.1 h8 _ (List.getElem_mem (show k < l.length by rw [HLN.out]; exact hlt));rw [← en_in, ← HX.out, HF.out] at h7
     cases h7
    go_upto_region 6 with fail;refine jp ?_;refine jn (.pointer (some ⟨w.heap.size, 1, none⟩)) ?_;refine jf (.slice (some ⟨b, off, none⟩) n cp) hB0 1 load_ens ?_;refine jm (.int .i64 (k : Int)) ?_;refine jv (.pointer (some ⟨b, off + k * 13, none⟩)) (exec_ixv Tryd.underlying22 info_en _ _ (by rfl) b (off) n cp k (by omega) (by rfl) (by rfl) rfl) ?_;refine jn (.pointer (some ⟨b, off + k * 13 + 3, none⟩)) ?_;refine jn (.pointer (some ⟨b, off + k * 13 + 4, none⟩)) ?_;refine jg (st x.am.2.1) (fun X hX hF => exec_ld 9 _ (by rfl) b (off + k * 13 + 4) (by rfl) _ X ((hcx.below hX hbb) 4 _ rfl) (fun X u h => load_str b (off + k * 13 + 4) X u h)) ?_;refine jv (.int .i64 (q1 : Int)) (fun X => by rw [HQ1.out]; exact exec_lens Tryd.underlying9 _ (by rfl) x.am.2.1 (by rfl) _ rfl X) ?_;refine jv (.bool true) (exec_gtr _ _ _ _ (by rfl) .i64 (q1 : Int) 12 (by rfl) (by rfl) true (decide_eq_true (by omega))) ?_;refine jm (.bool true) ?_;refine js ?_;refine js ?_;refine js ?_;refine js ?_;refine js ?_;refine js ?_;refine js ?_;refine js ?_;refine js ?_;refine jm (.bool true) ?_;refine jzb hb fun X2 hX2 hb => ?_;replace hB0 := hB0.bel hX2;have hcx := hcx.below hX2 hbb;replace hbb := Nat.lt_of_lt_of_le hbb (hX2).size;clear hX2;go_upto_region 7 with fail;refine jp ?_;refine jm (.bool false) ?_;refine jzb hb fun X3 hX3 hb => ?_;replace hB0 := hB0.bel hX3;clear hX3
    go_wp2
    go_ret
    exact ⟨by rw [HN.out]; rfl, hb⟩
   ·have HF : Hid (few x.am.2.1 x.am.2.2 12 = false) := by
     show _ = _
     unfold few
     rw [← HQ1.out, ← HQ2.out];rw [Bool.and_eq_false_iff]
     first
      | exact .inl (decide_eq_false (by omega))
      | exact .inr (decide_eq_false (by omega))
    have HN : Hid (fewB l m = false) := by
     show _ = _
     rw [HC.out, Bool.eq_false_iff];intro h8;have h7 := List.all_eq_true.1 h8 _ (List.getElem_mem (show k < l.length by rw [HLN.out]; exact hlt));rw [← en_in, ← HX.out, HF.out] at h7
     cases h7
    go_upto_region 6 with fail;refine jp ?_;refine jn (.pointer (some ⟨w.heap.size, 1, none⟩)) ?_;refine jf (.slice (some ⟨b, off, none⟩) n cp) hB0 1 load_ens ?_;refine jm (.int .i64 (k : Int)) ?_;refine jv (.pointer (some ⟨b, off + k * 13, none⟩)) (exec_ixv Tryd.underlying22 info_en _ _ (by rfl) b (off) n cp k (by omega) (by rfl) (by rfl) rfl) ?_;refine jn (.pointer (some ⟨b, off + k * 13 + 3, none⟩)) ?_;refine jn (.pointer (some ⟨b, off + k * 13 + 4, none⟩)) ?_;refine jg (st x.am.2.1) (fun X hX hF => exec_ld 9 _ (by rfl) b (off + k * 13 + 4) (by rfl) _ X ((hcx.below hX hbb) 4 _ rfl) (fun X u h => load_str b (off + k * 13 + 4) X u h)) ?_;refine jv (.int .i64 (q1 : Int)) (fun X => by rw [HQ1.out]; exact exec_lens Tryd.underlying9 _ (by rfl) x.am.2.1 (by rfl) _ rfl X) ?_;refine jv (.bool false) (exec_gtr _ _ _ _ (by rfl) .i64 (q1 : Int) 12 (by rfl) (by rfl) false (decide_eq_false (by omega))) ?_;refine jm (.bool false) ?_;refine jn (.pointer (some ⟨w.heap.size, 1, none⟩)) ?_;refine jf (.slice (some ⟨b, off, none⟩) n cp) hB0 1 load_ens ?_;refine jm (.int .i64 (k : Int)) ?_;refine jv (.pointer (some ⟨b, off + k * 13, none⟩)) (exec_ixv Tryd.underlying22 info_en _ _ (by rfl) b (off) n cp k (by omega) (by rfl) (by rfl) rfl) ?_;refine jn (.pointer (some ⟨b, off + k * 13 + 3, none⟩)) ?_;refine jn (.pointer (some ⟨b, off + k * 13 + 5, none⟩)) ?_;refine jg (st x.am.2.2) (fun X hX hF => exec_ld 9 _ (by rfl) b (off + k * 13 + 5) (by rfl) _ X ((hcx.below hX hbb) 5 _ rfl) (fun X u h => load_str b (off + k * 13 + 5) X u h)) ?_
    refine jv (.int .i64 (q2 : Int)) (fun X => by rw [HQ2.out]; exact exec_lens Tryd.underlying9 _ (by rfl) x.am.2.2 (by rfl) _ rfl X) ?_;refine jv (.bool true) (exec_gtr _ _ _ _ (by rfl) .i64 (q2 : Int) 12 (by rfl) (by rfl) true (decide_eq_true (by omega))) ?_;refine jm (.bool true) ?_;refine jzb hb fun X2 hX2 hb => ?_;replace hB0 := hB0.bel hX2;have hcx := hcx.below hX2 hbb;replace hbb := Nat.lt_of_lt_of_le hbb (hX2).size;clear hX2;go_upto_region 7 with fail;refine jp ?_;refine jm (.bool false) ?_;refine jzb hb fun X3 hX3 hb => ?_;replace hB0 := hB0.bel hX3;clear hX3
    go_wp2
    go_ret
    exact ⟨by rw [HN.out]; rfl, hb⟩
   ·have HF : Hid (few x.am.2.1 x.am.2.2 12 = true) := by
     show _ = _
     unfold few
     rw [← HQ1.out, ← HQ2.out, decide_eq_true hq.1, decide_eq_true hq.2]
     rfl
    have HZ2 : Hid (∀ j, j < k + 1 → few (en l j).am.2.1 (en l j).am.2.2 12 = true) := fun j hj => by
     rcases Nat.lt_or_ge j k with h9 | h9
     ·exact HZ.out j h9
     ·rw [show j = k by omega, ← HX.out]; exact HF.out
    go_upto_region 6 with fail;refine jp ?_;refine jn (.pointer (some ⟨w.heap.size, 1, none⟩)) ?_;refine jf (.slice (some ⟨b, off, none⟩) n cp) hB0 1 load_ens ?_;refine jm (.int .i64 (k : Int)) ?_;refine jv (.pointer (some ⟨b, off + k * 13, none⟩)) (exec_ixv Tryd.underlying22 info_en _ _ (by rfl) b (off) n cp k (by omega) (by rfl) (by rfl) rfl) ?_;refine jn (.pointer (some ⟨b, off + k * 13 + 3, none⟩)) ?_;refine jn (.pointer (some ⟨b, off + k * 13 + 4, none⟩)) ?_;refine jg (st x.am.2.1) (fun X hX hF => exec_ld 9 _ (by rfl) b (off + k * 13 + 4) (by rfl) _ X ((hcx.below hX hbb) 4 _ rfl) (fun X u h => load_str b (off + k * 13 + 4) X u h)) ?_;refine jv (.int .i64 (q1 : Int)) (fun X => by rw [HQ1.out]; exact exec_lens Tryd.underlying9 _ (by rfl) x.am.2.1 (by rfl) _ rfl X) ?_;refine jv (.bool false) (exec_gtr _ _ _ _ (by rfl) .i64 (q1 : Int) 12 (by rfl) (by rfl) false (decide_eq_false (by omega))) ?_;refine jm (.bool false) ?_;refine jn (.pointer (some ⟨w.heap.size, 1, none⟩)) ?_;refine jf (.slice (some ⟨b, off, none⟩) n cp) hB0 1 load_ens ?_;refine jm (.int .i64 (k : Int)) ?_;refine jv (.pointer (some ⟨b, off + k * 13, none⟩)) (exec_ixv Tryd.underlying22 info_en _ _ (by rfl) b (off) n cp k (by omega) (by rfl) (by rfl) rfl) ?_;refine jn (.pointer (some ⟨b, off + k * 13 + 3, none⟩)) ?_;refine jn (.pointer (some ⟨b, off + k * 13 + 5, none⟩)) ?_;refine jg (st x.am.2.2) (fun X hX hF => exec_ld 9 _ (by rfl) b (off + k * 13 + 5) (by rfl) _ X ((hcx.below hX hbb) 5 _ rfl) (fun X u h => load_str b (off + k * 13 + 5) X u h)) ?_
    refine jv (.int .i64 (q2 : Int)) (fun X => by rw [HQ2.out]; exact exec_lens Tryd.underlying9 _ (by rfl) x.am.2.2 (by rfl) _ rfl X) ?_;refine jv (.bool false) (exec_gtr _ _ _ _ (by rfl) .i64 (q2 : Int) 12 (by rfl) (by rfl) false (decide_eq_false (by omega))) ?_;refine jm (.bool false) ?_;refine jzb hb fun X2 hX2 hb => ?_;replace hB0 := hB0.bel hX2;have hcx := hcx.below hX2 hbb;replace hbb := Nat.lt_of_lt_of_le hbb (hX2).size;clear hX2;go_upto_region 5 with fail;refine jp ?_;refine jm (.int .i64 (k : Int)) ?_;refine jv (.int .i64 ((k + 1 : Nat) : Int)) (exec_add _ _ _ _ (by rfl) (k : Int) 1 ((k + 1 : Nat) : Int) (by rfl) (by rfl) (by omega) (by omega) (by omega)) ?_;refine jm (.int .i64 ((k + 1 : Nat) : Int)) ?_;refine jzb hb fun X3 hX3 hb => ?_;replace hB0 := hB0.bel hX3;clear hX3
    go_wp2
    go_roundw
    case rel => exact ⟨k + 1, by omega, rfl, HZ2, hB0, hb⟩
    case measure => simp [intOf]; omega
  ·obtain rfl : k = n := by omega
   have HN : Hid (fewB l m = true) := by
    show _ = _
    rw [HC.out];refine List.all_eq_true.2 fun t ht => ?_;obtain ⟨i, hi, rfl⟩ := List.getElem_of_mem ht;rw [← en_in hi];exact HZ.out i (by rw [← HLN.out]; exact hi)
   go_upto_region 4 with fail;refine jp ?_;refine jm (.int .i64 (k : Int)) ?_;refine jn (.pointer (some ⟨w.heap.size, 1, none⟩)) ?_;refine jf (.slice A k cp) hB0 1 load_ens ?_;refine jv (.int .i64 (k : Int)) (exec_lenv Tryd.underlying22 _ (by rfl) A k cp (by rfl) _ rfl) ?_;refine jv (.bool false) (exec_lss _ _ _ _ (by rfl) .i64 (k : Int) (k : Int) (by rfl) (by rfl) false (decide_eq_false (by omega))) ?_;refine jzb hb fun X1 hX1 hb => ?_;replace hB0 := hB0.bel hX1;clear hX1;go_upto_region 8 with fail;refine jp ?_;refine jm (.bool true) ?_;refine jzb hb fun X2 hX2 hb => ?_;replace hB0 := hB0.bel hX2;clear hX2
   go_wp2
   go_ret
   exact ⟨by rw [HN.out]; rfl, hb⟩
theorem fwb3 (c : Int) (v : Value) (l : List En) (m : Nat) (w : World) (hv : Es l v w) (hm : m ≤ 3000) (h : m < l.length ∧ 4000 < l.length ∧ l.length ≤ 4002) : Calls Tryd.prog 8 #[.agg #[.int .i64 c, v], .int .i64 (m : Int)] w fun e w' => e = .returned (.bool (fewB l m)) ∧ Since w w' := by
 have HC : Hid (fewB l m = l.all fun x => few x.am.2.1 x.am.2.2 12) := fewB_1 (by omega);obtain ⟨A, n, cp, rfl, hln, hn1, hr⟩ := hv.at;clear hv
 have HRX : Hid (∀ X, Since w X → Rd X 13 (.slice A n cp) n (fl enc l)) := fun X h => hr.below h
 have HLN := Lib.hid hln;clear hr
 have HES : Hid (∀ X, Since w X → Es l (.slice A n cp) X) := fun X h => by show Rd X 13 _ l.length _; rw [HLN.out]; exact HRX.out X h
 go_enter Tryd.func8, Tryd.ntmps8
 go_upto_region 1 with fail;obtain ⟨W0, hW0, hB0, hb⟩ := start1 w 26 [.int .i64 c, .slice A n cp];rw [← hW0];clear hW0;rw [hln] at h;refine jp ?_;refine jn (.pointer (some ⟨w.heap.size, 1, none⟩)) ?_;refine jf (.slice A n cp) hB0 1 load_ens ?_;refine jv (.int .i64 (n : Int)) (exec_lenv Tryd.underlying22 _ (by rfl) A n cp (by rfl) _ rfl) ?_;refine jm (.int .i64 (m : Int)) ?_;refine jv (.bool true) (exec_gtr _ _ _ _ (by rfl) .i64 (n : Int) (m : Int) (by rfl) (by rfl) true (decide_eq_true (by omega))) ?_;refine jm (.bool true) ?_;refine jn (.pointer (some ⟨w.heap.size, 1, none⟩)) ?_;refine jf (.slice A n cp) hB0 1 load_ens ?_;refine jv (.int .i64 (n : Int)) (exec_lenv Tryd.underlying22 _ (by rfl) A n cp (by rfl) _ rfl) ?_;refine jv (.bool false) (exec_leq _ _ _ _ (by rfl) .i64 (n : Int) 4000 (by rfl) (by rfl) false (decide_eq_false (by omega))) ?_;refine jm (.bool false) ?_;refine jm (.bool false) ?_;refine jn (.pointer (some ⟨w.heap.size, 1, none⟩)) ?_;refine jf (.slice A n cp) hB0 1 load_ens ?_;refine jv (.int .i64 (n : Int)) (exec_lenv Tryd.underlying22 _ (by rfl) A n cp (by rfl) _ rfl) ?_;refine jv (.bool false) (exec_gtr _ _ _ _ (by rfl) .i64 (n : Int) 4002 (by rfl) (by rfl) false (decide_eq_false (by omega))) ?_;refine jm (.bool false) ?_;refine jzb hb fun X1 hX1 hb => ?_;replace hB0 := hB0.bel hX1;clear hX1;go_upto_region 3 with fail;refine jp ?_;refine jm (.int .i64 0) ?_;refine jzb hb fun X2 hX2 hb => ?_;replace hB0 := hB0.bel hX2;clear hX2
 go_wp2
 go_loopw [5] (fun kv wr => ∃ k : Nat, k ≤ n ∧ kv = .int .i64 (k : Int) ∧ Hid (∀ j, j < k → few (en l j).am.2.1 (en l j).am.2.2 12 = true) ∧ Blk wr w.heap.size 26 [.int .i64 c, .slice A n cp] ∧ Below w.heap.size w wr) (fun kv _ => n - (intOf kv).toNat)
 case atStart => exact ⟨0, by omega, rfl, (fun j hj => by omega), hB0, hb⟩
 case round =>
  clear hb hB0;obtain ⟨k, hk, rfl, HZ, hB0, hb⟩ := hrel
  rcases Nat.lt_or_ge k n with hlt | hlt
  ·obtain ⟨b, off, rfl, hbb, hcx⟩ := enAt (HRX.out _ hb) HLN.out hlt
   obtain ⟨x, x9⟩ : ∃ x, x = en l k := ⟨_, rfl⟩;have HX := Lib.hid x9;clear x9;rw [← HX.out] at hcx
   change Cl wr b (off + k * 13) [.int .i64 x.day, .int .i64 x.deb, .int .i64 x.cre, .bool x.am.1, .string ⟨x.am.2.1.toArray⟩, .string ⟨x.am.2.2.toArray⟩, .int .i64 x.kd, .int .i64 x.pd, .int .i64 x.rf, .int .i64 x.w1, .int .i64 x.w2, .int .i64 x.w3, .int .i64 x.w4] at hcx
   obtain ⟨q1, q1e⟩ : ∃ z, z = x.am.2.1.length := ⟨_, rfl⟩;obtain ⟨q2, q2e⟩ : ∃ z, z = x.am.2.2.length := ⟨_, rfl⟩;have HQ1 := Lib.hid q1e;have HQ2 := Lib.hid q2e;clear q1e q2e;go_upto_region 4 with fail;refine jp ?_;refine jm (.int .i64 (k : Int)) ?_;refine jn (.pointer (some ⟨w.heap.size, 1, none⟩)) ?_;refine jf (.slice (some ⟨b, off, none⟩) n cp) hB0 1 load_ens ?_;refine jv (.int .i64 (n : Int)) (exec_lenv Tryd.underlying22 _ (by rfl) (some ⟨b, off, none⟩) n cp (by rfl) _ rfl) ?_;refine jv (.bool true) (exec_lss _ _ _ _ (by rfl) .i64 (k : Int) (n : Int) (by rfl) (by rfl) true (decide_eq_true (by omega))) ?_;refine jzb hb fun X1 hX1 hb => ?_;replace hB0 := hB0.bel hX1;have hcx := hcx.below hX1 hbb;replace hbb := Nat.lt_of_lt_of_le hbb (hX1).size;clear hX1
   rcases (show 12 < q1 ∨ (q1 ≤ 12 ∧ 12 < q2) ∨ (q1 ≤ 12 ∧ q2 ≤ 12) by omega) with hq | hq | hq
   ·have HF : Hid (few x.am.2.1 x.am.2.2 12 = false) := by
     show _ = _
     unfold few
     rw [← HQ1.out, ← HQ2.out];rw [Bool.and_eq_false_iff]
     first
      | exact .inl (decide_eq_false (by omega))
      | exact .inr (decide_eq_false (by omega))
    have HN : Hid (fewB l m = false) := by
     show _ = _
     rw [HC.out, Bool.eq_false_iff];intro h8;have h7 := List.all_eq_true.1 h8 _ (List.getElem_mem (show k < l.length by rw [HLN.out]; exact hlt));rw [← en_in, ← HX.out, HF.out] at h7
     cases h7
    go_upto_region 6 with fail;refine jp ?_;refine jn (.pointer (some ⟨w.heap.size, 1, none⟩)) ?_;refine jf (.slice (some ⟨b, off, none⟩) n cp) hB0 1 load_ens ?_;refine jm (.int .i64 (k : Int)) ?_;refine jv (.pointer (some ⟨b, off + k * 13, none⟩)) (exec_ixv Tryd.underlying22 info_en _ _ (by rfl) b (off) n cp k (by omega) (by rfl) (by rfl) rfl) ?_;refine jn (.pointer (some ⟨b, off + k * 13 + 3, none⟩)) ?_;refine jn (.pointer (some ⟨b, off + k * 13 + 4, none⟩)) ?_;refine jg (st x.am.2.1) (fun X hX hF => exec_ld 9 _ (by rfl) b (off + k * 13 + 4) (by rfl) _ X ((hcx.below hX hbb) 4 _ rfl) (fun X u h => load_str b (off + k * 13 + 4) X u h)) ?_;refine jv (.int .i64 (q1 : Int)) (fun X => by rw [HQ1.out]; exact exec_lens Tryd.underlying9 _ (by rfl) x.am.2.1 (by rfl) _ rfl X) ?_;refine jv (.bool true) (exec_gtr _ _ _ _ (by rfl) .i64 (q1 : Int) 12 (by rfl) (by rfl) true (decide_eq_true (by omega))) ?_;refine jm (.bool true) ?_;refine js ?_;refine js ?_;refine js ?_;refine js ?_;refine js ?_;refine js ?_;refine js ?_;refine js ?_;refine js ?_;refine jm (.bool true) ?_;refine jzb hb fun X2 hX2 hb => ?_;replace hB0 := hB0.bel hX2;have hcx := hcx.below hX2 hbb;replace hbb := Nat.lt_of_lt_of_le hbb (hX2).size;clear hX2;go_upto_region 7 with fail;refine jp ?_;refine jm (.bool false) ?_;refine jzb hb fun X3 hX3 hb => ?_;replace hB0 := hB0.bel hX3;clear hX3
    go_wp2
    go_ret
    exact ⟨by rw [HN.out]; rfl, hb⟩
   ·have HF : Hid (few x.am.2.1 x.am.2.2 12 = false) := by
     show _ = _
     unfold few
     rw [← HQ1.out, ← HQ2.out];rw [Bool.and_eq_false_iff]
     first
      | exact .inl (decide_eq_false (by omega))
      | exact .inr (decide_eq_false (by omega))
    have HN : Hid (fewB l m = false) := by
     show _ = _
     rw [HC.out, Bool.eq_false_iff];intro h8;have h7 := List.all_eq_true.1 h8 _ (List.getElem_mem (show k < l.length by rw [HLN.out]; exact hlt));rw [← en_in, ← HX.out, HF.out] at h7
     cases h7
    go_upto_region 6 with fail;refine jp ?_;refine jn (.pointer (some ⟨w.heap.size, 1, none⟩)) ?_;refine jf (.slice (some ⟨b, off, none⟩) n cp) hB0 1 load_ens ?_;refine jm (.int .i64 (k : Int)) ?_;refine jv (.pointer (some ⟨b, off + k * 13, none⟩)) (exec_ixv Tryd.underlying22 info_en _ _ (by rfl) b (off) n cp k (by omega) (by rfl) (by rfl) rfl) ?_;refine jn (.pointer (some ⟨b, off + k * 13 + 3, none⟩)) ?_;refine jn (.pointer (some ⟨b, off + k * 13 + 4, none⟩)) ?_;refine jg (st x.am.2.1) (fun X hX hF => exec_ld 9 _ (by rfl) b (off + k * 13 + 4) (by rfl) _ X ((hcx.below hX hbb) 4 _ rfl) (fun X u h => load_str b (off + k * 13 + 4) X u h)) ?_;refine jv (.int .i64 (q1 : Int)) (fun X => by rw [HQ1.out]; exact exec_lens Tryd.underlying9 _ (by rfl) x.am.2.1 (by rfl) _ rfl X) ?_;refine jv (.bool false) (exec_gtr _ _ _ _ (by rfl) .i64 (q1 : Int) 12 (by rfl) (by rfl) false (decide_eq_false (by omega))) ?_;refine jm (.bool false) ?_;refine jn (.pointer (some ⟨w.heap.size, 1, none⟩)) ?_;refine jf (.slice (some ⟨b, off, none⟩) n cp) hB0 1 load_ens ?_;refine jm (.int .i64 (k : Int)) ?_;refine jv (.pointer (some ⟨b, off + k * 13, none⟩)) (exec_ixv Tryd.underlying22 info_en _ _ (by rfl) b (off) n cp k (by omega) (by rfl) (by rfl) rfl) ?_;refine jn (.pointer (some ⟨b, off + k * 13 + 3, none⟩)) ?_;refine jn (.pointer (some ⟨b, off + k * 13 + 5, none⟩)) ?_;refine jg (st x.am.2.2) (fun X hX hF => exec_ld 9 _ (by rfl) b (off + k * 13 + 5) (by rfl) _ X ((hcx.below hX hbb) 5 _ rfl) (fun X u h => load_str b (off + k * 13 + 5) X u h)) ?_
    refine jv (.int .i64 (q2 : Int)) (fun X => by rw [HQ2.out]; exact exec_lens Tryd.underlying9 _ (by rfl) x.am.2.2 (by rfl) _ rfl X) ?_;refine jv (.bool true) (exec_gtr _ _ _ _ (by rfl) .i64 (q2 : Int) 12 (by rfl) (by rfl) true (decide_eq_true (by omega))) ?_;refine jm (.bool true) ?_;refine jzb hb fun X2 hX2 hb => ?_;replace hB0 := hB0.bel hX2;have hcx := hcx.below hX2 hbb;replace hbb := Nat.lt_of_lt_of_le hbb (hX2).size;clear hX2;go_upto_region 7 with fail;refine jp ?_;refine jm (.bool false) ?_;refine jzb hb fun X3 hX3 hb => ?_;replace hB0 := hB0.bel hX3;clear hX3
    go_wp2
    go_ret
    exact ⟨by rw [HN.out]; rfl, hb⟩
   ·have HF : Hid (few x.am.2.1 x.am.2.2 12 = true) := by
     show _ = _
     unfold few
     rw [← HQ1.out, ← HQ2.out, decide_eq_true hq.1, decide_eq_true hq.2]
     rfl
    have HZ2 : Hid (∀ j, j < k + 1 → few (en l j).am.2.1 (en l j).am.2.2 12 = true) := fun j hj => by
     rcases Nat.lt_or_ge j k with h9 | h9
     ·exact HZ.out j h9
     ·rw [show j = k by omega, ← HX.out]; exact HF.out
    go_upto_region 6 with fail;refine jp ?_;refine jn (.pointer (some ⟨w.heap.size, 1, none⟩)) ?_;refine jf (.slice (some ⟨b, off, none⟩) n cp) hB0 1 load_ens ?_;refine jm (.int .i64 (k : Int)) ?_;refine jv (.pointer (some ⟨b, off + k * 13, none⟩)) (exec_ixv Tryd.underlying22 info_en _ _ (by rfl) b (off) n cp k (by omega) (by rfl) (by rfl) rfl) ?_;refine jn (.pointer (some ⟨b, off + k * 13 + 3, none⟩)) ?_;refine jn (.pointer (some ⟨b, off + k * 13 + 4, none⟩)) ?_;refine jg (st x.am.2.1) (fun X hX hF => exec_ld 9 _ (by rfl) b (off + k * 13 + 4) (by rfl) _ X ((hcx.below hX hbb) 4 _ rfl) (fun X u h => load_str b (off + k * 13 + 4) X u h)) ?_;refine jv (.int .i64 (q1 : Int)) (fun X => by rw [HQ1.out]; exact exec_lens Tryd.underlying9 _ (by rfl) x.am.2.1 (by rfl) _ rfl X) ?_;refine jv (.bool false) (exec_gtr _ _ _ _ (by rfl) .i64 (q1 : Int) 12 (by rfl) (by rfl) false (decide_eq_false (by omega))) ?_;refine jm (.bool false) ?_;refine jn (.pointer (some ⟨w.heap.size, 1, none⟩)) ?_;refine jf (.slice (some ⟨b, off, none⟩) n cp) hB0 1 load_ens ?_;refine jm (.int .i64 (k : Int)) ?_;refine jv (.pointer (some ⟨b, off + k * 13, none⟩)) (exec_ixv Tryd.underlying22 info_en _ _ (by rfl) b (off) n cp k (by omega) (by rfl) (by rfl) rfl) ?_;refine jn (.pointer (some ⟨b, off + k * 13 + 3, none⟩)) ?_;refine jn (.pointer (some ⟨b, off + k * 13 + 5, none⟩)) ?_;refine jg (st x.am.2.2) (fun X hX hF => exec_ld 9 _ (by rfl) b (off + k * 13 + 5) (by rfl) _ X ((hcx.below hX hbb) 5 _ rfl) (fun X u h => load_str b (off + k * 13 + 5) X u h)) ?_
    refine jv (.int .i64 (q2 : Int)) (fun X => by rw [HQ2.out]; exact exec_lens Tryd.underlying9 _ (by rfl) x.am.2.2 (by rfl) _ rfl X) ?_;refine jv (.bool false) (exec_gtr _ _ _ _ (by rfl) .i64 (q2 : Int) 12 (by rfl) (by rfl) false (decide_eq_false (by omega))) ?_;refine jm (.bool false) ?_;refine jzb hb fun X2 hX2 hb => ?_;replace hB0 := hB0.bel hX2;have hcx := hcx.below hX2 hbb;replace hbb := Nat.lt_of_lt_of_le hbb (hX2).size;clear hX2;go_upto_region 5 with fail;refine jp ?_;refine jm (.int .i64 (k : Int)) ?_;refine jv (.int .i64 ((k + 1 : Nat) : Int)) (exec_add _ _ _ _ (by rfl) (k : Int) 1 ((k + 1 : Nat) : Int) (by rfl) (by rfl) (by omega) (by omega) (by omega)) ?_;refine jm (.int .i64 ((k + 1 : Nat) : Int)) ?_;refine jzb hb fun X3 hX3 hb => ?_;replace hB0 := hB0.bel hX3;clear hX3
    go_wp2
    go_roundw
    case rel => exact ⟨k + 1, by omega, rfl, HZ2, hB0, hb⟩
    case measure => simp [intOf]; omega
  ·obtain rfl : k = n := by omega
   have HN : Hid (fewB l m = true) := by
    show _ = _
    rw [HC.out];refine List.all_eq_true.2 fun t ht => ?_;obtain ⟨i, hi, rfl⟩ := List.getElem_of_mem ht;rw [← en_in hi];exact HZ.out i (by rw [← HLN.out]; exact hi)
   go_upto_region 4 with fail;refine jp ?_;refine jm (.int .i64 (k : Int)) ?_;refine jn (.pointer (some ⟨w.heap.size, 1, none⟩)) ?_;refine jf (.slice A k cp) hB0 1 load_ens ?_;refine jv (.int .i64 (k : Int)) (exec_lenv Tryd.underlying22 _ (by rfl) A k cp (by rfl) _ rfl) ?_;refine jv (.bool false) (exec_lss _ _ _ _ (by rfl) .i64 (k : Int) (k : Int) (by rfl) (by rfl) false (decide_eq_false (by omega))) ?_;refine jzb hb fun X1 hX1 hb => ?_;replace hB0 := hB0.bel hX1;clear hX1;go_upto_region 8 with fail;refine jp ?_;refine jm (.bool true) ?_;refine jzb hb fun X2 hX2 hb => ?_;replace hB0 := hB0.bel hX2;clear hX2
   go_wp2
   go_ret
   exact ⟨by rw [HN.out]; rfl, hb⟩
theorem fwbC (c : Int) (v : Value) (l : List En) (m : Nat) (w : World) (hv : Es l v w) (hm : m ≤ 3000) : Calls Tryd.prog 8 #[.agg #[.int .i64 c, v], .int .i64 (m : Int)] w fun e w' => e = .returned (.bool (fewB l m)) ∧ Since w w' := by
 rcases (show (m < l.length ∧ l.length ≤ 4000) ∨ 4002 < l.length ∨ l.length ≤ m ∨ (m < l.length ∧ 4000 < l.length ∧ l.length ≤ 4002) by omega) with h | h | h | h
 ·exact fwb0 c v l m w hv hm h
 ·exact fwb1 c v l m w hv hm h
 ·exact fwb2 c v l m w hv hm h
 ·exact fwb3 c v l m w hv hm h
theorem rd_len9 {w : World} {m n c k : Nat} {A : Option Addr} {xs : List Value} (h : Rd w m (.slice A n c) k xs) : n ≤ 9223372036854775807 := by
 obtain ⟨hl, A2, c2, h2, hc, hm, hx⟩ := h
 injection h2 with e1 e2 e3
 subst e2
 unfold maxLen at hm
 omega
theorem rqAt4 {w : World} {A : Option Addr} {n c : Nat} {l : List Rat} (h : Rd w 3 (.slice A n c) n (fl trc (l.map tr))) (hl : l.length = n) {k : Nat} (hk : k < n) : ∃ b off, A = some ⟨b, off, none⟩ ∧ b < w.heap.size ∧ Cl w b (off + k * 3) (rc (yq l k)) := by
 obtain ⟨b, off, h1, h2, h3⟩ := Rl.xtAt h (by rw [List.length_map]; exact hl) hk
 have e : xt (l.map tr) k = tr (yq l k) := by
  unfold xt yq
  rw [List.getD_eq_getElem?_getD, List.getD_eq_getElem?_getD, List.getElem?_map]
  cases l[k]? <;> rfl
 rw [e] at h3;exact ⟨b, off, h1, h2, h3⟩
theorem sr44 (v v2 : Value) (xs : List Rat) (w : World) (hv : Rq xs v w) (hv2 : Rq xs v2 w) : Calls Tryd.prog 24 #[v, v2] w fun e w' => e = .returned (.bool true) ∧ Since w w' := by
 obtain ⟨A, n, c, rfl, hln, hr⟩ := hv.open;clear hv;obtain ⟨A2, n2, c2, rfl, hln2, hr2⟩ := hv2.open;clear hv2
 obtain rfl : n = n2 := by rw [← hln]; exact hln2
 have HRX : Hid (∀ X, Since w X → Rd X 3 (.slice A n c) n (fl trc (xs.map tr))) := fun X h => Rd.below hr h
 have HRY : Hid (∀ X, Since w X → Rd X 3 (.slice A2 n c2) n (fl trc (xs.map tr))) := fun X h => Rd.below hr2 h
 have HLN := Lib.hid hln;have hn1 : n ≤ 9223372036854775807 := rd_len9 hr;clear hr hr2 hln hln2
 go_enter Tryd.func24, Tryd.ntmps24
 go_upto_region 1 with fail;refine jp ?_;refine jm (.slice A n c) ?_;refine jv (.int .i64 (n : Int)) (exec_lenv Tryd.underlying50 _ (by rfl) A n c (by rfl) _ rfl) ?_;refine jm (.slice A2 n c2) ?_;refine jv (.int .i64 (n : Int)) (exec_lenv Tryd.underlying50 _ (by rfl) A2 n c2 (by rfl) _ rfl) ?_;refine jv (.bool false) (exec_nei _ _ _ _ (by rfl) .i64 (n : Int) (n : Int) (by rfl) (by rfl) false (by rw [decide_eq_true (by omega)]; rfl)) ?_;refine jz fun X1 hX1 => ?_;have hb : Below w.heap.size w X1 := hX1;clear hX1;go_upto_region 3 with fail;refine jp ?_;refine jm (.int .i64 0) ?_;refine jzb hb fun X2 _ hb => ?_
 go_wp2
 go_loopw [5] (fun kv wr => ∃ k : Nat, k ≤ n ∧ kv = .int .i64 (k : Int) ∧ Below w.heap.size w wr) (fun kv _ => n - (intOf kv).toNat)
 case atStart => exact ⟨0, by omega, rfl, hb⟩
 case round =>
  clear hb;obtain ⟨k, hk, rfl, hb⟩ := hrel
  rcases Nat.lt_or_ge k n with hlt | hlt
  ·obtain ⟨b, off, rfl, hbb, hcx⟩ := rqAt4 (HRX.out _ hb) HLN.out hlt
   obtain ⟨b2, off2, rfl, hbb2, hcx2⟩ := rqAt4 (HRY.out _ hb) HLN.out hlt;obtain ⟨x, x9⟩ : ∃ x, x = yq xs k := ⟨_, rfl⟩;rw [← x9] at hcx hcx2;clear x9;have hcx : Cl wr b (off + k * 3) [.bool (rN x), .string ⟨(rP x).toArray⟩, .string ⟨(rD x).toArray⟩] := hcx;have hcx2 : Cl wr b2 (off2 + k * 3) [.bool (rN x), .string ⟨(rP x).toArray⟩, .string ⟨(rD x).toArray⟩] := hcx2;go_upto_region 4 with fail;refine jp ?_;refine jm (.int .i64 (k : Int)) ?_;refine jm (.slice (some ⟨b, off, none⟩) n c) ?_;refine jv (.int .i64 (n : Int)) (exec_lenv Tryd.underlying50 _ (by rfl) (some ⟨b, off, none⟩) n c (by rfl) _ rfl) ?_;refine jv (.bool true) (exec_lss _ _ _ _ (by rfl) .i64 (k : Int) (n : Int) (by rfl) (by rfl) true (decide_eq_true (by omega))) ?_;refine jzb hb fun X1 hX1 hb => ?_;have hcx := hcx.below hX1 hbb;have hcx2 := hcx2.below hX1 hbb2;replace hbb := Nat.lt_of_lt_of_le hbb (hX1).size;replace hbb2 := Nat.lt_of_lt_of_le hbb2 (hX1).size;clear hX1;go_upto_region 6 with fail;refine jd ?_;refine jm (.slice (some ⟨b, off, none⟩) n c) ?_;refine jm (.int .i64 (k : Int)) ?_;refine jv (.pointer (some ⟨b, off + k * 3, none⟩)) (exec_ixv Tryd.underlying50 info_rat _ _ (by rfl) b (off) n c k (by omega) (by rfl) (by rfl) rfl) ?_;refine jg (rt (rN x) (rP x) (rD x)) (fun X hX hF => exec_ldc 30 _ (by rfl) b (off + k * 3) (by rfl) Tryd.underlying30 rfl [.bool (rN x), .string ⟨(rP x).toArray⟩, .string ⟨(rD x).toArray⟩] X (Cl.part (hcx.below hX hbb) 0 _ (by rfl)) info_rat) ?_;refine jm (.slice (some ⟨b2, off2, none⟩) n c2) ?_
   refine jm (.int .i64 (k : Int)) ?_;refine jv (.pointer (some ⟨b2, off2 + k * 3, none⟩)) (exec_ixv Tryd.underlying50 info_rat _ _ (by rfl) b2 (off2) n c2 k (by omega) (by rfl) (by rfl) rfl) ?_;refine jg (rt (rN x) (rP x) (rD x)) (fun X hX hF => exec_ldc 30 _ (by rfl) b2 (off2 + k * 3) (by rfl) Tryd.underlying30 rfl [.bool (rN x), .string ⟨(rP x).toArray⟩, .string ⟨(rD x).toArray⟩] X (Cl.part (hcx2.below hX hbb2) 0 _ (by rfl)) info_rat) ?_;refine jv (.bool false) (exec_ner _ _ (by rfl) (rN x) (rP x) (rD x) (rN x) (rP x) (rD x) (by rfl) (by rfl) false (by simp)) ?_;refine jzb hb fun X2 hX2 hb => ?_;have hcx := hcx.below hX2 hbb;have hcx2 := hcx2.below hX2 hbb2;replace hbb := Nat.lt_of_lt_of_le hbb (hX2).size;replace hbb2 := Nat.lt_of_lt_of_le hbb2 (hX2).size;clear hX2;go_upto_region 5 with fail;refine jp ?_;refine jm (.int .i64 (k : Int)) ?_;refine jv (.int .i64 ((k + 1 : Nat) : Int)) (exec_add _ _ _ _ (by rfl) (k : Int) 1 ((k + 1 : Nat) : Int) (by rfl) (by rfl) (by omega) (by omega) (by omega)) ?_;refine jm (.int .i64 ((k + 1 : Nat) : Int)) ?_;refine jzb hb fun X3 _ hb => ?_
   go_wp2
   go_roundw
   case rel => exact ⟨k + 1, by omega, rfl, hb⟩
   case measure => simp [intOf]; omega
  ·obtain rfl : k = n := by omega
   go_upto_region 4 with fail;refine jp ?_;refine jm (.int .i64 (k : Int)) ?_;refine jm (.slice A k c) ?_;refine jv (.int .i64 (k : Int)) (exec_lenv Tryd.underlying50 _ (by rfl) A k c (by rfl) _ rfl) ?_;refine jv (.bool false) (exec_lss _ _ _ _ (by rfl) .i64 (k : Int) (k : Int) (by rfl) (by rfl) false (decide_eq_false (by omega))) ?_;refine jzb hb fun X1 _ hb => ?_;go_upto_region 8 with fail;refine jp ?_;refine jm (.bool true) ?_;refine jzb hb fun X2 _ hb => ?_
   go_wp2
   go_ret
   exact ⟨rfl, hb⟩
theorem eqi44 (v v2 : Value) (xs : List Int) (w : World) (hv : Ks xs v w) (hv2 : Ks xs v2 w) : Calls Tryd.prog 25 #[v, v2] w fun e w' => e = .returned (.bool true) ∧ Since w w' := by
 obtain ⟨A, n, c, rfl, hln, hn1, hr⟩ := hv.at;clear hv;obtain ⟨A2, n2, c2, rfl, hln2, _, hr2⟩ := hv2.at;clear hv2
 obtain rfl : n = n2 := by rw [← hln]; exact hln2
 have HRX : Hid (∀ X, Since w X → Rd X 1 (.slice A n c) n (xs.map I64)) := fun X h => Rd.below hr h
 have HRY : Hid (∀ X, Since w X → Rd X 1 (.slice A2 n c2) n (xs.map I64)) := fun X h => Rd.below hr2 h
 have HLN := Lib.hid hln;clear hr hr2 hln hln2
 go_enter Tryd.func25, Tryd.ntmps25
 go_upto_region 1 with fail;refine jp ?_;refine jm (.slice A n c) ?_;refine jv (.int .i64 (n : Int)) (exec_lenv Tryd.underlying28 _ (by rfl) A n c (by rfl) _ rfl) ?_;refine jm (.slice A2 n c2) ?_;refine jv (.int .i64 (n : Int)) (exec_lenv Tryd.underlying28 _ (by rfl) A2 n c2 (by rfl) _ rfl) ?_;refine jv (.bool false) (exec_nei _ _ _ _ (by rfl) .i64 (n : Int) (n : Int) (by rfl) (by rfl) false (by rw [decide_eq_true (by omega)]; rfl)) ?_;refine jz fun X1 hX1 => ?_;have hb : Below w.heap.size w X1 := hX1;clear hX1;go_upto_region 3 with fail;refine jp ?_;refine jm (.slice A n c) ?_;refine jv (.int .i64 (n : Int)) (exec_lenv Tryd.underlying28 _ (by rfl) A n c (by rfl) _ rfl) ?_;refine jm (.int .i64 0) ?_;refine jzb hb fun X2 _ hb => ?_
 go_wp2
 go_loopw [13] (fun kv wr => ∃ k : Nat, k ≤ n ∧ kv = .int .i64 (k : Int) ∧ Below w.heap.size w wr) (fun kv _ => n - (intOf kv).toNat)
 case atStart => exact ⟨0, by omega, rfl, hb⟩
 case round =>
  clear hb;obtain ⟨k, hk, rfl, hb⟩ := hrel
  rcases Nat.lt_or_ge k n with hlt | hlt
  ·obtain ⟨b, off, rfl, hbb, hcx⟩ := wtIn (HRX.out _ hb) HLN.out hlt
   obtain ⟨b2, off2, rfl, hbb2, hcx2⟩ := wtIn (HRY.out _ hb) HLN.out hlt;obtain ⟨x, x9⟩ : ∃ x, x = wt xs k := ⟨_, rfl⟩;rw [← x9] at hcx hcx2;clear x9;go_upto_region 4 with fail;refine jp ?_;refine jv (.bool true) (exec_lss _ _ _ _ (by rfl) .i64 (k : Int) (n : Int) (by rfl) (by rfl) true (decide_eq_true (by omega))) ?_;refine jzb hb fun X1 hX1 hb => ?_;have hcx := hcx.below hX1 hbb;have hcx2 := hcx2.below hX1 hbb2;replace hbb := Nat.lt_of_lt_of_le hbb (hX1).size;replace hbb2 := Nat.lt_of_lt_of_le hbb2 (hX1).size;clear hX1;go_upto_region 5 with fail;refine jp ?_;refine jm (.int .i64 (k : Int)) ?_;refine jm (.int .i64 (k : Int)) ?_;refine jzb hb fun X2 hX2 hb => ?_;have hcx := hcx.below hX2 hbb;have hcx2 := hcx2.below hX2 hbb2;replace hbb := Nat.lt_of_lt_of_le hbb (hX2).size;replace hbb2 := Nat.lt_of_lt_of_le hbb2 (hX2).size;clear hX2;go_upto_region 6 with fail;refine jd ?_;refine jm (.slice (some ⟨b, off, none⟩) n c) ?_;refine jm (.int .i64 (k : Int)) ?_;refine jv (.pointer (some ⟨b, off + k * 1, none⟩)) (exec_ixv Tryd.underlying28 info_i1 _ _ (by rfl) b (off) n c k (by omega) (by rfl) (by rfl) rfl) ?_;refine jg (.int .i64 x) (fun X hX hF => exec_ld 3 _ (by rfl) b (off + k * 1) (by rfl) _ X ((hcx.below hX hbb) 0 _ rfl) (fun X u h => load_int b (off + k * 1) X u h)) ?_;refine jm (.slice (some ⟨b2, off2, none⟩) n c2) ?_;refine jm (.int .i64 (k : Int)) ?_;refine jv (.pointer (some ⟨b2, off2 + k * 1, none⟩)) (exec_ixv Tryd.underlying28 info_i1 _ _ (by rfl) b2 (off2) n c2 k (by omega) (by rfl) (by rfl) rfl) ?_
   refine jg (.int .i64 x) (fun X hX hF => exec_ld 3 _ (by rfl) b2 (off2 + k * 1) (by rfl) _ X ((hcx2.below hX hbb2) 0 _ rfl) (fun X u h => load_int b2 (off2 + k * 1) X u h)) ?_;refine jv (.bool false) (exec_nei _ _ _ _ (by rfl) .i64 x x (by rfl) (by rfl) false (by rw [decide_eq_true (by omega)]; rfl)) ?_;refine jzb hb fun X3 hX3 hb => ?_;have hcx := hcx.below hX3 hbb;have hcx2 := hcx2.below hX3 hbb2;replace hbb := Nat.lt_of_lt_of_le hbb (hX3).size;replace hbb2 := Nat.lt_of_lt_of_le hbb2 (hX3).size;clear hX3;go_upto_region 8 with fail;refine jp ?_;refine jv (.int .i64 ((k + 1 : Nat) : Int)) (exec_add _ _ _ _ (by rfl) (k : Int) 1 ((k + 1 : Nat) : Int) (by rfl) (by rfl) (by omega) (by omega) (by omega)) ?_;refine jm (.int .i64 ((k + 1 : Nat) : Int)) ?_;refine jzb hb fun X4 _ hb => ?_
   go_wp2
   go_roundw
   case rel => exact ⟨k + 1, by omega, rfl, hb⟩
   case measure => simp [intOf]; omega
  ·obtain rfl : k = n := by omega
   go_upto_region 4 with fail;refine jp ?_;refine jv (.bool false) (exec_lss _ _ _ _ (by rfl) .i64 (k : Int) (k : Int) (by rfl) (by rfl) false (decide_eq_false (by omega))) ?_;refine jzb hb fun X1 _ hb => ?_;go_upto_region 9 with fail;refine jp ?_;refine jm (.bool true) ?_;refine jzb hb fun X2 _ hb => ?_
   go_wp2
   go_ret
   exact ⟨rfl, hb⟩
end Go.Proofs.YtffgfkcljcollaaDoor
