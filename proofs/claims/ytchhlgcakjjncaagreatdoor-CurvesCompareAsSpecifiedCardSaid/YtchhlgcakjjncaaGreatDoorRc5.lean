/-
  The reference of layer 13: Scale.
-/
import Derived.Test.YtchhlgcakjjncaaGreatDoorRc4
set_option linter.unusedSimpArgs false
set_option linter.unusedVariables false
set_option maxRecDepth 100000
set_option maxHeartbeats 1600000
namespace Go.Proofs.YtchhlgcakjjncaaGreatDoor
open Go.RowKit
theorem scL_bad9 {l : List Pt} {t : Tr} (h : ck l = 0) (ht : posB t = false) : scE l t = 1 ∧ scL l t = [] := by
  unfold scE scL
  rw [if_neg (fun h9 => h9 h), if_pos ht, if_neg (fun h9 => by rw [ht] at h9; exact absurd h9.2 (by decide))]
  exact ⟨rfl, rfl⟩
theorem rscaleCe (A : Option Addr) (n c : Nat) (l : List Pt) (n' : Bool) (p q : List UInt8) (ht : tz p q 1000000) (w : World) (hr : Rd w 4 (.slice A n c) n (fl ptc l)) (hln : l.length = n) (hn1 : n ≤ 9223372036854775807) (hf : fewP l 1000) (hc : ck l ≠ 0) : Calls Tryz.prog 46 #[.agg #[.slice A n c], .agg #[.bool n', .string ⟨p.toArray⟩, .string ⟨q.toArray⟩]] w fun e w' => ∃ A' m c' L, e = .returned (.agg #[.slice A' m c', .int .i64 (scE l (n', p, q))]) ∧ Rd w' 4 (.slice A' m c') m (fl ptc L) ∧ L.length = m ∧ L = (scL l (n', p, q)) ∧ Since w w' := by
  have HRX : Hid (∀ X, Since w X → Rd X 4 (.slice A n c) n (fl ptc l)) := fun X h => hr.below h
  have HFL : Hid (scE l (n', p, q) = ck l ∧ scL l (n', p, q) = []) := ⟨if_pos hc, if_neg (fun h9 => hc h9.1)⟩
  clear hr
  go_enter Tryz.func46, Tryz.ntmps46
  go_upto_region 1 with (fail)
  obtain ⟨W0, hW0, hB0, hB1, hB2, hb⟩ := start3 w 48 23 65 [.slice A n c] [.bool n', .string ⟨p.toArray⟩, .string ⟨q.toArray⟩] [.slice none 0 0, .int .i64 0]
  rw [← hW0]
  clear hW0
  refine jp ?_
  refine ja hB0 Tryz.underlying48 (by rfl) info_cv ?_
  refine jc (.int .i64 (ck l)) (fun X hX hF => rcheckC A n c l X (HRX.out X (hb.trans (Below.mono hX hb.size))) hln hn1 hf.mono) ?_
  refine jm (.int .i64 (ck l)) ?_
  refine jz fun X1 hX1 => ?_
  have hB0 := hB0.bel hX1
  have hB1 := hB1.bel hX1
  have hB2 := hB2.bel hX1
  have hb := bel_next hb hX1
  clear hX1
  go_upto_region 2 with (fail)
  refine jp ?_
  refine jm (.int .i64 (ck l)) ?_
  refine jv (.bool true) (exec_nei _ _ _ _ (by rfl) .i64 (ck l) 0 (by rfl) (by rfl) true (by rw [decide_eq_false (by omega)]; rfl)) ?_
  refine jz fun X2 hX2 => ?_
  have hB0 := hB0.bel hX2
  have hB1 := hB1.bel hX2
  have hB2 := hB2.bel hX2
  have hb := bel_next hb hX2
  clear hX2
  go_upto_region 3 with (fail)
  refine jq 2 ?_
  refine jm (.int .i64 (ck l)) ?_
  refine jn (.agg #[.slice none 0 0, .int .i64 (ck l)]) ?_
  refine jz fun X3 hX3 => ?_
  have hB0 := hB0.bel hX3
  have hB1 := hB1.bel hX3
  have hB2 := hB2.bel hX3
  have hb := bel_next hb hX3
  clear hX3
  refine osb 65 4 14 (w.heap.size + 2) 65 hB2 [.slice none 0 0, .int .i64 (ck l)] info_md13 ?_
  intro w9 hR9 hO9 hB9 hs9
  have hb9 := hB9 _ _ hb (by omega)
  clear hO9 hB9
  go_wp2
  refine post_cell rfl rfl (by rfl) Tryz.underlying65 rfl hR9 info_md13 ⟨none, 0, 0, [], by rw [HFL.out.1], Rd.nil4 _, rfl, HFL.out.2.symm, hb9⟩
theorem rscaleB0 (b off n c : Nat) (l : List Pt) (n' : Bool) (p q : List UInt8) (ht : tz p q 1000000) (w : World) (hr : Rd w 4 (.slice (some ⟨b, off, none⟩) n c) n (fl ptc l)) (hln : l.length = n) (hn1 : n ≤ 9223372036854775807) (hf : fewP l 1000) (hc : ck l = 0) (HV : Hid (vd n' p q = false)) : Calls Tryz.prog 46 #[.agg #[.slice (some ⟨b, off, none⟩) n c], .agg #[.bool n', .string ⟨p.toArray⟩, .string ⟨q.toArray⟩]] w fun e w' => ∃ A' m c' L, e = .returned (.agg #[.slice A' m c', .int .i64 (scE l (n', p, q))]) ∧ Rd w' 4 (.slice A' m c') m (fl ptc L) ∧ L.length = m ∧ L = (scL l (n', p, q)) ∧ Since w w' := by
  have HRX : Hid (∀ X, Since w X → Rd X 4 (.slice (some ⟨b, off, none⟩) n c) n (fl ptc l)) := fun X h => hr.below h
  have HFL : Hid (scE l (n', p, q) = 1 ∧ scL l (n', p, q) = []) := scL_bad9 hc (by unfold posB; simp only; rw [HV.out]; rfl)
  clear hr
  go_enter Tryz.func46, Tryz.ntmps46
  go_upto_region 1 with (fail)
  obtain ⟨W0, hW0, hB0, hB1, hB2, hb⟩ := start3 w 48 23 65 [.slice (some ⟨b, off, none⟩) n c] [.bool n', .string ⟨p.toArray⟩, .string ⟨q.toArray⟩] [.slice none 0 0, .int .i64 0]
  rw [← hW0]
  clear hW0
  refine jp ?_
  refine ja hB0 Tryz.underlying48 (by rfl) info_cv ?_
  refine jc (.int .i64 0) (fun X hX hF => mo (rcheckC (some ⟨b, off, none⟩) n c l X (HRX.out X (hb.trans (Below.mono hX hb.size))) hln hn1 hf.mono) (by rw [hc])) ?_
  refine jm (.int .i64 0) ?_
  refine jz fun X1 hX1 => ?_
  have hB0 := hB0.bel hX1
  have hB1 := hB1.bel hX1
  have hB2 := hB2.bel hX1
  have hb := bel_next hb hX1
  clear hX1
  go_upto_region 2 with (fail)
  refine jp ?_
  refine jm (.int .i64 0) ?_
  refine jv (.bool false) (exec_nei _ _ _ _ (by rfl) .i64 0 0 (by rfl) (by rfl) false (by rw [decide_eq_true (by omega)]; rfl)) ?_
  refine jz fun X2 hX2 => ?_
  have hB0 := hB0.bel hX2
  have hB1 := hB1.bel hX2
  have hB2 := hB2.bel hX2
  have hb := bel_next hb hX2
  clear hX2
  go_upto_region 4 with (fail)
  refine jp ?_
  refine ja hB1 Tryz.underlying23 (by rfl) info_rat ?_
  refine jc (.bool false) (fun X hX hF => mo (rvQ5 n' p q X (Nat.le_trans ht.1 (by omega)) (Nat.le_trans ht.2 (by omega))) (by rw [HV.out])) ?_
  refine jm (.bool false) ?_
  refine jz fun X3 hX3 => ?_
  have hB0 := hB0.bel hX3
  have hB1 := hB1.bel hX3
  have hB2 := hB2.bel hX3
  have hb := bel_next hb hX3
  clear hX3
  go_upto_region 5 with (fail)
  refine jp ?_
  refine jm (.bool false) ?_
  refine jm (.bool true) ?_
  refine jm (.bool true) ?_
  refine js ?_
  refine js ?_
  refine jm (.bool true) ?_
  refine jz fun X4 hX4 => ?_
  have hB0 := hB0.bel hX4
  have hB1 := hB1.bel hX4
  have hB2 := hB2.bel hX4
  have hb := bel_next hb hX4
  clear hX4
  go_upto_region 6 with (fail)
  refine jq 1 ?_
  refine jn (.agg #[.slice none 0 0, .int .i64 1]) ?_
  refine jz fun X5 hX5 => ?_
  have hB0 := hB0.bel hX5
  have hB1 := hB1.bel hX5
  have hB2 := hB2.bel hX5
  have hb := bel_next hb hX5
  clear hX5
  refine osb 65 4 23 (w.heap.size + 2) 65 hB2 [.slice none 0 0, .int .i64 1] info_md13 ?_
  intro w9 hR9 hO9 hB9 hs9
  have hb9 := hB9 _ _ hb (by omega)
  clear hO9 hB9
  go_wp2
  refine post_cell rfl rfl (by rfl) Tryz.underlying65 rfl hR9 info_md13 ⟨none, 0, 0, [], by rw [HFL.out.1], Rd.nil4 _, rfl, HFL.out.2.symm, hb9⟩
theorem rscaleB1 (b off n c : Nat) (l : List Pt) (n' : Bool) (p q : List UInt8) (ht : tz p q 1000000) (w : World) (hr : Rd w 4 (.slice (some ⟨b, off, none⟩) n c) n (fl ptc l)) (hln : l.length = n) (hn1 : n ≤ 9223372036854775807) (hf : fewP l 1000) (hc : ck l = 0) (HV : Hid (vd n' p q = true)) (HNB : Hid (n' = true)) : Calls Tryz.prog 46 #[.agg #[.slice (some ⟨b, off, none⟩) n c], .agg #[.bool n', .string ⟨p.toArray⟩, .string ⟨q.toArray⟩]] w fun e w' => ∃ A' m c' L, e = .returned (.agg #[.slice A' m c', .int .i64 (scE l (n', p, q))]) ∧ Rd w' 4 (.slice A' m c') m (fl ptc L) ∧ L.length = m ∧ L = (scL l (n', p, q)) ∧ Since w w' := by
  have HRX : Hid (∀ X, Since w X → Rd X 4 (.slice (some ⟨b, off, none⟩) n c) n (fl ptc l)) := fun X h => hr.below h
  have HFL : Hid (scE l (n', p, q) = 1 ∧ scL l (n', p, q) = []) := scL_bad9 hc (by unfold posB; simp only; rw [HV.out, HNB.out]; rfl)
  clear hr
  go_enter Tryz.func46, Tryz.ntmps46
  go_upto_region 1 with (fail)
  obtain ⟨W0, hW0, hB0, hB1, hB2, hb⟩ := start3 w 48 23 65 [.slice (some ⟨b, off, none⟩) n c] [.bool n', .string ⟨p.toArray⟩, .string ⟨q.toArray⟩] [.slice none 0 0, .int .i64 0]
  rw [← hW0]
  clear hW0
  refine jp ?_
  refine ja hB0 Tryz.underlying48 (by rfl) info_cv ?_
  refine jc (.int .i64 0) (fun X hX hF => mo (rcheckC (some ⟨b, off, none⟩) n c l X (HRX.out X (hb.trans (Below.mono hX hb.size))) hln hn1 hf.mono) (by rw [hc])) ?_
  refine jm (.int .i64 0) ?_
  refine jz fun X1 hX1 => ?_
  have hB0 := hB0.bel hX1
  have hB1 := hB1.bel hX1
  have hB2 := hB2.bel hX1
  have hb := bel_next hb hX1
  clear hX1
  go_upto_region 2 with (fail)
  refine jp ?_
  refine jm (.int .i64 0) ?_
  refine jv (.bool false) (exec_nei _ _ _ _ (by rfl) .i64 0 0 (by rfl) (by rfl) false (by rw [decide_eq_true (by omega)]; rfl)) ?_
  refine jz fun X2 hX2 => ?_
  have hB0 := hB0.bel hX2
  have hB1 := hB1.bel hX2
  have hB2 := hB2.bel hX2
  have hb := bel_next hb hX2
  clear hX2
  go_upto_region 4 with (fail)
  refine jp ?_
  refine ja hB1 Tryz.underlying23 (by rfl) info_rat ?_
  refine jc (.bool true) (fun X hX hF => mo (rvQ5 n' p q X (Nat.le_trans ht.1 (by omega)) (Nat.le_trans ht.2 (by omega))) (by rw [HV.out])) ?_
  refine jm (.bool true) ?_
  refine jz fun X3 hX3 => ?_
  have hB0 := hB0.bel hX3
  have hB1 := hB1.bel hX3
  have hB2 := hB2.bel hX3
  have hb := bel_next hb hX3
  clear hX3
  go_upto_region 5 with (fail)
  refine jp ?_
  refine jm (.bool true) ?_
  refine jm (.bool false) ?_
  refine jm (.bool false) ?_
  refine jn (.pointer (some ⟨(w.heap.size + 1), 0, none⟩)) ?_
  refine jg (.bool true) (fun X hX hF => exec_ld 4 _ (by rfl) (w.heap.size + 1) 0 (by rfl) (.bool true) X (by rw [← HNB.out]; exact (hB1.bel hX).cell (j := 0) rfl) (fun X u h => load_bool (w.heap.size + 1) 0 X u h)) ?_
  refine jm (.bool true) ?_
  refine jz fun X4 hX4 => ?_
  have hB0 := hB0.bel hX4
  have hB1 := hB1.bel hX4
  have hB2 := hB2.bel hX4
  have hb := bel_next hb hX4
  clear hX4
  go_upto_region 6 with (fail)
  refine jq 1 ?_
  refine jn (.agg #[.slice none 0 0, .int .i64 1]) ?_
  refine jz fun X5 hX5 => ?_
  have hB0 := hB0.bel hX5
  have hB1 := hB1.bel hX5
  have hB2 := hB2.bel hX5
  have hb := bel_next hb hX5
  clear hX5
  refine osb 65 4 23 (w.heap.size + 2) 65 hB2 [.slice none 0 0, .int .i64 1] info_md13 ?_
  intro w9 hR9 hO9 hB9 hs9
  have hb9 := hB9 _ _ hb (by omega)
  clear hO9 hB9
  go_wp2
  refine post_cell rfl rfl (by rfl) Tryz.underlying65 rfl hR9 info_md13 ⟨none, 0, 0, [], by rw [HFL.out.1], Rd.nil4 _, rfl, HFL.out.2.symm, hb9⟩
theorem rscaleCo (b off n c : Nat) (l : List Pt) (n' : Bool) (p q : List UInt8) (ht : tz p q 1000000) (y : Rat) (HY : Hid (rq n' p q = y)) (w : World) (hr : Rd w 4 (.slice (some ⟨b, off, none⟩) n c) n (fl ptc l)) (hln : l.length = n) (hn1 : n ≤ 9223372036854775807) (hf : fewP l 1000) (hc : ck l = 0) (HV : Hid (vd n' p q = true)) (HNB : Hid (n' = false)) : Calls Tryz.prog 46 #[.agg #[.slice (some ⟨b, off, none⟩) n c], .agg #[.bool n', .string ⟨p.toArray⟩, .string ⟨q.toArray⟩]] w fun e w' => ∃ A' m c' L, e = .returned (.agg #[.slice A' m c', .int .i64 (scE l (n', p, q))]) ∧ Rd w' 4 (.slice A' m c') m (fl ptc L) ∧ L.length = m ∧ L = (scL l (n', p, q)) ∧ Since w w' := by
  have HRX : Hid (∀ X, Since w X → Rd X 4 (.slice (some ⟨b, off, none⟩) n c) n (fl ptc l)) := fun X h => hr.below h
  have HN : 1 ≤ n ∧ n ≤ 16 := by
    have h9 := hc
    unfold ck at h9
    split at h9 <;> omega
  have HLN := Lib.hid hln
  have hbw : b < w.heap.size := (hr.ptIn hln (show 0 < n by omega)).1
  clear hr
  go_enter Tryz.func46, Tryz.ntmps46
  go_upto_region 1 with (fail)
  obtain ⟨W0, hW0, hB0, hB1, hB2, hb⟩ := start3 w 48 23 65 [.slice (some ⟨b, off, none⟩) n c] [.bool n', .string ⟨p.toArray⟩, .string ⟨q.toArray⟩] [.slice none 0 0, .int .i64 0]
  rw [← hW0]
  clear hW0
  refine jp ?_
  refine ja hB0 Tryz.underlying48 (by rfl) info_cv ?_
  refine jc (.int .i64 0) (fun X hX hF => mo (rcheckC (some ⟨b, off, none⟩) n c l X (HRX.out X (hb.trans (Below.mono hX hb.size))) hln hn1 hf.mono) (by rw [hc])) ?_
  refine jm (.int .i64 0) ?_
  refine jz fun X1 hX1 => ?_
  have hB0 := hB0.bel hX1
  have hB1 := hB1.bel hX1
  have hB2 := hB2.bel hX1
  have hb := bel_next hb hX1
  clear hX1
  go_upto_region 2 with (fail)
  refine jp ?_
  refine jm (.int .i64 0) ?_
  refine jv (.bool false) (exec_nei _ _ _ _ (by rfl) .i64 0 0 (by rfl) (by rfl) false (by rw [decide_eq_true (by omega)]; rfl)) ?_
  refine jz fun X2 hX2 => ?_
  have hB0 := hB0.bel hX2
  have hB1 := hB1.bel hX2
  have hB2 := hB2.bel hX2
  have hb := bel_next hb hX2
  clear hX2
  go_upto_region 4 with (fail)
  refine jp ?_
  refine ja hB1 Tryz.underlying23 (by rfl) info_rat ?_
  refine jc (.bool true) (fun X hX hF => mo (rvQ5 n' p q X (Nat.le_trans ht.1 (by omega)) (Nat.le_trans ht.2 (by omega))) (by rw [HV.out])) ?_
  refine jm (.bool true) ?_
  refine jz fun X3 hX3 => ?_
  have hB0 := hB0.bel hX3
  have hB1 := hB1.bel hX3
  have hB2 := hB2.bel hX3
  have hb := bel_next hb hX3
  clear hX3
  go_upto_region 5 with (fail)
  refine jp ?_
  refine jm (.bool true) ?_
  refine jm (.bool false) ?_
  refine jm (.bool false) ?_
  refine jn (.pointer (some ⟨(w.heap.size + 1), 0, none⟩)) ?_
  refine jg (.bool false) (fun X hX hF => exec_ld 4 _ (by rfl) (w.heap.size + 1) 0 (by rfl) (.bool false) X (by rw [← HNB.out]; exact (hB1.bel hX).cell (j := 0) rfl) (fun X u h => load_bool (w.heap.size + 1) 0 X u h)) ?_
  refine jm (.bool false) ?_
  refine jz fun X4 hX4 => ?_
  have hB0 := hB0.bel hX4
  have hB1 := hB1.bel hX4
  have hB2 := hB2.bel hX4
  have hb := bel_next hb hX4
  clear hX4
  go_upto_region 8 with (fail)
  obtain ⟨Y6, hY9, hD6, hS9⟩ := start1 X4 48 [.slice none 0 0]
  rw [← hY9]
  clear hY9
  have hgs6 := hb.size
  have hlt6x0 := hB0.lt
  have hlt6x1 := hB1.lt
  have hlt6x2 := hB2.lt
  have hB0 := hB0.bel hS9
  have hB1 := hB1.bel hS9
  have hB2 := hB2.bel hS9
  have hb := bel_next hb hS9
  clear hS9
  generalize X4.heap.size = g6 at *
  refine jp ?_
  refine jm (.int .i64 0) ?_
  refine jz fun X5 hX5 => ?_
  have hB0 := hB0.bel hX5
  have hB1 := hB1.bel hX5
  have hB2 := hB2.bel hX5
  have hD6 := hD6.bel hX5
  have hb := bel_next hb hX5
  clear hX5
  go_wp2
  go_loopw [8] (fun kv wr => ∃ (k : Nat) (A6 : Option Addr) (c6 : Nat), k ≤ n ∧ kv = .int .i64 (k : Int) ∧ Blk wr w.heap.size 48 [.slice (some ⟨b, off, none⟩) n c] ∧ Blk wr (w.heap.size + 1) 23 [.bool n', .string ⟨p.toArray⟩, .string ⟨q.toArray⟩] ∧ Blk wr (w.heap.size + 2) 65 [.slice none 0 0, .int .i64 0] ∧ Blk wr g6 48 [.slice A6 k c6] ∧ wr.ownsRow (g6 + 1) 110 4 (.slice A6 k c6) k (fl ptc ((l.take k).map (scP y))) ∧ Below w.heap.size w wr) (fun kv _ => n - (intOf kv).toNat)
  case atStart => exact ⟨0, none, 0, by omega, rfl, hB0, hB1, hB2, hD6, ⟨rfl, .inl ⟨rfl, rfl⟩⟩, hb⟩
  case round =>
    clear hB0 hB1 hB2 hD6 hb
    obtain ⟨k, A6, c6, hk, rfl, hB0, hB1, hB2, hD6, hOW, hb⟩ := hrel
    rcases Nat.lt_or_ge k n with hlt9 | hlt9
    · obtain ⟨hbb, hcx⟩ := (HRX.out _ hb).ptIn HLN.out hlt9
      obtain ⟨x, hx9⟩ : ∃ x, x = pt l k := ⟨_, rfl⟩
      have HX := Lib.hid hx9
      clear hx9
      rw [← HX.out] at hcx
      have hkl : k < l.length := by rw [HLN.out]; exact hlt9
      have htx : tz x.2.2.1 x.2.2.2 1000 := by rw [HX.out]; exact hf k hkl
      have hg6l := hD6.lt
      go_upto_region 9 with (fail)
      refine jp ?_
      refine jm (.int .i64 (k : Int)) ?_
      refine jn (.pointer (some ⟨w.heap.size, 0, none⟩)) ?_
      refine jf (.slice (some ⟨b, off, none⟩) n c) hB0 0 load_pts ?_
      refine jv (.int .i64 (n : Int)) (exec_lenv Tryz.underlying46 _ (by rfl) (some ⟨b, off, none⟩) n c (by rfl) _ rfl) ?_
      refine jv (.bool true) (exec_lss _ _ _ _ (by rfl) .i64 (k : Int) (n : Int) (by rfl) (by rfl) true (decide_eq_true (by omega))) ?_
      refine jz fun X1 hX1 => ?_
      have hOW := own_since hOW hX1
      have hB0 := hB0.bel hX1
      have hB1 := hB1.bel hX1
      have hB2 := hB2.bel hX1
      have hD6 := hD6.bel hX1
      have hcx := hcx.below hX1 hbb
      replace hbb := Nat.lt_of_lt_of_le hbb (hX1).size
      have hb := bel_next hb hX1
      clear hX1
      have hg6l := hD6.lt
      go_upto_region 11 with (fail)
      have hbA : (g6 + 1) ≤ X1.heap.size := by omega
      have hn_hB0 : (Value.ownBlock (.slice A6 k c6)) ≠ some w.heap.size := fun h9 => by have h8 := own_base hOW _ h9; omega
      have hn_hB1 : (Value.ownBlock (.slice A6 k c6)) ≠ some (w.heap.size + 1) := fun h9 => by have h8 := own_base hOW _ h9; omega
      have hn_hB2 : (Value.ownBlock (.slice A6 k c6)) ≠ some (w.heap.size + 2) := fun h9 => by have h8 := own_base hOW _ h9; omega
      have hn_hD6 : (Value.ownBlock (.slice A6 k c6)) ≠ some g6 := fun h9 => by have h8 := own_base hOW _ h9; omega
      refine la_tail (⟨(g6 + 1), 110, 4, .slice A6 k c6, k, (fl ptc ((l.take k).map (scP y))), [.int .i64 x.1, .bool (rN (trq x.2 * y)), .string ⟨(rP (trq x.2 * y)).toArray⟩, .string ⟨(rD (trq x.2 * y)).toArray⟩]⟩ : Ar) 18 [none, none, none, none, none, none, none, none, none, none, none, none, none, none, none, none, none, some (Anew (⟨(g6 + 1), 110, 4, .slice A6 k c6, k, (fl ptc ((l.take k).map (scP y))), [.int .i64 x.1, .bool (rN (trq x.2 * y)), .string ⟨(rP (trq x.2 * y)).toArray⟩, .string ⟨(rD (trq x.2 * y)).toArray⟩]⟩ : Ar) 110), some (Aout (⟨(g6 + 1), 110, 4, .slice A6 k c6, k, (fl ptc ((l.take k).map (scP y))), [.int .i64 x.1, .bool (rN (trq x.2 * y)), .string ⟨(rP (trq x.2 * y)).toArray⟩, .string ⟨(rD (trq x.2 * y)).toArray⟩]⟩ : Ar))] (by kernel_rfl) (by kernel_rfl) (by kernel_rfl) rfl (la_none (la_none (la_none (la_none (la_none (la_none (la_none (la_none (la_none (la_none (la_none (la_none (la_none (la_none (la_none (la_none (la_none (la_some (fun v X Y h hR => Anew.lasts v X Y h hR) (la_some (fun v X Y h hR => Aout.lasts v X Y h hR) (la_nil)))))))))))))))))))) ?_
      simp only [iB, List.dropLast, Nat.reduceAdd]
      refine an (.pointer (some ⟨g6, 0, none⟩)) ?_
      refine ag hOW hbA (.slice A6 k c6) (fun X σ hX hF => exec_ld 46 _ (by rfl) g6 0 (by rfl) _ X ((hX.blk hD6 hn_hD6).cell (j := 0) rfl) (fun X u h => load_pts g6 0 X u h)) ?_
      refine an (.pointer (some ⟨w.heap.size, 0, none⟩)) ?_
      refine ag hOW hbA (.slice (some ⟨b, off, none⟩) n c) (fun X σ hX hF => exec_ld 46 _ (by rfl) w.heap.size 0 (by rfl) _ X ((hX.blk hB0 hn_hB0).cell (j := 0) rfl) (fun X u h => load_pts w.heap.size 0 X u h)) ?_
      refine am (.int .i64 (k : Int)) ?_
      refine ag hOW hbA (.pointer (some ⟨b, off + k * 4, none⟩)) (fun X σ hX hF => exec_ixv Tryz.underlying46 info_pt _ _ (by rfl) b (off) n c k (by omega) (by rfl) (by rfl) rfl X) ?_
      refine an (.pointer (some ⟨b, off + k * 4, none⟩)) ?_
      refine ag hOW hbA (.int .i64 x.1) (fun X σ hX hF => exec_ld 3 _ (by rfl) b (off + k * 4) (by rfl) _ X ((hcx.below hX.below (show b < g6 + 1 by omega)) 0 _ rfl) (fun X u h => load_int b (off + k * 4) X u h)) ?_
      refine an (.pointer (some ⟨w.heap.size, 0, none⟩)) ?_
      refine ag hOW hbA (.slice (some ⟨b, off, none⟩) n c) (fun X σ hX hF => exec_ld 46 _ (by rfl) w.heap.size 0 (by rfl) _ X ((hX.blk hB0 hn_hB0).cell (j := 0) rfl) (fun X u h => load_pts w.heap.size 0 X u h)) ?_
      refine am (.int .i64 (k : Int)) ?_
      refine ag hOW hbA (.pointer (some ⟨b, off + k * 4, none⟩)) (fun X σ hX hF => exec_ixv Tryz.underlying46 info_pt _ _ (by rfl) b (off) n c k (by omega) (by rfl) (by rfl) rfl X) ?_
      refine an (.pointer (some ⟨b, off + k * 4 + 1, none⟩)) ?_
      refine ag hOW hbA (.agg #[.bool x.2.1, .string ⟨x.2.2.1.toArray⟩, .string ⟨x.2.2.2.toArray⟩]) (fun X σ hX hF => exec_ldc 23 _ (by rfl) b (off + k * 4 + 1) (by rfl) Tryz.underlying23 rfl [.bool x.2.1, .string ⟨x.2.2.1.toArray⟩, .string ⟨x.2.2.2.toArray⟩] X (Cl.part (hcx.below hX.below (show b < g6 + 1 by omega)) 1 _ (by rfl)) info_rat) ?_
      refine ag hOW hbA (.agg #[.bool n', .string ⟨p.toArray⟩, .string ⟨q.toArray⟩]) (fun X σ hX hF => exec_lda 23 _ (by rfl) (w.heap.size + 1) (by rfl) Tryz.underlying23 rfl X (hX.blk hB1 hn_hB1) info_rat) ?_
      refine ac hOW hbA (f := 27) (args := [.agg #[.bool x.2.1, .string ⟨x.2.2.1.toArray⟩, .string ⟨x.2.2.2.toArray⟩], .agg #[.bool n', .string ⟨p.toArray⟩, .string ⟨q.toArray⟩]]) (.agg #[.bool (rN (trq x.2 * y)), .string ⟨(rP (trq x.2 * y)).toArray⟩, .string ⟨(rD (trq x.2 * y)).toArray⟩]) (fun X σ hX hF => mulS x.2.1 x.2.2.1 x.2.2.2 n' p q rfl HY.out X (htx.mono (by omega)) ht) ?_
      refine an (.agg #[.int .i64 x.1, .bool (rN (trq x.2 * y)), .string ⟨(rP (trq x.2 * y)).toArray⟩, .string ⟨(rD (trq x.2 * y)).toArray⟩]) ?_
      refine ab hOW 110 (fun X => by unfold execOp; go_simp) ?_
      intro v48
      refine aa hOW hbA 110 17 v48 List.mem_cons_self Tryz.underlying46 info_ptz rfl (show 0 < 4 by decide) (by rfl) (by intro u hu; simp only [List.mem_cons, List.not_mem_nil, or_false] at hu; rcases hu with rfl | rfl | rfl | rfl <;> rfl) (show k + 1 ≤ maxLen by unfold maxLen; omega) (show (k + 1) * 48 ≤ 140737488355328 by omega) ?_
      intro v49
      refine an (.pointer (some ⟨g6, 0, none⟩)) ?_
      refine az hOW hbA ?_
      intro X2 σ hX hF
      have hO49 : X2.ownsRow (g6 + 1) 110 4 v49 (k + 1) ((fl ptc ((l.take k).map (scP y))) ++ [.int .i64 x.1, .bool (rN (trq x.2 * y)), .string ⟨(rP (trq x.2 * y)).toArray⟩, .string ⟨(rD (trq x.2 * y)).toArray⟩]) := (hF _ _ List.mem_cons_self).2
      have hB0 := hX.blk hB0 hn_hB0
      have hB1 := hX.blk hB1 hn_hB1
      have hB2 := hX.blk hB2 hn_hB2
      have hD6 := hX.blk hD6 hn_hD6
      have hb := hb.trans (hX.below.mono (show w.heap.size ≤ (g6 + 1) by omega))
      clear hF hn_hB0 hn_hB1 hn_hB2 hn_hD6
      obtain ⟨A7, c7, rfl, _, _⟩ := (Rd.of_own hO49).form
      refine op_store1 rfl g6 0 48 _ hD6 (.slice A7 (k + 1) c7) (by simp) (fun X u h1 h2 => exec_stp _ _ (by rfl) _ _ (by rfl) (by rfl) u X h1 h2) ?_
      intro w9 hR9 hO9 hB9
      have hD6 : Blk w9 g6 48 [.slice A7 (k + 1) c7] := hR9
      have hb := hB9 _ _ hb (by omega)
      have hOW : w9.ownsRow (g6 + 1) 110 4 (.slice A7 (k + 1) c7) (k + 1) (fl ptc ((l.take (k + 1)).map (scP y))) := by
        rw [map_snoc (scP y) hkl, ← HX.out]
        exact own_blk hO49 (fun g t zs hg hz => hO9 _ _ _ (by have := own_base hO49 _ hg; omega) hz)
      have hB0 := hO9 _ _ _ (by omega) hB0
      have hB1 := hO9 _ _ _ (by omega) hB1
      have hB2 := hO9 _ _ _ (by omega) hB2
      clear hR9 hO9 hB9 hO49
      go_upto_region 10 with (fail)
      refine jp ?_
      refine jm (.int .i64 (k : Int)) ?_
      refine jv (.int .i64 ((k + 1 : Nat) : Int)) (exec_add _ _ _ _ (by rfl) (k : Int) 1 ((k + 1 : Nat) : Int) (by rfl) (by rfl) (by omega) (by omega) (by omega)) ?_
      refine jm (.int .i64 ((k + 1 : Nat) : Int)) ?_
      refine jz fun X3 hX3 => ?_
      have hOW := own_since hOW hX3
      have hB0 := hB0.bel hX3
      have hB1 := hB1.bel hX3
      have hB2 := hB2.bel hX3
      have hD6 := hD6.bel hX3
      have hb := bel_next hb hX3
      clear hX3
      go_wp2
      go_roundw
      case rel => exact ⟨k + 1, A7, c7, by omega, rfl, hB0, hB1, hB2, hD6, hOW, hb⟩
      case measure => simp [intOf]; omega
    · obtain rfl : k = n := by omega
      have HFL : Hid (scE l (n', p, q) = 0 ∧ scL l (n', p, q) = l.map (scP y)) := by
        have h9 := scL_ok (t := (n', p, q)) hc (by unfold posB; simp only; rw [HV.out, HNB.out]; rfl)
        rw [show trq (n', p, q) = y from HY.out] at h9
        exact h9
      go_upto_region 9 with (fail)
      refine jp ?_
      refine jm (.int .i64 (k : Int)) ?_
      refine jn (.pointer (some ⟨w.heap.size, 0, none⟩)) ?_
      refine jf (.slice (some ⟨b, off, none⟩) k c) hB0 0 load_pts ?_
      refine jv (.int .i64 (k : Int)) (exec_lenv Tryz.underlying46 _ (by rfl) (some ⟨b, off, none⟩) k c (by rfl) _ rfl) ?_
      refine jv (.bool false) (exec_lss _ _ _ _ (by rfl) .i64 (k : Int) (k : Int) (by rfl) (by rfl) false (decide_eq_false (by omega))) ?_
      refine jz fun X1 hX1 => ?_
      have hOW := own_since hOW hX1
      have hB0 := hB0.bel hX1
      have hB1 := hB1.bel hX1
      have hB2 := hB2.bel hX1
      have hD6 := hD6.bel hX1
      have hb := bel_next hb hX1
      clear hX1
      go_upto_region 12 with (fail)
      refine jq 2 ?_
      refine ja hD6 Tryz.underlying48 (by rfl) info_cv ?_
      refine jn (.agg #[.slice A6 k c6, .int .i64 0]) ?_
      refine jz fun X2 hX2 => ?_
      have hOW := own_since hOW hX2
      have hB0 := hB0.bel hX2
      have hB1 := hB1.bel hX2
      have hB2 := hB2.bel hX2
      have hD6 := hD6.bel hX2
      have hb := bel_next hb hX2
      clear hX2
      refine osb 65 4 52 (w.heap.size + 2) 65 hB2 [.slice A6 k c6, .int .i64 0] info_md13 ?_
      intro w9 hR9 hO9 hB9 hs9
      have hb9 := hB9 _ _ hb (by omega)
      have hOW9 := own_blk (Y := w9) hOW (fun g t zs hg hz => hO9 _ _ _ (by have := own_base hOW _ hg; omega) hz)
      clear hO9 hB9
      go_wp2
      refine post_cell rfl rfl (by rfl) Tryz.underlying65 rfl hR9 info_md13 ⟨A6, k, c6, _, by rw [HFL.out.1], by have h9 := Rd.of_own hOW9; rw [List.take_of_length_le (by rw [HLN.out]; exact Nat.le_refl _)] at h9; exact h9, by rw [List.length_map]; exact HLN.out, HFL.out.2.symm, hb9⟩
theorem rscaleC (A : Option Addr) (n c : Nat) (l : List Pt) (n' : Bool) (p q : List UInt8) (ht : tz p q 1000000) (w : World) (hr : Rd w 4 (.slice A n c) n (fl ptc l)) (hln : l.length = n) (hn1 : n ≤ 9223372036854775807) (hf : fewP l 1000) : Calls Tryz.prog 46 #[.agg #[.slice A n c], .agg #[.bool n', .string ⟨p.toArray⟩, .string ⟨q.toArray⟩]] w fun e w' => ∃ A' m c' L, e = .returned (.agg #[.slice A' m c', .int .i64 (scE l (n', p, q))]) ∧ Rd w' 4 (.slice A' m c') m (fl ptc L) ∧ L.length = m ∧ L = (scL l (n', p, q)) ∧ Since w w' := by
  by_cases hc : ck l = 0
  · obtain ⟨b, off, rfl⟩ := some_addr hr hln hc
    rcases hv : vd n' p q with _ | _
    · exact rscaleB0 b off n c l n' p q ht w hr hln hn1 hf hc hv
    · rcases hn : n' with _ | _
      · rw [hn] at hv
        exact rscaleCo b off n c l false p q ht _ rfl w hr hln hn1 hf hc hv rfl
      · rw [hn] at hv
        exact rscaleB1 b off n c l true p q ht w hr hln hn1 hf hc hv rfl
  · exact rscaleCe A n c l n' p q ht w hr hln hn1 hf hc
end Go.Proofs.YtchhlgcakjjncaaGreatDoor
