/-
  The reference of layer 13: Shift, Scale.
-/
import Derived.Test.YtchhlgcakjjncaaGreatDoorRc3
set_option linter.unusedSimpArgs false
set_option linter.unusedVariables false
set_option maxRecDepth 100000
set_option maxHeartbeats 1600000
namespace Go.Proofs.YtchhlgcakjjncaaGreatDoor
open Go.RowKit
theorem own_blk {X Y : World} {base m n : Nat} {e : TypeId} {v : Value} {xs : List Value} (h : X.ownsRow base e m v n xs) (hk : ∀ g t zs, v.ownBlock = some g → Blk X g t zs → Blk Y g t zs) : Y.ownsRow base e m v n xs := by
  obtain ⟨hl, hr⟩ := h
  refine ⟨hl, hr.imp id ?_⟩
  rintro ⟨g, cap, cur, rfl, hb, hg, rest⟩
  have h9 : Blk X g e cur.toList := by
    show X.heap[g]? = some (.cells cur.toList.toArray e (0, 0))
    rw [Array.toArray_toList]
    exact hg
  have h8 := hk g e _ rfl h9
  refine ⟨g, cap, cur, rfl, hb, ?_, rest⟩
  have h7 : Y.heap[g]? = some (.cells cur.toList.toArray e (0, 0)) := h8
  rw [Array.toArray_toList] at h7
  exact h7
theorem exec_stp {f : Operand → Value} {o : Oper} (x y : Operand) (ho : o.op = .store 46 x y) (g j : Nat) {A : Option Addr} {n c : Nat} (hx : f x = .pointer (some ⟨g, j, none⟩)) (hy : f y = .slice A n c) (u : Value) (X : World) (hc : X.cell? ⟨g, j, none⟩ = some u) (hf : X.frozen? ⟨g, j, none⟩ = false) :
    (execOp f o).run Tryz.prog X = .ok .skip (X.setCell ⟨g, j, none⟩ (.slice A n c)) := by
  unfold execOp
  simp only [ho, hx, hy]
  go_simp
theorem fl_snocP (S : List Pt) (x : Pt) : fl ptc (S ++ [x]) = fl ptc S ++ ptc x := by
  unfold fl
  rw [List.map_append, List.flatten_append]
  simp
theorem map_snoc (F : Pt → Pt) {l : List Pt} {k : Nat} (hk : k < l.length) : fl ptc ((l.take (k + 1)).map F) = fl ptc ((l.take k).map F) ++ ptc (F (pt l k)) := by
  rw [take_snoc hk, List.map_append, List.map_cons, List.map_nil, fl_snocP, pt_get hk]
theorem rshiftCe (A : Option Addr) (n c : Nat) (l : List Pt) (d : Int) (w : World) (hr : Rd w 4 (.slice A n c) n (fl ptc l)) (hln : l.length = n) (hn1 : n ≤ 9223372036854775807) (hf : fewP l 1000) (hc : ck l ≠ 0) : Calls Tryz.prog 45 #[.agg #[.slice A n c], .int .i64 d] w fun e w' => ∃ A' m c' L, e = .returned (.agg #[.slice A' m c', .int .i64 (shE l d)]) ∧ Rd w' 4 (.slice A' m c') m (fl ptc L) ∧ L.length = m ∧ L = (shL l d) ∧ Since w w' := by
  have HRX : Hid (∀ X, Since w X → Rd X 4 (.slice A n c) n (fl ptc l)) := fun X h => hr.below h
  have HFL : Hid (shE l d = ck l ∧ shL l d = []) := ⟨if_pos hc, if_neg (fun h9 => hc h9.1)⟩
  clear hr
  go_enter Tryz.func45, Tryz.ntmps45
  go_upto_region 1 with (fail)
  obtain ⟨W0, hW0, hB0, hB1, hb⟩ := start2 w 48 65 [.slice A n c] [.slice none 0 0, .int .i64 0]
  rw [← hW0]
  clear hW0
  refine jp ?_
  refine ja hB0 Tryz.underlying48 (by rfl) info_cv ?_
  refine jc (.int .i64 (ck l)) (fun X hX hF => rcheckC A n c l X (HRX.out X (hb.trans (Below.mono hX hb.size))) hln hn1 hf.mono) ?_
  refine jm (.int .i64 (ck l)) ?_
  refine jz fun X1 hX1 => ?_
  have hB0 := hB0.bel hX1
  have hB1 := hB1.bel hX1
  have hb := bel_next hb hX1
  clear hX1
  go_upto_region 2 with (fail)
  refine jp ?_
  refine jm (.int .i64 (ck l)) ?_
  refine jv (.bool true) (exec_nei _ _ _ _ (by rfl) .i64 (ck l) 0 (by rfl) (by rfl) true (by rw [decide_eq_false (by omega)]; rfl)) ?_
  refine jz fun X2 hX2 => ?_
  have hB0 := hB0.bel hX2
  have hB1 := hB1.bel hX2
  have hb := bel_next hb hX2
  clear hX2
  go_upto_region 3 with (fail)
  refine jq 2 ?_
  refine jm (.int .i64 (ck l)) ?_
  refine jn (.agg #[.slice none 0 0, .int .i64 (ck l)]) ?_
  refine jz fun X3 hX3 => ?_
  have hB0 := hB0.bel hX3
  have hB1 := hB1.bel hX3
  have hb := bel_next hb hX3
  clear hX3
  refine osb 65 4 14 (w.heap.size + 1) 65 hB1 [.slice none 0 0, .int .i64 (ck l)] info_md13 ?_
  intro w9 hR9 hO9 hB9 hs9
  have hb9 := hB9 _ _ hb (by omega)
  clear hO9 hB9
  go_wp2
  refine post_cell rfl rfl (by rfl) Tryz.underlying65 rfl hR9 info_md13 ⟨none, 0, 0, [], by rw [HFL.out.1], Rd.nil4 _, rfl, HFL.out.2.symm, hb9⟩
theorem rshiftB0 (b off n c : Nat) (l : List Pt) (d : Int) (w : World) (hr : Rd w 4 (.slice (some ⟨b, off, none⟩) n c) n (fl ptc l)) (hln : l.length = n) (hn1 : n ≤ 9223372036854775807) (hf : fewP l 1000) (hc : ck l = 0) (h4 : 3000 < d) : Calls Tryz.prog 45 #[.agg #[.slice (some ⟨b, off, none⟩) n c], .int .i64 d] w fun e w' => ∃ A' m c' L, e = .returned (.agg #[.slice A' m c', .int .i64 (shE l d)]) ∧ Rd w' 4 (.slice A' m c') m (fl ptc L) ∧ L.length = m ∧ L = (shL l d) ∧ Since w w' := by
  have HRX : Hid (∀ X, Since w X → Rd X 4 (.slice (some ⟨b, off, none⟩) n c) n (fl ptc l)) := fun X h => hr.below h
  have HXR : Hid (∀ k, k < n → -1000 ≤ (pt l k).1 ∧ (pt l k).1 ≤ 2000) := fun k hk => by
    have h9 := (ck_zero hc).crv.rng k (by rw [List.length_map]; omega)
    rw [(kn_at (by omega)).1] at h9
    exact h9
  have HN : 1 ≤ n ∧ n ≤ 16 := by
    have h9 := hc
    unfold ck at h9
    split at h9 <;> omega
  have HFL : Hid (shE l d = 3 ∧ shL l d = []) := shE_bad hc (fun h9 => by
    have h8 := h9 0 (by omega)
    have h7 := HXR.out 0 (by omega)
    omega)
  clear hr
  go_enter Tryz.func45, Tryz.ntmps45
  go_upto_region 1 with (fail)
  obtain ⟨W0, hW0, hB0, hB1, hb⟩ := start2 w 48 65 [.slice (some ⟨b, off, none⟩) n c] [.slice none 0 0, .int .i64 0]
  rw [← hW0]
  clear hW0
  refine jp ?_
  refine ja hB0 Tryz.underlying48 (by rfl) info_cv ?_
  refine jc (.int .i64 0) (fun X hX hF => mo (rcheckC (some ⟨b, off, none⟩) n c l X (HRX.out X (hb.trans (Below.mono hX hb.size))) hln hn1 hf.mono) (by rw [hc])) ?_
  refine jm (.int .i64 0) ?_
  refine jz fun X1 hX1 => ?_
  have hB0 := hB0.bel hX1
  have hB1 := hB1.bel hX1
  have hb := bel_next hb hX1
  clear hX1
  go_upto_region 2 with (fail)
  refine jp ?_
  refine jm (.int .i64 0) ?_
  refine jv (.bool false) (exec_nei _ _ _ _ (by rfl) .i64 0 0 (by rfl) (by rfl) false (by rw [decide_eq_true (by omega)]; rfl)) ?_
  refine jz fun X2 hX2 => ?_
  have hB0 := hB0.bel hX2
  have hB1 := hB1.bel hX2
  have hb := bel_next hb hX2
  clear hX2
  go_upto_region 4 with (fail)
  refine jp ?_
  refine jm (.int .i64 d) ?_
  refine jv (.bool true) (exec_gtr _ _ _ _ (by rfl) .i64 d 3000 (by rfl) (by rfl) true (decide_eq_true (by omega))) ?_
  refine jm (.bool true) ?_
  refine js ?_
  refine js ?_
  refine jm (.bool true) ?_
  refine jz fun X3 hX3 => ?_
  have hB0 := hB0.bel hX3
  have hB1 := hB1.bel hX3
  have hb := bel_next hb hX3
  clear hX3
  go_upto_region 5 with (fail)
  refine jq 1 ?_
  refine jn (.agg #[.slice none 0 0, .int .i64 3]) ?_
  refine jz fun X4 hX4 => ?_
  have hB0 := hB0.bel hX4
  have hB1 := hB1.bel hX4
  have hb := bel_next hb hX4
  clear hX4
  refine osb 65 4 21 (w.heap.size + 1) 65 hB1 [.slice none 0 0, .int .i64 3] info_md13 ?_
  intro w9 hR9 hO9 hB9 hs9
  have hb9 := hB9 _ _ hb (by omega)
  clear hO9 hB9
  go_wp2
  refine post_cell rfl rfl (by rfl) Tryz.underlying65 rfl hR9 info_md13 ⟨none, 0, 0, [], by rw [HFL.out.1], Rd.nil4 _, rfl, HFL.out.2.symm, hb9⟩
theorem rshiftB1 (b off n c : Nat) (l : List Pt) (d : Int) (w : World) (hr : Rd w 4 (.slice (some ⟨b, off, none⟩) n c) n (fl ptc l)) (hln : l.length = n) (hn1 : n ≤ 9223372036854775807) (hf : fewP l 1000) (hc : ck l = 0) (h4 : d < -3000) : Calls Tryz.prog 45 #[.agg #[.slice (some ⟨b, off, none⟩) n c], .int .i64 d] w fun e w' => ∃ A' m c' L, e = .returned (.agg #[.slice A' m c', .int .i64 (shE l d)]) ∧ Rd w' 4 (.slice A' m c') m (fl ptc L) ∧ L.length = m ∧ L = (shL l d) ∧ Since w w' := by
  have HRX : Hid (∀ X, Since w X → Rd X 4 (.slice (some ⟨b, off, none⟩) n c) n (fl ptc l)) := fun X h => hr.below h
  have HXR : Hid (∀ k, k < n → -1000 ≤ (pt l k).1 ∧ (pt l k).1 ≤ 2000) := fun k hk => by
    have h9 := (ck_zero hc).crv.rng k (by rw [List.length_map]; omega)
    rw [(kn_at (by omega)).1] at h9
    exact h9
  have HN : 1 ≤ n ∧ n ≤ 16 := by
    have h9 := hc
    unfold ck at h9
    split at h9 <;> omega
  have HFL : Hid (shE l d = 3 ∧ shL l d = []) := shE_bad hc (fun h9 => by
    have h8 := h9 0 (by omega)
    have h7 := HXR.out 0 (by omega)
    omega)
  clear hr
  go_enter Tryz.func45, Tryz.ntmps45
  go_upto_region 1 with (fail)
  obtain ⟨W0, hW0, hB0, hB1, hb⟩ := start2 w 48 65 [.slice (some ⟨b, off, none⟩) n c] [.slice none 0 0, .int .i64 0]
  rw [← hW0]
  clear hW0
  refine jp ?_
  refine ja hB0 Tryz.underlying48 (by rfl) info_cv ?_
  refine jc (.int .i64 0) (fun X hX hF => mo (rcheckC (some ⟨b, off, none⟩) n c l X (HRX.out X (hb.trans (Below.mono hX hb.size))) hln hn1 hf.mono) (by rw [hc])) ?_
  refine jm (.int .i64 0) ?_
  refine jz fun X1 hX1 => ?_
  have hB0 := hB0.bel hX1
  have hB1 := hB1.bel hX1
  have hb := bel_next hb hX1
  clear hX1
  go_upto_region 2 with (fail)
  refine jp ?_
  refine jm (.int .i64 0) ?_
  refine jv (.bool false) (exec_nei _ _ _ _ (by rfl) .i64 0 0 (by rfl) (by rfl) false (by rw [decide_eq_true (by omega)]; rfl)) ?_
  refine jz fun X2 hX2 => ?_
  have hB0 := hB0.bel hX2
  have hB1 := hB1.bel hX2
  have hb := bel_next hb hX2
  clear hX2
  go_upto_region 4 with (fail)
  refine jp ?_
  refine jm (.int .i64 d) ?_
  refine jv (.bool false) (exec_gtr _ _ _ _ (by rfl) .i64 d 3000 (by rfl) (by rfl) false (decide_eq_false (by omega))) ?_
  refine jm (.bool false) ?_
  refine jm (.int .i64 d) ?_
  refine jv (.bool true) (exec_lss _ _ _ _ (by rfl) .i64 d (-3000) (by rfl) (by rfl) true (decide_eq_true (by omega))) ?_
  refine jm (.bool true) ?_
  refine jz fun X3 hX3 => ?_
  have hB0 := hB0.bel hX3
  have hB1 := hB1.bel hX3
  have hb := bel_next hb hX3
  clear hX3
  go_upto_region 5 with (fail)
  refine jq 1 ?_
  refine jn (.agg #[.slice none 0 0, .int .i64 3]) ?_
  refine jz fun X4 hX4 => ?_
  have hB0 := hB0.bel hX4
  have hB1 := hB1.bel hX4
  have hb := bel_next hb hX4
  clear hX4
  refine osb 65 4 21 (w.heap.size + 1) 65 hB1 [.slice none 0 0, .int .i64 3] info_md13 ?_
  intro w9 hR9 hO9 hB9 hs9
  have hb9 := hB9 _ _ hb (by omega)
  clear hO9 hB9
  go_wp2
  refine post_cell rfl rfl (by rfl) Tryz.underlying65 rfl hR9 info_md13 ⟨none, 0, 0, [], by rw [HFL.out.1], Rd.nil4 _, rfl, HFL.out.2.symm, hb9⟩
theorem rshiftCo (b off n c : Nat) (l : List Pt) (d : Int) (w : World) (hr : Rd w 4 (.slice (some ⟨b, off, none⟩) n c) n (fl ptc l)) (hln : l.length = n) (hn1 : n ≤ 9223372036854775807) (hf : fewP l 1000) (hc : ck l = 0) (h4 : d ≤ 3000) (h5 : -3000 ≤ d) : Calls Tryz.prog 45 #[.agg #[.slice (some ⟨b, off, none⟩) n c], .int .i64 d] w fun e w' => ∃ A' m c' L, e = .returned (.agg #[.slice A' m c', .int .i64 (shE l d)]) ∧ Rd w' 4 (.slice A' m c') m (fl ptc L) ∧ L.length = m ∧ L = (shL l d) ∧ Since w w' := by
  have HRX : Hid (∀ X, Since w X → Rd X 4 (.slice (some ⟨b, off, none⟩) n c) n (fl ptc l)) := fun X h => hr.below h
  have HXR : Hid (∀ k, k < n → -1000 ≤ (pt l k).1 ∧ (pt l k).1 ≤ 2000) := fun k hk => by
    have h9 := (ck_zero hc).crv.rng k (by rw [List.length_map]; omega)
    rw [(kn_at (by omega)).1] at h9
    exact h9
  have HN : 1 ≤ n ∧ n ≤ 16 := by
    have h9 := hc
    unfold ck at h9
    split at h9 <;> omega
  have HLN := Lib.hid hln
  have hbw : b < w.heap.size := (hr.ptIn hln (show 0 < n by omega)).1
  clear hr
  go_enter Tryz.func45, Tryz.ntmps45
  go_upto_region 1 with (fail)
  obtain ⟨W0, hW0, hB0, hB1, hb⟩ := start2 w 48 65 [.slice (some ⟨b, off, none⟩) n c] [.slice none 0 0, .int .i64 0]
  rw [← hW0]
  clear hW0
  refine jp ?_
  refine ja hB0 Tryz.underlying48 (by rfl) info_cv ?_
  refine jc (.int .i64 0) (fun X hX hF => mo (rcheckC (some ⟨b, off, none⟩) n c l X (HRX.out X (hb.trans (Below.mono hX hb.size))) hln hn1 hf.mono) (by rw [hc])) ?_
  refine jm (.int .i64 0) ?_
  refine jz fun X1 hX1 => ?_
  have hB0 := hB0.bel hX1
  have hB1 := hB1.bel hX1
  have hb := bel_next hb hX1
  clear hX1
  go_upto_region 2 with (fail)
  refine jp ?_
  refine jm (.int .i64 0) ?_
  refine jv (.bool false) (exec_nei _ _ _ _ (by rfl) .i64 0 0 (by rfl) (by rfl) false (by rw [decide_eq_true (by omega)]; rfl)) ?_
  refine jz fun X2 hX2 => ?_
  have hB0 := hB0.bel hX2
  have hB1 := hB1.bel hX2
  have hb := bel_next hb hX2
  clear hX2
  go_upto_region 4 with (fail)
  refine jp ?_
  refine jm (.int .i64 d) ?_
  refine jv (.bool false) (exec_gtr _ _ _ _ (by rfl) .i64 d 3000 (by rfl) (by rfl) false (decide_eq_false (by omega))) ?_
  refine jm (.bool false) ?_
  refine jm (.int .i64 d) ?_
  refine jv (.bool false) (exec_lss _ _ _ _ (by rfl) .i64 d (-3000) (by rfl) (by rfl) false (decide_eq_false (by omega))) ?_
  refine jm (.bool false) ?_
  refine jz fun X3 hX3 => ?_
  have hB0 := hB0.bel hX3
  have hB1 := hB1.bel hX3
  have hb := bel_next hb hX3
  clear hX3
  go_upto_region 7 with (fail)
  obtain ⟨Y6, hY9, hD6, hS9⟩ := start1 X3 48 [.slice none 0 0]
  rw [← hY9]
  clear hY9
  have hgs6 := hb.size
  have hlt6x0 := hB0.lt
  have hlt6x1 := hB1.lt
  have hB0 := hB0.bel hS9
  have hB1 := hB1.bel hS9
  have hb := bel_next hb hS9
  clear hS9
  generalize X3.heap.size = g6 at *
  refine jp ?_
  refine jm (.int .i64 0) ?_
  refine jz fun X4 hX4 => ?_
  have hB0 := hB0.bel hX4
  have hB1 := hB1.bel hX4
  have hD6 := hD6.bel hX4
  have hb := bel_next hb hX4
  clear hX4
  go_wp2
  go_loopw [7] (fun kv wr => ∃ (k : Nat) (A6 : Option Addr) (c6 : Nat), k ≤ n ∧ kv = .int .i64 (k : Int) ∧ Hid (∀ j, j < k → -1000 ≤ (pt l j).1 - d ∧ (pt l j).1 - d ≤ 2000) ∧ Blk wr w.heap.size 48 [.slice (some ⟨b, off, none⟩) n c] ∧ Blk wr (w.heap.size + 1) 65 [.slice none 0 0, .int .i64 0] ∧ Blk wr g6 48 [.slice A6 k c6] ∧ wr.ownsRow (g6 + 1) 110 4 (.slice A6 k c6) k (fl ptc ((l.take k).map (shP d))) ∧ Below w.heap.size w wr) (fun kv _ => n - (intOf kv).toNat)
  case atStart => exact ⟨0, none, 0, by omega, rfl, (fun j hj => by omega), hB0, hB1, hD6, ⟨rfl, .inl ⟨rfl, rfl⟩⟩, hb⟩
  case round =>
    clear hB0 hB1 hD6 hb
    obtain ⟨k, A6, c6, hk, rfl, HZ, hB0, hB1, hD6, hOW, hb⟩ := hrel
    rcases Nat.lt_or_ge k n with hlt9 | hlt9
    · obtain ⟨hbb, hcx⟩ := (HRX.out _ hb).ptIn HLN.out hlt9
      obtain ⟨x, hx9⟩ : ∃ x, x = pt l k := ⟨_, rfl⟩
      have HX := Lib.hid hx9
      clear hx9
      rw [← HX.out] at hcx
      have hkl : k < l.length := by rw [HLN.out]; exact hlt9
      have hxr : -1000 ≤ x.1 ∧ x.1 ≤ 2000 := by rw [HX.out]; exact HXR.out k hlt9
      go_upto_region 8 with (fail)
      refine jp ?_
      refine jm (.int .i64 (k : Int)) ?_
      refine jn (.pointer (some ⟨w.heap.size, 0, none⟩)) ?_
      refine jf (.slice (some ⟨b, off, none⟩) n c) hB0 0 load_pts ?_
      refine jv (.int .i64 (n : Int)) (exec_lenv Tryz.underlying46 _ (by rfl) (some ⟨b, off, none⟩) n c (by rfl) _ rfl) ?_
      refine jv (.bool true) (exec_lss _ _ _ _ (by rfl) .i64 (k : Int) (n : Int) (by rfl) (by rfl) true (decide_eq_true (by omega))) ?_
      refine jz fun X1 hX1 => ?_
      have hOW := own_since hOW hX1
      have hB0 := hB0.bel hX1
      have hB1 := hB1.bel hX1
      have hD6 := hD6.bel hX1
      have hcx := hcx.below hX1 hbb
      replace hbb := Nat.lt_of_lt_of_le hbb (hX1).size
      have hb := bel_next hb hX1
      clear hX1
      go_upto_region 10 with (fail)
      refine jp ?_
      refine jn (.pointer (some ⟨w.heap.size, 0, none⟩)) ?_
      refine jf (.slice (some ⟨b, off, none⟩) n c) hB0 0 load_pts ?_
      refine jm (.int .i64 (k : Int)) ?_
      refine jv (.pointer (some ⟨b, off + k * 4, none⟩)) (exec_ixv Tryz.underlying46 info_pt _ _ (by rfl) b (off) n c k (by omega) (by rfl) (by rfl) rfl) ?_
      refine jn (.pointer (some ⟨b, off + k * 4, none⟩)) ?_
      refine jg (.int .i64 x.1) (fun X hX hF => exec_ld 3 _ (by rfl) b (off + k * 4) (by rfl) _ X ((hcx.below hX hbb) 0 _ rfl) (fun X u h => load_int b (off + k * 4) X u h)) ?_
      refine jm (.int .i64 d) ?_
      refine jv (.int .i64 (x.1 - d)) (exec_sub _ _ _ _ (by rfl) x.1 d (x.1 - d) (by rfl) (by rfl) (by omega) (by omega) (by omega)) ?_
      refine jm (.int .i64 (x.1 - d)) ?_
      refine jz fun X2 hX2 => ?_
      have hOW := own_since hOW hX2
      have hB0 := hB0.bel hX2
      have hB1 := hB1.bel hX2
      have hD6 := hD6.bel hX2
      have hcx := hcx.below hX2 hbb
      replace hbb := Nat.lt_of_lt_of_le hbb (hX2).size
      have hb := bel_next hb hX2
      clear hX2
      rcases Int.lt_or_le (x.1 - d) (-1000) with hs1 | hs1
      · have HFL : Hid (shE l d = 3 ∧ shL l d = []) := shE_bad hc (fun h9 => by
          have h8 := h9 k hkl
          rw [← HX.out] at h8
          omega)
        go_upto_region 11 with (fail)
        refine jp ?_
        refine jm (.int .i64 (x.1 - d)) ?_
        refine jv (.bool true) (exec_lss _ _ _ _ (by rfl) .i64 (x.1 - d) (-1000) (by rfl) (by rfl) true (decide_eq_true (by omega))) ?_
        refine jm (.bool true) ?_
        refine js ?_
        refine js ?_
        refine jm (.bool true) ?_
        refine jz fun X3 hX3 => ?_
        have hOW := own_since hOW hX3
        have hB0 := hB0.bel hX3
        have hB1 := hB1.bel hX3
        have hD6 := hD6.bel hX3
        have hcx := hcx.below hX3 hbb
        replace hbb := Nat.lt_of_lt_of_le hbb (hX3).size
        have hb := bel_next hb hX3
        clear hX3
        go_upto_region 12 with (fail)
        refine jq 1 ?_
        refine jn (.agg #[.slice none 0 0, .int .i64 3]) ?_
        refine jz fun X4 hX4 => ?_
        have hOW := own_since hOW hX4
        have hB0 := hB0.bel hX4
        have hB1 := hB1.bel hX4
        have hD6 := hD6.bel hX4
        have hcx := hcx.below hX4 hbb
        replace hbb := Nat.lt_of_lt_of_le hbb (hX4).size
        have hb := bel_next hb hX4
        clear hX4
        refine osb 65 4 43 (w.heap.size + 1) 65 hB1 [.slice none 0 0, .int .i64 3] info_md13 ?_
        intro w9 hR9 hO9 hB9 hs9
        have hb9 := hB9 _ _ hb (by omega)
        clear hO9 hB9
        go_wp2
        refine post_cell rfl rfl (by rfl) Tryz.underlying65 rfl hR9 info_md13 ⟨none, 0, 0, [], by rw [HFL.out.1], Rd.nil4 _, rfl, HFL.out.2.symm, hb9⟩
      · rcases Int.lt_or_le 2000 (x.1 - d) with hs2 | hs2
        · have HFL : Hid (shE l d = 3 ∧ shL l d = []) := shE_bad hc (fun h9 => by
            have h8 := h9 k hkl
            rw [← HX.out] at h8
            omega)
          go_upto_region 11 with (fail)
          refine jp ?_
          refine jm (.int .i64 (x.1 - d)) ?_
          refine jv (.bool false) (exec_lss _ _ _ _ (by rfl) .i64 (x.1 - d) (-1000) (by rfl) (by rfl) false (decide_eq_false (by omega))) ?_
          refine jm (.bool false) ?_
          refine jm (.int .i64 (x.1 - d)) ?_
          refine jv (.bool true) (exec_gtr _ _ _ _ (by rfl) .i64 (x.1 - d) 2000 (by rfl) (by rfl) true (decide_eq_true (by omega))) ?_
          refine jm (.bool true) ?_
          refine jz fun X3 hX3 => ?_
          have hOW := own_since hOW hX3
          have hB0 := hB0.bel hX3
          have hB1 := hB1.bel hX3
          have hD6 := hD6.bel hX3
          have hcx := hcx.below hX3 hbb
          replace hbb := Nat.lt_of_lt_of_le hbb (hX3).size
          have hb := bel_next hb hX3
          clear hX3
          go_upto_region 12 with (fail)
          refine jq 1 ?_
          refine jn (.agg #[.slice none 0 0, .int .i64 3]) ?_
          refine jz fun X4 hX4 => ?_
          have hOW := own_since hOW hX4
          have hB0 := hB0.bel hX4
          have hB1 := hB1.bel hX4
          have hD6 := hD6.bel hX4
          have hcx := hcx.below hX4 hbb
          replace hbb := Nat.lt_of_lt_of_le hbb (hX4).size
          have hb := bel_next hb hX4
          clear hX4
          refine osb 65 4 43 (w.heap.size + 1) 65 hB1 [.slice none 0 0, .int .i64 3] info_md13 ?_
          intro w9 hR9 hO9 hB9 hs9
          have hb9 := hB9 _ _ hb (by omega)
          clear hO9 hB9
          go_wp2
          refine post_cell rfl rfl (by rfl) Tryz.underlying65 rfl hR9 info_md13 ⟨none, 0, 0, [], by rw [HFL.out.1], Rd.nil4 _, rfl, HFL.out.2.symm, hb9⟩
        · go_upto_region 11 with (fail)
          refine jp ?_
          refine jm (.int .i64 (x.1 - d)) ?_
          refine jv (.bool false) (exec_lss _ _ _ _ (by rfl) .i64 (x.1 - d) (-1000) (by rfl) (by rfl) false (decide_eq_false (by omega))) ?_
          refine jm (.bool false) ?_
          refine jm (.int .i64 (x.1 - d)) ?_
          refine jv (.bool false) (exec_gtr _ _ _ _ (by rfl) .i64 (x.1 - d) 2000 (by rfl) (by rfl) false (decide_eq_false (by omega))) ?_
          refine jm (.bool false) ?_
          refine jz fun X3 hX3 => ?_
          have hOW := own_since hOW hX3
          have hB0 := hB0.bel hX3
          have hB1 := hB1.bel hX3
          have hD6 := hD6.bel hX3
          have hcx := hcx.below hX3 hbb
          replace hbb := Nat.lt_of_lt_of_le hbb (hX3).size
          have hb := bel_next hb hX3
          clear hX3
          have HZ2 : Hid (∀ j, j < k + 1 → -1000 ≤ (pt l j).1 - d ∧ (pt l j).1 - d ≤ 2000) := fun j hj => by
            rcases Nat.lt_or_ge j k with h9 | h9
            · exact HZ.out j h9
            · rw [show j = k by omega, ← HX.out]; omega
          have hg6l := hD6.lt
          go_upto_region 13 with (fail)
          have hbA : (g6 + 1) ≤ X3.heap.size := by omega
          have hn_hB0 : (Value.ownBlock (.slice A6 k c6)) ≠ some w.heap.size := fun h9 => by have h8 := own_base hOW _ h9; omega
          have hn_hB1 : (Value.ownBlock (.slice A6 k c6)) ≠ some (w.heap.size + 1) := fun h9 => by have h8 := own_base hOW _ h9; omega
          have hn_hD6 : (Value.ownBlock (.slice A6 k c6)) ≠ some g6 := fun h9 => by have h8 := own_base hOW _ h9; omega
          refine la_tail (⟨(g6 + 1), 110, 4, .slice A6 k c6, k, (fl ptc ((l.take k).map (shP d))), [.int .i64 (x.1 - d), .bool x.2.1, .string ⟨x.2.2.1.toArray⟩, .string ⟨x.2.2.2.toArray⟩]⟩ : Ar) 11 [none, none, none, none, none, none, none, none, none, none, some (Anew (⟨(g6 + 1), 110, 4, .slice A6 k c6, k, (fl ptc ((l.take k).map (shP d))), [.int .i64 (x.1 - d), .bool x.2.1, .string ⟨x.2.2.1.toArray⟩, .string ⟨x.2.2.2.toArray⟩]⟩ : Ar) 110), some (Aout (⟨(g6 + 1), 110, 4, .slice A6 k c6, k, (fl ptc ((l.take k).map (shP d))), [.int .i64 (x.1 - d), .bool x.2.1, .string ⟨x.2.2.1.toArray⟩, .string ⟨x.2.2.2.toArray⟩]⟩ : Ar))] (by kernel_rfl) (by kernel_rfl) (by kernel_rfl) rfl (la_none (la_none (la_none (la_none (la_none (la_none (la_none (la_none (la_none (la_none (la_some (fun v X Y h hR => Anew.lasts v X Y h hR) (la_some (fun v X Y h hR => Aout.lasts v X Y h hR) (la_nil))))))))))))) ?_
          simp only [iB, List.dropLast, Nat.reduceAdd]
          refine an (.pointer (some ⟨g6, 0, none⟩)) ?_
          refine ag hOW hbA (.slice A6 k c6) (fun X σ hX hF => exec_ld 46 _ (by rfl) g6 0 (by rfl) _ X ((hX.blk hD6 hn_hD6).cell (j := 0) rfl) (fun X u h => load_pts g6 0 X u h)) ?_
          refine am (.int .i64 (x.1 - d)) ?_
          refine an (.pointer (some ⟨w.heap.size, 0, none⟩)) ?_
          refine ag hOW hbA (.slice (some ⟨b, off, none⟩) n c) (fun X σ hX hF => exec_ld 46 _ (by rfl) w.heap.size 0 (by rfl) _ X ((hX.blk hB0 hn_hB0).cell (j := 0) rfl) (fun X u h => load_pts w.heap.size 0 X u h)) ?_
          refine am (.int .i64 (k : Int)) ?_
          refine ag hOW hbA (.pointer (some ⟨b, off + k * 4, none⟩)) (fun X σ hX hF => exec_ixv Tryz.underlying46 info_pt _ _ (by rfl) b (off) n c k (by omega) (by rfl) (by rfl) rfl X) ?_
          refine an (.pointer (some ⟨b, off + k * 4 + 1, none⟩)) ?_
          refine ag hOW hbA (.agg #[.bool x.2.1, .string ⟨x.2.2.1.toArray⟩, .string ⟨x.2.2.2.toArray⟩]) (fun X σ hX hF => exec_ldc 23 _ (by rfl) b (off + k * 4 + 1) (by rfl) Tryz.underlying23 rfl [.bool x.2.1, .string ⟨x.2.2.1.toArray⟩, .string ⟨x.2.2.2.toArray⟩] X (Cl.part (hcx.below hX.below (show b < g6 + 1 by omega)) 1 _ (by rfl)) info_rat) ?_
          refine an (.agg #[.int .i64 (x.1 - d), .bool x.2.1, .string ⟨x.2.2.1.toArray⟩, .string ⟨x.2.2.2.toArray⟩]) ?_
          refine ab hOW 110 (fun X => by unfold execOp; go_simp) ?_
          intro v54
          refine aa hOW hbA 110 10 v54 List.mem_cons_self Tryz.underlying46 info_ptz rfl (show 0 < 4 by decide) (by rfl) (by intro u hu; simp only [List.mem_cons, List.not_mem_nil, or_false] at hu; rcases hu with rfl | rfl | rfl | rfl <;> rfl) (show k + 1 ≤ maxLen by unfold maxLen; omega) (show (k + 1) * 48 ≤ 140737488355328 by omega) ?_
          intro v55
          refine an (.pointer (some ⟨g6, 0, none⟩)) ?_
          refine az hOW hbA ?_
          intro X4 σ hX hF
          have hO55 : X4.ownsRow (g6 + 1) 110 4 v55 (k + 1) ((fl ptc ((l.take k).map (shP d))) ++ [.int .i64 (x.1 - d), .bool x.2.1, .string ⟨x.2.2.1.toArray⟩, .string ⟨x.2.2.2.toArray⟩]) := (hF _ _ List.mem_cons_self).2
          have hB0 := hX.blk hB0 hn_hB0
          have hB1 := hX.blk hB1 hn_hB1
          have hD6 := hX.blk hD6 hn_hD6
          have hb := hb.trans (hX.below.mono (show w.heap.size ≤ (g6 + 1) by omega))
          clear hF hn_hB0 hn_hB1 hn_hD6
          obtain ⟨A7, c7, rfl, _, _⟩ := (Rd.of_own hO55).form
          refine op_store1 rfl g6 0 48 _ hD6 (.slice A7 (k + 1) c7) (by simp) (fun X u h1 h2 => exec_stp _ _ (by rfl) _ _ (by rfl) (by rfl) u X h1 h2) ?_
          intro w9 hR9 hO9 hB9
          have hD6 : Blk w9 g6 48 [.slice A7 (k + 1) c7] := hR9
          have hb := hB9 _ _ hb (by omega)
          have hOW : w9.ownsRow (g6 + 1) 110 4 (.slice A7 (k + 1) c7) (k + 1) (fl ptc ((l.take (k + 1)).map (shP d))) := by
            rw [map_snoc (shP d) hkl, ← HX.out]
            exact own_blk hO55 (fun g t zs hg hz => hO9 _ _ _ (by have := own_base hO55 _ hg; omega) hz)
          have hB0 := hO9 _ _ _ (by omega) hB0
          have hB1 := hO9 _ _ _ (by omega) hB1
          clear hR9 hO9 hB9 hO55
          go_upto_region 9 with (fail)
          refine jp ?_
          refine jm (.int .i64 (k : Int)) ?_
          refine jv (.int .i64 ((k + 1 : Nat) : Int)) (exec_add _ _ _ _ (by rfl) (k : Int) 1 ((k + 1 : Nat) : Int) (by rfl) (by rfl) (by omega) (by omega) (by omega)) ?_
          refine jm (.int .i64 ((k + 1 : Nat) : Int)) ?_
          refine jz fun X5 hX5 => ?_
          have hOW := own_since hOW hX5
          have hB0 := hB0.bel hX5
          have hB1 := hB1.bel hX5
          have hD6 := hD6.bel hX5
          have hb := bel_next hb hX5
          clear hX5
          go_wp2
          go_roundw
          case rel => exact ⟨k + 1, A7, c7, by omega, rfl, HZ2, hB0, hB1, hD6, hOW, hb⟩
          case measure => simp [intOf]; omega
    · obtain rfl : k = n := by omega
      have HFL : Hid (shE l d = 0 ∧ shL l d = l.map (shP d)) := shL_ok hc (fun j hj => HZ.out j (by rw [← HLN.out]; exact hj))
      go_upto_region 8 with (fail)
      refine jp ?_
      refine jm (.int .i64 (k : Int)) ?_
      refine jn (.pointer (some ⟨w.heap.size, 0, none⟩)) ?_
      refine jf (.slice (some ⟨b, off, none⟩) k c) hB0 0 load_pts ?_
      refine jv (.int .i64 (k : Int)) (exec_lenv Tryz.underlying46 _ (by rfl) (some ⟨b, off, none⟩) k c (by rfl) _ rfl) ?_
      refine jv (.bool false) (exec_lss _ _ _ _ (by rfl) .i64 (k : Int) (k : Int) (by rfl) (by rfl) false (decide_eq_false (by omega))) ?_
      refine jz fun X1 hX1 => ?_
      have hOW := own_since hOW hX1
      have hB0 := hB0.bel hX1
      have hB1 := hB1.bel hX1
      have hD6 := hD6.bel hX1
      have hb := bel_next hb hX1
      clear hX1
      go_upto_region 14 with (fail)
      refine jq 2 ?_
      refine ja hD6 Tryz.underlying48 (by rfl) info_cv ?_
      refine jn (.agg #[.slice A6 k c6, .int .i64 0]) ?_
      refine jz fun X2 hX2 => ?_
      have hOW := own_since hOW hX2
      have hB0 := hB0.bel hX2
      have hB1 := hB1.bel hX2
      have hD6 := hD6.bel hX2
      have hb := bel_next hb hX2
      clear hX2
      refine osb 65 4 58 (w.heap.size + 1) 65 hB1 [.slice A6 k c6, .int .i64 0] info_md13 ?_
      intro w9 hR9 hO9 hB9 hs9
      have hb9 := hB9 _ _ hb (by omega)
      have hOW9 := own_blk (Y := w9) hOW (fun g t zs hg hz => hO9 _ _ _ (by have := own_base hOW _ hg; omega) hz)
      clear hO9 hB9
      go_wp2
      refine post_cell rfl rfl (by rfl) Tryz.underlying65 rfl hR9 info_md13 ⟨A6, k, c6, _, by rw [HFL.out.1], by have h9 := Rd.of_own hOW9; rw [List.take_of_length_le (by rw [HLN.out]; exact Nat.le_refl _)] at h9; exact h9, by rw [List.length_map]; exact HLN.out, HFL.out.2.symm, hb9⟩
theorem rshiftC (A : Option Addr) (n c : Nat) (l : List Pt) (d : Int) (w : World) (hr : Rd w 4 (.slice A n c) n (fl ptc l)) (hln : l.length = n) (hn1 : n ≤ 9223372036854775807) (hf : fewP l 1000) : Calls Tryz.prog 45 #[.agg #[.slice A n c], .int .i64 d] w fun e w' => ∃ A' m c' L, e = .returned (.agg #[.slice A' m c', .int .i64 (shE l d)]) ∧ Rd w' 4 (.slice A' m c') m (fl ptc L) ∧ L.length = m ∧ L = (shL l d) ∧ Since w w' := by
  by_cases hc : ck l = 0
  · obtain ⟨b, off, rfl⟩ := some_addr hr hln hc
    rcases Int.lt_or_le 3000 d with h4 | h4
    · exact rshiftB0 b off n c l d w hr hln hn1 hf hc h4
    · rcases Int.lt_or_le d (-3000) with h5 | h5
      · exact rshiftB1 b off n c l d w hr hln hn1 hf hc h5
      · exact rshiftCo b off n c l d w hr hln hn1 hf hc h4 h5
  · exact rshiftCe A n c l d w hr hln hn1 hf hc
end Go.Proofs.YtchhlgcakjjncaaGreatDoor
