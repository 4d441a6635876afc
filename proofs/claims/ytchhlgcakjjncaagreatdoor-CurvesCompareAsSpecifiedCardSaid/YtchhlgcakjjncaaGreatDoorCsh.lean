/-
  curve: Shift.
-/
import Derived.Test.YtchhlgcakjjncaaGreatDoorCle
import Derived.Test.YtchhlgcakjjncaaGreatDoorCcl
set_option linter.unusedSimpArgs false
set_option linter.unusedVariables false
set_option maxRecDepth 100000
set_option maxHeartbeats 1600000
namespace Go.Proofs.YtchhlgcakjjncaaGreatDoor
open Go.RowKit
theorem fl_cons (x : Pt) (S : List Pt) : fl ptc (x :: S) = ptc x ++ fl ptc S := rfl
theorem fl_set1 : ∀ (S : List Pt) (k : Nat) (v : Int), k < S.length → (fl ptc S).set (k * 4) (.int .i64 v) = fl ptc (S.set k (v, (pt S k).2))
  | [], k, v, h => by simp at h
  | x :: S, 0, v, _ => rfl
  | x :: S, k + 1, v, h => by
    have ih := fl_set1 S k v (by simpa using h)
    rw [List.set_cons_succ, fl_cons, fl_cons]
    show (ptc x ++ fl ptc S).set ((k + 1) * 4) (Value.int IntKind.i64 v) = ptc x ++ fl ptc (S.set k (v, (pt S k).2))
    rw [← ih]
    have h9 : (k + 1) * 4 = k * 4 + 1 + 1 + 1 + 1 := by omega
    rw [h9]
    rfl
def shP (d : Int) (x : Pt) : Pt := (x.1 - d, x.2)
def shOk (l : List Pt) (d : Int) : Prop := ∀ k, k < l.length → -1000 ≤ (pt l k).1 - d ∧ (pt l k).1 - d ≤ 2000
open Classical in
noncomputable def shE (l : List Pt) (d : Int) : Int := if ck l ≠ 0 then ck l else if shOk l d then 0 else 3
open Classical in
noncomputable def shL (l : List Pt) (d : Int) : List Pt := if ck l = 0 ∧ shOk l d then l.map (shP d) else []
/-- Where a shift has come to. -/
structure ShM (l S : List Pt) (d : Int) (k : Nat) : Prop where
  len : S.length = l.length
  low : ∀ j, j < k → pt S j = shP d (pt l j)
  high : ∀ j, k ≤ j → pt S j = pt l j
theorem pt_get {l : List Pt} {k : Nat} (h : k < l.length) : pt l k = l[k] := by unfold pt; rw [List.getD_eq_getElem?_getD, List.getElem?_eq_getElem h]; rfl
theorem pt_set {l : List Pt} {k j : Nat} {v : Pt} (h : k < l.length) : pt (l.set k v) j = if j = k then v else pt l j := by
  unfold pt
  rw [List.getD_eq_getElem?_getD, List.getD_eq_getElem?_getD, List.getElem?_set]
  by_cases h1 : k = j
  · rw [if_pos h1, if_pos h1.symm, if_pos h]
    rfl
  · rw [if_neg h1, if_neg (fun h2 => h1 h2.symm)]
theorem ShM.next {l S : List Pt} {d : Int} {k : Nat} (h : ShM l S d k) (hk : k < l.length) : ShM l (S.set k ((pt S k).1 - d, (pt S k).2)) d (k + 1) := by
  have hl := h.len
  refine ⟨by rw [List.length_set]; exact hl, fun j hj => ?_, fun j hj => ?_⟩
  · rw [pt_set (by omega)]
    split
    · rename_i h1
      rw [h1, h.high k (Nat.le_refl _)]
      rfl
    · exact h.low j (by omega)
  · rw [pt_set (by omega), if_neg (by omega)]
    exact h.high j (by omega)
theorem ShM.done {l S : List Pt} {d : Int} (h : ShM l S d l.length) : S = l.map (shP d) := by
  refine List.ext_getElem (by rw [List.length_map]; exact h.len) fun i h1 h2 => ?_
  have h3 := h.low i (by rw [← h.len]; exact h1)
  rw [pt_get h1, pt_get (by rw [← h.len]; exact h1)] at h3
  rw [h3, List.getElem_map]
theorem fl_ptAt : ∀ (S : List Pt) (tl : List Value) (k : Nat), k < S.length → ((fl ptc S ++ tl).drop (k * 4)).take (ptc (pt S k)).length = ptc (pt S k)
  | [], _, k, h => by simp at h
  | x :: S, tl, 0, _ => rfl
  | x :: S, tl, k + 1, h => by
    have ih := fl_ptAt S tl k (by simpa using h)
    have h9 : (k + 1) * 4 = k * 4 + 1 + 1 + 1 + 1 := by omega
    rw [h9]
    exact ih
theorem exec_sti {f : Operand → Value} {o : Oper} (x y : Operand) (ho : o.op = .store 3 x y) (g j : Nat) {n : Int} (hx : f x = .pointer (some ⟨g, j, none⟩)) (hy : f y = .int .i64 n) (u : Value) (X : World) (hc : X.cell? ⟨g, j, none⟩ = some u) (hf : X.frozen? ⟨g, j, none⟩ = false) :
    (execOp f o).run Tryz.prog X = .ok .skip (X.setCell ⟨g, j, none⟩ (.int .i64 n)) := by
  unfold execOp
  simp only [ho, hx, hy]
  go_simp
theorem Cl.head {w : World} {b off : Nat} {xs tl : List Value} (h : Cl w b off (xs ++ tl)) : Cl w b off xs := fun j u hj => h j u (by rw [List.getElem?_append_left (List.getElem?_eq_some_iff.1 hj).1]; exact hj)
theorem Rd.nil4 (w : World) : Rd w 4 (.slice none 0 0) 0 [] := ⟨rfl, none, 0, rfl, Nat.le_refl _, Nat.zero_le _, fun _ => rfl, fun h => absurd h (Nat.lt_irrefl 0)⟩
theorem shiftCe (A : Option Addr) (n c : Nat) (l : List Pt) (d : Int) (w : World) (hr : Rd w 4 (.slice A n c) n (fl ptc l)) (hln : l.length = n) (hn1 : n ≤ 9223372036854775807) (hf : fewP l 1000) (hc : ck l ≠ 0) : Calls Tryz.prog 42 #[.agg #[.slice A n c], .int .i64 d] w fun e w' => ∃ A' m c' L, e = .returned (.tuple #[.agg #[.slice A' m c'], .int .i64 (shE l d)]) ∧ Rd w' 4 (.slice A' m c') m (fl ptc L) ∧ L.length = m ∧ L = (shL l d) ∧ (∀ b9 o9, A' = some ⟨b9, o9, none⟩ → w.heap.size ≤ b9) ∧ Since w w' := by
  have HRX : Hid (∀ X, Since w X → Rd X 4 (.slice A n c) n (fl ptc l)) := fun X h => hr.below h
  have HFL : Hid (shE l d = ck l ∧ shL l d = []) := ⟨if_pos hc, if_neg (fun h9 => hc h9.1)⟩
  clear hr
  go_enter Tryz.func42, Tryz.ntmps42
  go_upto_region 1 with (fail)
  obtain ⟨W0, hW0, hB0, hB1, hb⟩ := start2 w 48 48 [.slice A n c] [.slice none 0 0]
  rw [← hW0]
  clear hW0
  refine jp ?_
  refine ja hB0 Tryz.underlying48 (by rfl) info_cv ?_
  refine jc (.int .i64 (ck l)) (fun X hX hF => checkC A n c l X (HRX.out X (hb.trans (Below.mono hX hb.size))) hln hn1 hf.mono) ?_
  refine jm (.int .i64 (ck l)) ?_
  refine jz fun X1 hX1 => ?_
  have hB0 := hB0.bel hX1
  have hB1 := hB1.bel hX1
  have hb := bel_next hb hX1
  clear hX1
  go_upto_region 2 with (fail)
  refine jp ?_
  refine jm (.int .i64 (ck l)) ?_
  refine jv (.bool true) (exec_nei _ _ _ _ (by rfl) .i64 (ck l) 0 (by rfl) (by rfl) true (by rw [decide_eq_false (by omega)]; rfl)) ?_
  refine jz fun X2 hX2 => ?_
  have hB0 := hB0.bel hX2
  have hB1 := hB1.bel hX2
  have hb := bel_next hb hX2
  clear hX2
  go_upto_region 3 with (fail)
  refine jq 2 ?_
  refine jn (.agg #[.slice none 0 0]) ?_
  refine jm (.int .i64 (ck l)) ?_
  refine jz fun X3 hX3 => ?_
  have hB0 := hB0.bel hX3
  have hB1 := hB1.bel hX3
  have hb := bel_next hb hX3
  clear hX3
  refine osb 48 4 13 (w.heap.size + 1) 48 hB1 [.slice none 0 0] info_cv ?_
  intro w9 hR9 hO9 hB9 hs9
  have hb9 := hB9 _ _ hb (by omega)
  clear hO9 hB9
  go_wp2
  refine post_cell2 (v := .int .i64 (ck l)) rfl rfl (by rfl) (by rfl) Tryz.underlying48 rfl hR9 info_cv ⟨none, 0, 0, [], by rw [HFL.out.1], Rd.nil4 _, rfl, HFL.out.2.symm, (fun b9 o9 h9 => by cases h9), hb9⟩
theorem shiftCo (b off n c : Nat) (l : List Pt) (d : Int) (w : World) (hr : Rd w 4 (.slice (some ⟨b, off, none⟩) n c) n (fl ptc l)) (hln : l.length = n) (hn1 : n ≤ 9223372036854775807) (hf : fewP l 1000) (hc : ck l = 0) : Calls Tryz.prog 42 #[.agg #[.slice (some ⟨b, off, none⟩) n c], .int .i64 d] w fun e w' => ∃ A' m c' L, e = .returned (.tuple #[.agg #[.slice A' m c'], .int .i64 (shE l d)]) ∧ Rd w' 4 (.slice A' m c') m (fl ptc L) ∧ L.length = m ∧ L = (shL l d) ∧ (∀ b9 o9, A' = some ⟨b9, o9, none⟩ → w.heap.size ≤ b9) ∧ Since w w' := by
  have HRX : Hid (∀ X, Since w X → Rd X 4 (.slice (some ⟨b, off, none⟩) n c) n (fl ptc l)) := fun X h => hr.below h
  have HN : 1 ≤ n ∧ n ≤ 16 := by
    have h9 := hc
    unfold ck at h9
    split at h9 <;> omega
  have HLN := Lib.hid hln
  have HXR : Hid (∀ k, k < n → -1000 ≤ (pt l k).1 ∧ (pt l k).1 ≤ 2000) := fun k hk => by
    have h9 := (ck_zero hc).crv.rng k (by rw [List.length_map]; omega)
    rw [(kn_at (by omega)).1] at h9
    exact h9
  clear hr
  go_enter Tryz.func42, Tryz.ntmps42
  go_upto_region 1 with (fail)
  obtain ⟨W0, hW0, hB0, hB1, hb⟩ := start2 w 48 48 [.slice (some ⟨b, off, none⟩) n c] [.slice none 0 0]
  rw [← hW0]
  clear hW0
  refine jp ?_
  refine ja hB0 Tryz.underlying48 (by rfl) info_cv ?_
  refine jc (.int .i64 (ck l)) (fun X hX hF => checkC _ n c l X (HRX.out X (hb.trans (Below.mono hX hb.size))) hln hn1 hf.mono) ?_
  refine jm (.int .i64 (ck l)) ?_
  refine jz fun X1 hX1 => ?_
  have hB0 := hB0.bel hX1
  have hB1 := hB1.bel hX1
  have hb := bel_next hb hX1
  clear hX1
  go_upto_region 2 with (fail)
  refine jp ?_
  refine jm (.int .i64 (ck l)) ?_
  refine jv (.bool false) (exec_nei _ _ _ _ (by rfl) .i64 (ck l) 0 (by rfl) (by rfl) false (by rw [decide_eq_true (by omega)]; rfl)) ?_
  refine jz fun X2 hX2 => ?_
  have hB0 := hB0.bel hX2
  have hB1 := hB1.bel hX2
  have hb := bel_next hb hX2
  clear hX2
  go_upto_region 4 with (fail)
  refine jq 2 ?_
  refine jn (.pointer (some ⟨w.heap.size, 0, none⟩)) ?_
  refine jf (.slice (some ⟨b, off, none⟩) n c) hB0 0 load_pts ?_
  refine jz fun X3 hX3 => ?_
  have hB0 := hB0.bel hX3
  have hB1 := hB1.bel hX3
  have hb := bel_next hb hX3
  clear hX3
  go_wp2_with fail
  refine (clonePC b off n c l _ (HRX.out _ hb) (by omega) (by omega)).mono ?_
  rintro e w6 ⟨g, c7, tl, rfl, hg, hc1, hc2, hB7, hb7⟩
  have hlt : w.heap.size + 1 < g := Nat.lt_of_lt_of_le hB1.lt hg
  have hB0 := hB0.bel hb7
  have hB1 := hB1.bel hb7
  have hb := hb.trans (hb7.mono hb.size)
  clear hb7 hg
  go_upto_region 5 with (fail)
  go_upto_region 5 with (fail)
  refine jp ?_
  refine jm (.slice (some ⟨g, 0, none⟩) n c7) ?_
  refine jv (.int .i64 (n : Int)) (exec_lenv Tryz.underlying46 _ (by rfl) (some ⟨g, 0, none⟩) n c7 (by rfl) _ rfl) ?_
  refine jm (.int .i64 0) ?_
  refine jz fun X4 hX4 => ?_
  have hB0 := hB0.bel hX4
  have hB1 := hB1.bel hX4
  have hB7 := hB7.bel hX4
  have hb := bel_next hb hX4
  clear hX4
  go_wp2
  go_loopw [20] (fun kv wr => ∃ (k : Nat) (S : List Pt), k ≤ n ∧ kv = .int .i64 (k : Int) ∧ Hid (ShM l S d k) ∧ Hid (∀ j, j < k → -1000 ≤ (pt l j).1 - d ∧ (pt l j).1 - d ≤ 2000) ∧ Blk wr w.heap.size 48 [.slice (some ⟨b, off, none⟩) n c] ∧ Blk wr (w.heap.size + 1) 48 [.slice none 0 0] ∧ Blk wr g 110 (fl ptc S ++ tl) ∧ Below w.heap.size w wr) (fun kv _ => n - (intOf kv).toNat)
  case atStart => exact ⟨0, l, by omega, rfl, ⟨rfl, (fun j hj => by omega), fun j _ => rfl⟩, (fun j hj => by omega), hB0, hB1, hB7, hb⟩
  case round =>
    clear hB0 hB1 hB7 hb
    obtain ⟨k, S, hk, rfl, HM, HZ, hB0, hB1, hB7, hb⟩ := hrel
    rcases Nat.lt_or_ge k n with hlt9 | hlt9
    · have hx0 : pt S k = pt l k := HM.out.high k (Nat.le_refl _)
      obtain ⟨x, hx9⟩ : ∃ x, x = pt S k := ⟨_, rfl⟩
      have HX := Lib.hid hx9
      clear hx9
      have hlS : k < S.length := by rw [HM.out.len, HLN.out]; exact hlt9
      have hcx : Cl wr g (0 + k * 4) (ptc x) := hB7.cl.part (k * 4) (ptc x) (by rw [HX.out]; exact fl_ptAt S tl k hlS)
      have hbb := hB7.lt
      have hxr : -1000 ≤ x.1 ∧ x.1 ≤ 2000 := by rw [HX.out, hx0]; exact HXR.out k hlt9
      go_upto_region 6 with (fail)
      refine jp ?_
      refine jv (.bool true) (exec_lss _ _ _ _ (by rfl) .i64 (k : Int) (n : Int) (by rfl) (by rfl) true (decide_eq_true (by omega))) ?_
      refine jz fun X1 hX1 => ?_
      have hB0 := hB0.bel hX1
      have hB1 := hB1.bel hX1
      have hB7 := hB7.bel hX1
      have hcx := hcx.below hX1 hbb
      replace hbb := Nat.lt_of_lt_of_le hbb (hX1).size
      have hb := bel_next hb hX1
      clear hX1
      go_upto_region 7 with (fail)
      refine jp ?_
      refine jm (.int .i64 (k : Int)) ?_
      refine jm (.int .i64 (k : Int)) ?_
      refine jz fun X2 hX2 => ?_
      have hB0 := hB0.bel hX2
      have hB1 := hB1.bel hX2
      have hB7 := hB7.bel hX2
      have hcx := hcx.below hX2 hbb
      replace hbb := Nat.lt_of_lt_of_le hbb (hX2).size
      have hb := bel_next hb hX2
      clear hX2
      rcases Int.lt_or_le 4000 d with h4 | h4
      · have h8 : ¬ shOk l d := fun h9 => by
          have h7 := h9 k (by rw [HLN.out]; exact hlt9)
          rw [← hx0, ← HX.out] at h7
          omega
        have HFL : Hid (shE l d = 3 ∧ shL l d = []) := ⟨by unfold shE; rw [if_neg (fun h9 => h9 hc), if_neg h8], if_neg (fun h9 => h8 h9.2)⟩
        clear h8
        go_upto_region 8 with (fail)
        refine jp ?_
        refine jm (.int .i64 d) ?_
        refine jv (.bool true) (exec_gtr _ _ _ _ (by rfl) .i64 d 4000 (by rfl) (by rfl) true (decide_eq_true (by omega))) ?_
        refine jm (.bool true) ?_
        refine js ?_
        refine js ?_
        refine jm (.bool true) ?_
        refine jm (.bool true) ?_
        refine js ?_
        refine js ?_
        refine js ?_
        refine js ?_
        refine js ?_
        refine js ?_
        refine js ?_
        refine js ?_
        refine js ?_
        refine jm (.bool true) ?_
        refine jz fun X3 hX3 => ?_
        have hB0 := hB0.bel hX3
        have hB1 := hB1.bel hX3
        have hB7 := hB7.bel hX3
        have hcx := hcx.below hX3 hbb
        replace hbb := Nat.lt_of_lt_of_le hbb (hX3).size
        have hb := bel_next hb hX3
        clear hX3
        go_upto_region 9 with (fail)
        refine jq 1 ?_
        refine jn (.agg #[.slice none 0 0]) ?_
        refine jz fun X4 hX4 => ?_
        have hB0 := hB0.bel hX4
        have hB1 := hB1.bel hX4
        have hB7 := hB7.bel hX4
        have hcx := hcx.below hX4 hbb
        replace hbb := Nat.lt_of_lt_of_le hbb (hX4).size
        have hb := bel_next hb hX4
        clear hX4
        refine osb 48 4 40 (w.heap.size + 1) 48 hB1 [.slice none 0 0] info_cv ?_
        intro w9 hR9 hO9 hB9 hs9
        have hb9 := hB9 _ _ hb (by omega)
        clear hO9 hB9
        go_wp2
        refine post_cell2 (v := .int .i64 3) rfl rfl (by rfl) (by rfl) Tryz.underlying48 rfl hR9 info_cv ⟨none, 0, 0, [], by rw [HFL.out.1], Rd.nil4 _, rfl, HFL.out.2.symm, (fun b9 o9 h9 => by cases h9), hb9⟩
      · rcases Int.lt_or_le d (-4000) with h5 | h5
        · have h8 : ¬ shOk l d := fun h9 => by
            have h7 := h9 k (by rw [HLN.out]; exact hlt9)
            rw [← hx0, ← HX.out] at h7
            omega
          have HFL : Hid (shE l d = 3 ∧ shL l d = []) := ⟨by unfold shE; rw [if_neg (fun h9 => h9 hc), if_neg h8], if_neg (fun h9 => h8 h9.2)⟩
          clear h8
          go_upto_region 8 with (fail)
          refine jp ?_
          refine jm (.int .i64 d) ?_
          refine jv (.bool false) (exec_gtr _ _ _ _ (by rfl) .i64 d 4000 (by rfl) (by rfl) false (decide_eq_false (by omega))) ?_
          refine jm (.bool false) ?_
          refine jm (.int .i64 d) ?_
          refine jv (.bool true) (exec_lss _ _ _ _ (by rfl) .i64 d (-4000) (by rfl) (by rfl) true (decide_eq_true (by omega))) ?_
          refine jm (.bool true) ?_
          refine jm (.bool true) ?_
          refine js ?_
          refine js ?_
          refine js ?_
          refine js ?_
          refine js ?_
          refine js ?_
          refine js ?_
          refine js ?_
          refine js ?_
          refine jm (.bool true) ?_
          refine jz fun X3 hX3 => ?_
          have hB0 := hB0.bel hX3
          have hB1 := hB1.bel hX3
          have hB7 := hB7.bel hX3
          have hcx := hcx.below hX3 hbb
          replace hbb := Nat.lt_of_lt_of_le hbb (hX3).size
          have hb := bel_next hb hX3
          clear hX3
          go_upto_region 9 with (fail)
          refine jq 1 ?_
          refine jn (.agg #[.slice none 0 0]) ?_
          refine jz fun X4 hX4 => ?_
          have hB0 := hB0.bel hX4
          have hB1 := hB1.bel hX4
          have hB7 := hB7.bel hX4
          have hcx := hcx.below hX4 hbb
          replace hbb := Nat.lt_of_lt_of_le hbb (hX4).size
          have hb := bel_next hb hX4
          clear hX4
          refine osb 48 4 40 (w.heap.size + 1) 48 hB1 [.slice none 0 0] info_cv ?_
          intro w9 hR9 hO9 hB9 hs9
          have hb9 := hB9 _ _ hb (by omega)
          clear hO9 hB9
          go_wp2
          refine post_cell2 (v := .int .i64 3) rfl rfl (by rfl) (by rfl) Tryz.underlying48 rfl hR9 info_cv ⟨none, 0, 0, [], by rw [HFL.out.1], Rd.nil4 _, rfl, HFL.out.2.symm, (fun b9 o9 h9 => by cases h9), hb9⟩
        · by_cases hon : -1000 ≤ x.1 - d ∧ x.1 - d ≤ 2000
          · have HO : Hid (onB (x.1 - d) = true) := by unfold onB; exact decide_eq_true (by omega)
            have HZ2 : Hid (∀ j, j < k + 1 → -1000 ≤ (pt l j).1 - d ∧ (pt l j).1 - d ≤ 2000) := fun j hj => by
              rcases Nat.lt_or_ge j k with h9 | h9
              · exact HZ.out j h9
              · rw [show j = k by omega, ← hx0, ← HX.out]; omega
            go_upto_region 8 with (fail)
            refine jp ?_
            refine jm (.int .i64 d) ?_
            refine jv (.bool false) (exec_gtr _ _ _ _ (by rfl) .i64 d 4000 (by rfl) (by rfl) false (decide_eq_false (by omega))) ?_
            refine jm (.bool false) ?_
            refine jm (.int .i64 d) ?_
            refine jv (.bool false) (exec_lss _ _ _ _ (by rfl) .i64 d (-4000) (by rfl) (by rfl) false (decide_eq_false (by omega))) ?_
            refine jm (.bool false) ?_
            refine jm (.bool false) ?_
            refine jm (.slice (some ⟨g, 0, none⟩) n c7) ?_
            refine jm (.int .i64 (k : Int)) ?_
            refine jv (.pointer (some ⟨g, 0 + k * 4, none⟩)) (exec_ixv Tryz.underlying46 info_pt _ _ (by rfl) g (0) n c7 k (by omega) (by rfl) (by rfl) rfl) ?_
            refine jn (.pointer (some ⟨g, 0 + k * 4, none⟩)) ?_
            refine jg (.int .i64 x.1) (fun X hX hF => exec_ld 3 _ (by rfl) g (0 + k * 4) (by rfl) _ X ((hcx.below hX hbb) 0 _ rfl) (fun X u h => load_int g (0 + k * 4) X u h)) ?_
            refine jm (.int .i64 d) ?_
            refine jv (.int .i64 (x.1 - d)) (exec_sub _ _ _ _ (by rfl) x.1 d (x.1 - d) (by rfl) (by rfl) (by omega) (by omega) (by omega)) ?_
            refine jc (.bool true) (fun X hX hF => mo (onC (x.1 - d) X) (by rw [HO.out])) ?_
            refine jm (.bool false) ?_
            refine jm (.bool false) ?_
            refine jz fun X3 hX3 => ?_
            have hB0 := hB0.bel hX3
            have hB1 := hB1.bel hX3
            have hB7 := hB7.bel hX3
            have hcx := hcx.below hX3 hbb
            replace hbb := Nat.lt_of_lt_of_le hbb (hX3).size
            have hb := bel_next hb hX3
            clear hX3
            go_upto_region 10 with (fail)
            refine jq 9 ?_
            refine jm (.slice (some ⟨g, 0, none⟩) n c7) ?_
            refine jm (.int .i64 (k : Int)) ?_
            refine jv (.pointer (some ⟨g, 0 + k * 4, none⟩)) (exec_ixv Tryz.underlying46 info_pt _ _ (by rfl) g (0) n c7 k (by omega) (by rfl) (by rfl) rfl) ?_
            refine jn (.pointer (some ⟨g, 0 + k * 4, none⟩)) ?_
            refine jg (.int .i64 x.1) (fun X hX hF => exec_ld 3 _ (by rfl) g (0 + k * 4) (by rfl) _ X ((hcx.below hX hbb) 0 _ rfl) (fun X u h => load_int g (0 + k * 4) X u h)) ?_
            refine jm (.int .i64 d) ?_
            refine jv (.int .i64 (x.1 - d)) (exec_sub _ _ _ _ (by rfl) x.1 d (x.1 - d) (by rfl) (by rfl) (by omega) (by omega) (by omega)) ?_
            refine jv (.pointer (some ⟨g, 0 + k * 4, none⟩)) (exec_ixv Tryz.underlying46 info_pt _ _ (by rfl) g (0) n c7 k (by omega) (by rfl) (by rfl) rfl) ?_
            refine jn (.pointer (some ⟨g, 0 + k * 4, none⟩)) ?_
            refine jz fun X4 hX4 => ?_
            have hB0 := hB0.bel hX4
            have hB1 := hB1.bel hX4
            have hB7 := hB7.bel hX4
            have hcx := hcx.below hX4 hbb
            replace hbb := Nat.lt_of_lt_of_le hbb (hX4).size
            have hb := bel_next hb hX4
            clear hX4
            refine op_store1 rfl g (0 + k * 4) 110 _ hB7 (.int .i64 (x.1 - d)) (by rw [List.length_append, fl_len (fun x _ => ptc_len x)]; omega) (fun X u h1 h2 => exec_sti _ _ (by rfl) _ _ (by rfl) (by rfl) u X h1 h2) ?_
            intro w9 hR9 hO9 hB9
            rw [Nat.zero_add, List.set_append_left _ _ (by rw [fl_len (fun x _ => ptc_len x)]; omega), HX.out, fl_set1 S k _ hlS] at hR9
            have hb := hB9 _ _ hb (by omega)
            have hB0 := hO9 _ _ _ (by omega) hB0
            have hB1 := hO9 _ _ _ (by omega) hB1
            have hB7 := hR9
            clear hR9 hO9 hB9 hcx hbb
            go_upto_region 11 with (fail)
            go_upto_region 11 with (fail)
            refine jp ?_
            refine jv (.int .i64 ((k + 1 : Nat) : Int)) (exec_add _ _ _ _ (by rfl) (k : Int) 1 ((k + 1 : Nat) : Int) (by rfl) (by rfl) (by omega) (by omega) (by omega)) ?_
            refine jm (.int .i64 ((k + 1 : Nat) : Int)) ?_
            refine jz fun X5 hX5 => ?_
            have hB0 := hB0.bel hX5
            have hB1 := hB1.bel hX5
            have hB7 := hB7.bel hX5
            have hb := bel_next hb hX5
            clear hX5
            go_wp2
            go_roundw
            case rel => exact ⟨k + 1, _, by omega, rfl, HM.out.next (by rw [HLN.out]; exact hlt9), HZ2, hB0, hB1, hB7, hb⟩
            case measure => simp [intOf]; omega
          · have HO : Hid (onB (x.1 - d) = false) := by unfold onB; exact decide_eq_false hon
            have h8 : ¬ shOk l d := fun h9 => by
              have h7 := h9 k (by rw [HLN.out]; exact hlt9)
              rw [← hx0, ← HX.out] at h7
              omega
            have HFL : Hid (shE l d = 3 ∧ shL l d = []) := ⟨by unfold shE; rw [if_neg (fun h9 => h9 hc), if_neg h8], if_neg (fun h9 => h8 h9.2)⟩
            clear h8
            go_upto_region 8 with (fail)
            refine jp ?_
            refine jm (.int .i64 d) ?_
            refine jv (.bool false) (exec_gtr _ _ _ _ (by rfl) .i64 d 4000 (by rfl) (by rfl) false (decide_eq_false (by omega))) ?_
            refine jm (.bool false) ?_
            refine jm (.int .i64 d) ?_
            refine jv (.bool false) (exec_lss _ _ _ _ (by rfl) .i64 d (-4000) (by rfl) (by rfl) false (decide_eq_false (by omega))) ?_
            refine jm (.bool false) ?_
            refine jm (.bool false) ?_
            refine jm (.slice (some ⟨g, 0, none⟩) n c7) ?_
            refine jm (.int .i64 (k : Int)) ?_
            refine jv (.pointer (some ⟨g, 0 + k * 4, none⟩)) (exec_ixv Tryz.underlying46 info_pt _ _ (by rfl) g (0) n c7 k (by omega) (by rfl) (by rfl) rfl) ?_
            refine jn (.pointer (some ⟨g, 0 + k * 4, none⟩)) ?_
            refine jg (.int .i64 x.1) (fun X hX hF => exec_ld 3 _ (by rfl) g (0 + k * 4) (by rfl) _ X ((hcx.below hX hbb) 0 _ rfl) (fun X u h => load_int g (0 + k * 4) X u h)) ?_
            refine jm (.int .i64 d) ?_
            refine jv (.int .i64 (x.1 - d)) (exec_sub _ _ _ _ (by rfl) x.1 d (x.1 - d) (by rfl) (by rfl) (by omega) (by omega) (by omega)) ?_
            refine jc (.bool false) (fun X hX hF => mo (onC (x.1 - d) X) (by rw [HO.out])) ?_
            refine jm (.bool true) ?_
            refine jm (.bool true) ?_
            refine jz fun X3 hX3 => ?_
            have hB0 := hB0.bel hX3
            have hB1 := hB1.bel hX3
            have hB7 := hB7.bel hX3
            have hcx := hcx.below hX3 hbb
            replace hbb := Nat.lt_of_lt_of_le hbb (hX3).size
            have hb := bel_next hb hX3
            clear hX3
            go_upto_region 9 with (fail)
            refine jq 1 ?_
            refine jn (.agg #[.slice none 0 0]) ?_
            refine jz fun X4 hX4 => ?_
            have hB0 := hB0.bel hX4
            have hB1 := hB1.bel hX4
            have hB7 := hB7.bel hX4
            have hcx := hcx.below hX4 hbb
            replace hbb := Nat.lt_of_lt_of_le hbb (hX4).size
            have hb := bel_next hb hX4
            clear hX4
            refine osb 48 4 40 (w.heap.size + 1) 48 hB1 [.slice none 0 0] info_cv ?_
            intro w9 hR9 hO9 hB9 hs9
            have hb9 := hB9 _ _ hb (by omega)
            clear hO9 hB9
            go_wp2
            refine post_cell2 (v := .int .i64 3) rfl rfl (by rfl) (by rfl) Tryz.underlying48 rfl hR9 info_cv ⟨none, 0, 0, [], by rw [HFL.out.1], Rd.nil4 _, rfl, HFL.out.2.symm, (fun b9 o9 h9 => by cases h9), hb9⟩
    · obtain rfl : k = n := by omega
      have h8 : shOk l d := fun j hj => HZ.out j (by rw [← HLN.out]; exact hj)
      have HFL : Hid (shE l d = 0 ∧ shL l d = l.map (shP d)) := ⟨by unfold shE; rw [if_neg (fun h9 => h9 hc), if_pos h8], if_pos ⟨hc, h8⟩⟩
      have HS : Hid (S = l.map (shP d)) := by
        have h9 := HM.out
        rw [← HLN.out] at h9
        exact h9.done
      have hlS : S.length = k := by rw [HM.out.len, HLN.out]
      clear h8
      go_upto_region 6 with (fail)
      refine jp ?_
      refine jv (.bool false) (exec_lss _ _ _ _ (by rfl) .i64 (k : Int) (k : Int) (by rfl) (by rfl) false (decide_eq_false (by omega))) ?_
      refine jz fun X1 hX1 => ?_
      have hB0 := hB0.bel hX1
      have hB1 := hB1.bel hX1
      have hB7 := hB7.bel hX1
      have hb := bel_next hb hX1
      clear hX1
      go_upto_region 12 with (fail)
      refine jq 2 ?_
      refine jm (.slice (some ⟨g, 0, none⟩) k c7) ?_
      refine jn (.agg #[.slice (some ⟨g, 0, none⟩) k c7]) ?_
      refine jz fun X2 hX2 => ?_
      have hB0 := hB0.bel hX2
      have hB1 := hB1.bel hX2
      have hB7 := hB7.bel hX2
      have hb := bel_next hb hX2
      clear hX2
      refine osb 48 4 52 (w.heap.size + 1) 48 hB1 [.slice (some ⟨g, 0, none⟩) k c7] info_cv ?_
      intro w9 hR9 hO9 hB9 hs9
      have hb9 := hB9 _ _ hb (by omega)
      have hB79 := hO9 _ _ _ (by omega) hB7
      have hrd : Rd w9 4 (.slice (some ⟨g, 0, none⟩) k c7) k (fl ptc S) := ⟨by rw [fl_len (fun x _ => ptc_len x), hlS], _, _, rfl, hc1, hc2, (fun h => by cases h), fun _ => ⟨g, 0, rfl, hB79.lt, hB79.cl.head⟩⟩
      clear hO9 hB9
      go_wp2
      refine post_cell2 (v := .int .i64 0) rfl rfl (by rfl) (by rfl) Tryz.underlying48 rfl hR9 info_cv ⟨_, k, c7, S, by rw [HFL.out.1], hrd, hlS, by rw [HFL.out.2]; exact HS.out, (fun b9 o9 h9 => by injection h9 with h9; injection h9 with h9; omega), hb9⟩
theorem shiftC (A : Option Addr) (n c : Nat) (l : List Pt) (d : Int) (w : World) (hr : Rd w 4 (.slice A n c) n (fl ptc l)) (hln : l.length = n) (hn1 : n ≤ 9223372036854775807) (hf : fewP l 1000) : Calls Tryz.prog 42 #[.agg #[.slice A n c], .int .i64 d] w fun e w' => ∃ A' m c' L, e = .returned (.tuple #[.agg #[.slice A' m c'], .int .i64 (shE l d)]) ∧ Rd w' 4 (.slice A' m c') m (fl ptc L) ∧ L.length = m ∧ L = (shL l d) ∧ (∀ b9 o9, A' = some ⟨b9, o9, none⟩ → w.heap.size ≤ b9) ∧ Since w w' := by
  by_cases hc : ck l = 0
  · obtain ⟨b, off, rfl⟩ := some_addr hr hln hc
    exact shiftCo b off n c l d w hr hln hn1 hf hc
  · exact shiftCe A n c l d w hr hln hn1 hf hc
end Go.Proofs.YtchhlgcakjjncaaGreatDoor
