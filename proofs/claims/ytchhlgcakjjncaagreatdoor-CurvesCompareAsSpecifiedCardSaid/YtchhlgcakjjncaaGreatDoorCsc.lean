/-
  curve: Scale.
-/
import Derived.Test.YtchhlgcakjjncaaGreatDoorCsh
set_option linter.unusedSimpArgs false
set_option linter.unusedVariables false
set_option maxRecDepth 100000
set_option maxHeartbeats 1600000
namespace Go.Proofs.YtchhlgcakjjncaaGreatDoor
open Go.RowKit
theorem op_store_part {P : Program} {w : World} {ops : Array Oper} {rest : List Oper} {o : Oper} {a : Act} {Q : Exit → Act → World → Prop} (hgd : o.guard = none) (ty : TypeId) (p x : Operand) (ho : o.op = .store ty p x) (g j : Nat) (t : TypeId) (xs : List Value) (hB : Blk w g t xs)
    (hp : a.eval p = .pointer (some ⟨g, j, none⟩)) (ys : List Value) (hx : a.eval x = .agg ys.toArray) (hl : j + ys.length ≤ xs.length) (h1 : ∀ v ∈ ys, v.oneCell' = true) (hi : (P.info? ty).map (·.size) = some ys.length)
    (h : ∀ w', Blk w' g t (xs.take j ++ ys ++ xs.drop (j + ys.length)) → (∀ g' t' zs, g' ≠ g → Blk w g' t' zs → Blk w' g' t' zs) → (∀ B W, Below B W w → B ≤ g → Below B W w') → wpList P ops Q rest (a.put o.dst undef) w') :
    wpList P ops Q (o :: rest) a w := by
  refine wpList_plain hgd fun K hK => ?_
  have hst := run_storeCells_at P g j t ys 0 xs.toArray w hB (by simpa using hl) h1
  simp only [Nat.add_zero] at hst
  have hr : (storeVar ty ⟨g, j, none⟩ (.agg ys.toArray)).run P w = .ok () (w.setRow g (xs.take j ++ ys ++ xs.drop (j + ys.length)).toArray) := by
    cases hq : P.info? ty with
    | none => simp [hq] at hi
    | some i =>
      have hsz : i.size = ys.length := by simpa [hq] using hi
      simp [storeVar, Value.cells, Sem.run_bind, sizeOf, typeInfo, hq, hsz]
      simpa using hst
  have h2 := setRow_heap w g xs.toArray (xs.take j ++ ys ++ xs.drop (j + ys.length)).toArray t (0, 0) hB
  have h3 := setRow_grown w g (xs.take j ++ ys ++ xs.drop (j + ys.length)).toArray
  unfold Oper.wp execOp
  simp only [ho, hp, hx, Instr.storeAt, Instr.sureAddr, Sem.run_bind, Sem.run_pure, Result.andThen_ok, hr]
  exact hK _ _ (h _ h2 (fun g' t' zs hne hz => (grown_block h3 hz.lt hne).trans hz) (fun B W hb hg => hb.grown h3 (by have := hB.lt; omega) (fun k hk => by simp at hk; omega)))
theorem fl_set3 : ∀ (S : List Pt) (tl : List Value) (k : Nat) (t : Tr), k < S.length → (fl ptc S ++ tl).take (k * 4 + 1) ++ [.bool t.1, .string ⟨t.2.1.toArray⟩, .string ⟨t.2.2.toArray⟩] ++ (fl ptc S ++ tl).drop (k * 4 + 1 + 3) = fl ptc (S.set k ((pt S k).1, t)) ++ tl
  | [], _, k, _, h => by simp at h
  | x :: S, tl, 0, t, _ => rfl
  | x :: S, tl, k + 1, t, h => by
    have ih := fl_set3 S tl k t (by simpa using h)
    have h9 : (k + 1) * 4 + 1 = k * 4 + 1 + 1 + 1 + 1 + 1 := by omega
    have h8 : (k + 1) * 4 + 1 + 3 = k * 4 + 1 + 3 + 1 + 1 + 1 + 1 := by omega
    rw [h8, h9]
    show ptc x ++ ((fl ptc S ++ tl).take (k * 4 + 1) ++ [.bool t.1, .string ⟨t.2.1.toArray⟩, .string ⟨t.2.2.toArray⟩] ++ (fl ptc S ++ tl).drop (k * 4 + 1 + 3)) = ptc x ++ (fl ptc (S.set k ((pt S k).1, t)) ++ tl)
    rw [ih]
def scE (l : List Pt) (t : Tr) : Int := if ck l ≠ 0 then ck l else if posB t = false then 1 else 0
def scP (y : Rat) (x : Pt) : Pt := (x.1, rN (trq x.2 * y), rP (trq x.2 * y), rD (trq x.2 * y))
def scL (l : List Pt) (t : Tr) : List Pt := if ck l = 0 ∧ posB t = true then l.map (scP (trq t)) else []
theorem scaleCe (A : Option Addr) (n c : Nat) (l : List Pt) (n' : Bool) (p q : List UInt8) (ht : tz p q 1000000) (w : World) (hr : Rd w 4 (.slice A n c) n (fl ptc l)) (hln : l.length = n) (hn1 : n ≤ 9223372036854775807) (hf : fewP l 1000) (hc : ck l ≠ 0) : Calls Tryz.prog 43 #[.agg #[.slice A n c], .agg #[.bool n', .string ⟨p.toArray⟩, .string ⟨q.toArray⟩]] w fun e w' => ∃ A' m c' L, e = .returned (.tuple #[.agg #[.slice A' m c'], .int .i64 (scE l (n', p, q))]) ∧ Rd w' 4 (.slice A' m c') m (fl ptc L) ∧ L.length = m ∧ L = (scL l (n', p, q)) ∧ (∀ b9 o9, A' = some ⟨b9, o9, none⟩ → w.heap.size ≤ b9) ∧ Since w w' := by
  have HRX : Hid (∀ X, Since w X → Rd X 4 (.slice A n c) n (fl ptc l)) := fun X h => hr.below h
  have HFL : Hid (scE l (n', p, q) = ck l ∧ scL l (n', p, q) = []) := ⟨if_pos hc, if_neg (fun h9 => hc h9.1)⟩
  clear hr
  go_enter Tryz.func43, Tryz.ntmps43
  go_upto_region 1 with (fail)
  obtain ⟨W0, hW0, hB0, hB1, hB2, hb⟩ := start3 w 48 23 48 [.slice A n c] [.bool n', .string ⟨p.toArray⟩, .string ⟨q.toArray⟩] [.slice none 0 0]
  rw [← hW0]
  clear hW0
  refine jp ?_
  refine ja hB0 Tryz.underlying48 (by rfl) info_cv ?_
  refine jc (.int .i64 (ck l)) (fun X hX hF => checkC A n c l X (HRX.out X (hb.trans (Below.mono hX hb.size))) hln hn1 hf.mono) ?_
  refine jm (.int .i64 (ck l)) ?_
  refine jz fun X1 hX1 => ?_
  have hB0 := hB0.bel hX1
  have hB1 := hB1.bel hX1
  have hB2 := hB2.bel hX1
  have hb := bel_next hb hX1
  clear hX1
  go_upto_region 2 with (fail)
  refine jp ?_
  refine jm (.int .i64 (ck l)) ?_
  refine jv (.bool true) (exec_nei _ _ _ _ (by rfl) .i64 (ck l) 0 (by rfl) (by rfl) true (by rw [decide_eq_false (by omega)]; rfl)) ?_
  refine jz fun X2 hX2 => ?_
  have hB0 := hB0.bel hX2
  have hB1 := hB1.bel hX2
  have hB2 := hB2.bel hX2
  have hb := bel_next hb hX2
  clear hX2
  go_upto_region 3 with (fail)
  refine jq 2 ?_
  refine jn (.agg #[.slice none 0 0]) ?_
  refine jm (.int .i64 (ck l)) ?_
  refine jz fun X3 hX3 => ?_
  have hB0 := hB0.bel hX3
  have hB1 := hB1.bel hX3
  have hB2 := hB2.bel hX3
  have hb := bel_next hb hX3
  clear hX3
  refine osb 48 4 13 (w.heap.size + 2) 48 hB2 [.slice none 0 0] info_cv ?_
  intro w9 hR9 hO9 hB9 hs9
  have hb9 := hB9 _ _ hb (by omega)
  clear hO9 hB9
  go_wp2
  refine post_cell2 (v := .int .i64 (ck l)) rfl rfl (by rfl) (by rfl) Tryz.underlying48 rfl hR9 info_cv ⟨none, 0, 0, [], by rw [HFL.out.1], Rd.nil4 _, rfl, HFL.out.2.symm, (fun b9 o9 h9 => by cases h9), hb9⟩
theorem scaleCp (A : Option Addr) (n c : Nat) (l : List Pt) (n' : Bool) (p q : List UInt8) (ht : tz p q 1000000) (w : World) (hr : Rd w 4 (.slice A n c) n (fl ptc l)) (hln : l.length = n) (hn1 : n ≤ 9223372036854775807) (hf : fewP l 1000) (hc : ck l = 0) (HP : Hid (posB (n', p, q) = false)) : Calls Tryz.prog 43 #[.agg #[.slice A n c], .agg #[.bool n', .string ⟨p.toArray⟩, .string ⟨q.toArray⟩]] w fun e w' => ∃ A' m c' L, e = .returned (.tuple #[.agg #[.slice A' m c'], .int .i64 (scE l (n', p, q))]) ∧ Rd w' 4 (.slice A' m c') m (fl ptc L) ∧ L.length = m ∧ L = (scL l (n', p, q)) ∧ (∀ b9 o9, A' = some ⟨b9, o9, none⟩ → w.heap.size ≤ b9) ∧ Since w w' := by
  have HRX : Hid (∀ X, Since w X → Rd X 4 (.slice A n c) n (fl ptc l)) := fun X h => hr.below h
  have HFL : Hid (scE l (n', p, q) = 1 ∧ scL l (n', p, q) = []) := ⟨by unfold scE; rw [if_neg (fun h9 => h9 hc), if_pos HP.out], if_neg (fun h9 => by rw [HP.out] at h9; exact absurd h9.2 (by decide))⟩
  clear hr
  go_enter Tryz.func43, Tryz.ntmps43
  go_upto_region 1 with (fail)
  obtain ⟨W0, hW0, hB0, hB1, hB2, hb⟩ := start3 w 48 23 48 [.slice A n c] [.bool n', .string ⟨p.toArray⟩, .string ⟨q.toArray⟩] [.slice none 0 0]
  rw [← hW0]
  clear hW0
  refine jp ?_
  refine ja hB0 Tryz.underlying48 (by rfl) info_cv ?_
  refine jc (.int .i64 (ck l)) (fun X hX hF => checkC A n c l X (HRX.out X (hb.trans (Below.mono hX hb.size))) hln hn1 hf.mono) ?_
  refine jm (.int .i64 (ck l)) ?_
  refine jz fun X1 hX1 => ?_
  have hB0 := hB0.bel hX1
  have hB1 := hB1.bel hX1
  have hB2 := hB2.bel hX1
  have hb := bel_next hb hX1
  clear hX1
  go_upto_region 2 with (fail)
  refine jp ?_
  refine jm (.int .i64 (ck l)) ?_
  refine jv (.bool false) (exec_nei _ _ _ _ (by rfl) .i64 (ck l) 0 (by rfl) (by rfl) false (by rw [decide_eq_true (by omega)]; rfl)) ?_
  refine jz fun X2 hX2 => ?_
  have hB0 := hB0.bel hX2
  have hB1 := hB1.bel hX2
  have hB2 := hB2.bel hX2
  have hb := bel_next hb hX2
  clear hX2
  go_upto_region 4 with (fail)
  refine jp ?_
  refine ja hB1 Tryz.underlying23 (by rfl) info_rat ?_
  refine jc (.bool false) (fun X hX hF => mo (posC n' p q X ht) (by rw [HP.out])) ?_
  refine jm (.bool true) ?_
  refine jz fun X3 hX3 => ?_
  have hB0 := hB0.bel hX3
  have hB1 := hB1.bel hX3
  have hB2 := hB2.bel hX3
  have hb := bel_next hb hX3
  clear hX3
  go_upto_region 5 with (fail)
  refine jq 1 ?_
  refine jn (.agg #[.slice none 0 0]) ?_
  refine jz fun X4 hX4 => ?_
  have hB0 := hB0.bel hX4
  have hB1 := hB1.bel hX4
  have hB2 := hB2.bel hX4
  have hb := bel_next hb hX4
  clear hX4
  refine osb 48 4 18 (w.heap.size + 2) 48 hB2 [.slice none 0 0] info_cv ?_
  intro w9 hR9 hO9 hB9 hs9
  have hb9 := hB9 _ _ hb (by omega)
  clear hO9 hB9
  go_wp2
  refine post_cell2 (v := .int .i64 1) rfl rfl (by rfl) (by rfl) Tryz.underlying48 rfl hR9 info_cv ⟨none, 0, 0, [], by rw [HFL.out.1], Rd.nil4 _, rfl, HFL.out.2.symm, (fun b9 o9 h9 => by cases h9), hb9⟩
/-- Where a map over the points has come to. -/
structure MpM (F : Pt → Pt) (l S : List Pt) (k : Nat) : Prop where
  len : S.length = l.length
  low : ∀ j, j < k → pt S j = F (pt l j)
  high : ∀ j, k ≤ j → pt S j = pt l j
theorem MpM.next {F : Pt → Pt} {l S : List Pt} {k : Nat} (h : MpM F l S k) (hk : k < l.length) {v : Pt} (hv : v = F (pt l k)) : MpM F l (S.set k v) (k + 1) := by
  have hl := h.len
  refine ⟨by rw [List.length_set]; exact hl, fun j hj => ?_, fun j hj => ?_⟩
  · rw [pt_set (by omega)]
    split
    · rename_i h1
      rw [h1, hv]
    · exact h.low j (by omega)
  · rw [pt_set (by omega), if_neg (by omega)]
    exact h.high j (by omega)
theorem MpM.done {F : Pt → Pt} {l S : List Pt} (h : MpM F l S l.length) : S = l.map F := by
  refine List.ext_getElem (by rw [List.length_map]; exact h.len) fun i h1 h2 => ?_
  have h3 := h.low i (by rw [← h.len]; exact h1)
  rw [pt_get h1, pt_get (by rw [← h.len]; exact h1)] at h3
  rw [h3, List.getElem_map]
theorem scaleCo (b off n c : Nat) (l : List Pt) (n' : Bool) (p q : List UInt8) (y : Rat) (HY : Hid (rq n' p q = y)) (ht : tz p q 1000000) (w : World) (hr : Rd w 4 (.slice (some ⟨b, off, none⟩) n c) n (fl ptc l)) (hln : l.length = n) (hn1 : n ≤ 9223372036854775807) (hf : fewP l 1000) (hc : ck l = 0) (HP : Hid (posB (n', p, q) = true)) : Calls Tryz.prog 43 #[.agg #[.slice (some ⟨b, off, none⟩) n c], .agg #[.bool n', .string ⟨p.toArray⟩, .string ⟨q.toArray⟩]] w fun e w' => ∃ A' m c' L, e = .returned (.tuple #[.agg #[.slice A' m c'], .int .i64 (scE l (n', p, q))]) ∧ Rd w' 4 (.slice A' m c') m (fl ptc L) ∧ L.length = m ∧ L = (scL l (n', p, q)) ∧ (∀ b9 o9, A' = some ⟨b9, o9, none⟩ → w.heap.size ≤ b9) ∧ Since w w' := by
  have HRX : Hid (∀ X, Since w X → Rd X 4 (.slice (some ⟨b, off, none⟩) n c) n (fl ptc l)) := fun X h => hr.below h
  have HN : 1 ≤ n ∧ n ≤ 16 := by
    have h9 := hc
    unfold ck at h9
    split at h9 <;> omega
  have HLN := Lib.hid hln
  clear hr
  go_enter Tryz.func43, Tryz.ntmps43
  go_upto_region 1 with (fail)
  obtain ⟨W0, hW0, hB0, hB1, hB2, hb⟩ := start3 w 48 23 48 [.slice (some ⟨b, off, none⟩) n c] [.bool n', .string ⟨p.toArray⟩, .string ⟨q.toArray⟩] [.slice none 0 0]
  rw [← hW0]
  clear hW0
  refine jp ?_
  refine ja hB0 Tryz.underlying48 (by rfl) info_cv ?_
  refine jc (.int .i64 (ck l)) (fun X hX hF => checkC _ n c l X (HRX.out X (hb.trans (Below.mono hX hb.size))) hln hn1 hf.mono) ?_
  refine jm (.int .i64 (ck l)) ?_
  refine jz fun X1 hX1 => ?_
  have hB0 := hB0.bel hX1
  have hB1 := hB1.bel hX1
  have hB2 := hB2.bel hX1
  have hb := bel_next hb hX1
  clear hX1
  go_upto_region 2 with (fail)
  refine jp ?_
  refine jm (.int .i64 (ck l)) ?_
  refine jv (.bool false) (exec_nei _ _ _ _ (by rfl) .i64 (ck l) 0 (by rfl) (by rfl) false (by rw [decide_eq_true (by omega)]; rfl)) ?_
  refine jz fun X2 hX2 => ?_
  have hB0 := hB0.bel hX2
  have hB1 := hB1.bel hX2
  have hB2 := hB2.bel hX2
  have hb := bel_next hb hX2
  clear hX2
  go_upto_region 4 with (fail)
  refine jp ?_
  refine ja hB1 Tryz.underlying23 (by rfl) info_rat ?_
  refine jc (.bool true) (fun X hX hF => mo (posC n' p q X ht) (by rw [HP.out])) ?_
  refine jm (.bool false) ?_
  refine jz fun X3 hX3 => ?_
  have hB0 := hB0.bel hX3
  have hB1 := hB1.bel hX3
  have hB2 := hB2.bel hX3
  have hb := bel_next hb hX3
  clear hX3
  go_upto_region 6 with (fail)
  refine jq 2 ?_
  refine jn (.pointer (some ⟨w.heap.size, 0, none⟩)) ?_
  refine jf (.slice (some ⟨b, off, none⟩) n c) hB0 0 load_pts ?_
  refine jz fun X4 hX4 => ?_
  have hB0 := hB0.bel hX4
  have hB1 := hB1.bel hX4
  have hB2 := hB2.bel hX4
  have hb := bel_next hb hX4
  clear hX4
  go_wp2_with fail
  refine (clonePC b off n c l _ (HRX.out _ hb) (by omega) (by omega)).mono ?_
  rintro e w6 ⟨g, c7, tl, rfl, hg, hc1, hc2, hB7, hb7⟩
  have hlt : w.heap.size + 2 < g := Nat.lt_of_lt_of_le hB2.lt hg
  have hB0 := hB0.bel hb7
  have hB1 := hB1.bel hb7
  have hB2 := hB2.bel hb7
  have hb := hb.trans (hb7.mono hb.size)
  clear hb7 hg
  go_upto_region 7 with (fail)
  go_upto_region 7 with (fail)
  refine jp ?_
  refine jm (.slice (some ⟨g, 0, none⟩) n c7) ?_
  refine jv (.int .i64 (n : Int)) (exec_lenv Tryz.underlying46 _ (by rfl) (some ⟨g, 0, none⟩) n c7 (by rfl) _ rfl) ?_
  refine jm (.int .i64 0) ?_
  refine jz fun X5 hX5 => ?_
  have hB0 := hB0.bel hX5
  have hB1 := hB1.bel hX5
  have hB2 := hB2.bel hX5
  have hB7 := hB7.bel hX5
  have hb := bel_next hb hX5
  clear hX5
  go_wp2
  go_loopw [24] (fun kv wr => ∃ (k : Nat) (S : List Pt), k ≤ n ∧ kv = .int .i64 (k : Int) ∧ Hid (MpM (scP y) l S k) ∧ Blk wr w.heap.size 48 [.slice (some ⟨b, off, none⟩) n c] ∧ Blk wr (w.heap.size + 1) 23 [.bool n', .string ⟨p.toArray⟩, .string ⟨q.toArray⟩] ∧ Blk wr (w.heap.size + 2) 48 [.slice none 0 0] ∧ Blk wr g 110 (fl ptc S ++ tl) ∧ Below w.heap.size w wr) (fun kv _ => n - (intOf kv).toNat)
  case atStart => exact ⟨0, l, by omega, rfl, ⟨rfl, (fun j hj => by omega), fun j _ => rfl⟩, hB0, hB1, hB2, hB7, hb⟩
  case round =>
    clear hB0 hB1 hB2 hB7 hb
    obtain ⟨k, S, hk, rfl, HM, hB0, hB1, hB2, hB7, hb⟩ := hrel
    rcases Nat.lt_or_ge k n with hlt9 | hlt9
    · have hx0 : pt S k = pt l k := HM.out.high k (Nat.le_refl _)
      obtain ⟨x, hx9⟩ : ∃ x, x = pt S k := ⟨_, rfl⟩
      have HX := Lib.hid hx9
      clear hx9
      have hlS : k < S.length := by rw [HM.out.len, HLN.out]; exact hlt9
      have hcx : Cl wr g (0 + k * 4) (ptc x) := hB7.cl.part (k * 4) (ptc x) (by rw [HX.out]; exact fl_ptAt S tl k hlS)
      have hbb := hB7.lt
      have htx : tz x.2.2.1 x.2.2.2 1000 := by rw [HX.out, hx0]; exact hf k (by rw [HLN.out]; exact hlt9)
      go_upto_region 8 with (fail)
      refine jp ?_
      refine jv (.bool true) (exec_lss _ _ _ _ (by rfl) .i64 (k : Int) (n : Int) (by rfl) (by rfl) true (decide_eq_true (by omega))) ?_
      refine jz fun X1 hX1 => ?_
      have hB0 := hB0.bel hX1
      have hB1 := hB1.bel hX1
      have hB2 := hB2.bel hX1
      have hB7 := hB7.bel hX1
      have hcx := hcx.below hX1 hbb
      replace hbb := Nat.lt_of_lt_of_le hbb (hX1).size
      have hb := bel_next hb hX1
      clear hX1
      go_upto_region 9 with (fail)
      refine jp ?_
      refine jm (.int .i64 (k : Int)) ?_
      refine jm (.int .i64 (k : Int)) ?_
      refine jz fun X2 hX2 => ?_
      have hB0 := hB0.bel hX2
      have hB1 := hB1.bel hX2
      have hB2 := hB2.bel hX2
      have hB7 := hB7.bel hX2
      have hcx := hcx.below hX2 hbb
      replace hbb := Nat.lt_of_lt_of_le hbb (hX2).size
      have hb := bel_next hb hX2
      clear hX2
      go_upto_region 10 with (fail)
      refine lx_region_tail [] (by kernel_rfl) (by kernel_rfl) (by kernel_rfl) rfl (lasts_nil) ?_
      simp only [its, List.dropLast, Nat.zero_add, Nat.reduceAdd]
      refine jm (.slice (some ⟨g, 0, none⟩) n c7) ?_
      refine jm (.int .i64 (k : Int)) ?_
      refine jm (.slice (some ⟨g, 0, none⟩) n c7) ?_
      refine jm (.int .i64 (k : Int)) ?_
      refine jv (.pointer (some ⟨g, 0 + k * 4, none⟩)) (exec_ixv Tryz.underlying46 info_pt _ _ (by rfl) g (0) n c7 k (by omega) (by rfl) (by rfl) rfl) ?_
      refine jn (.pointer (some ⟨g, 0 + k * 4 + 1, none⟩)) ?_
      refine jg (.agg #[.bool x.2.1, st x.2.2.1, st x.2.2.2]) (fun X hX hF => exec_ldc 23 _ (by rfl) g (0 + k * 4 + 1) (by rfl) Tryz.underlying23 rfl [.bool x.2.1, .string ⟨x.2.2.1.toArray⟩, .string ⟨x.2.2.2.toArray⟩] X (Cl.part (hcx.below hX hbb) 1 _ (by rfl)) info_rat) ?_
      refine ja hB1 Tryz.underlying23 (by rfl) info_rat ?_
      refine jc ((rbv (trq x.2 * y))) (fun X hX hF => mulG x.2.1 x.2.2.1 x.2.2.2 n' p q rfl HY.out X (htx.mono (by omega)) ht) ?_
      refine jv (.pointer (some ⟨g, 0 + k * 4, none⟩)) (exec_ixv Tryz.underlying46 info_pt _ _ (by rfl) g (0) n c7 k (by omega) (by rfl) (by rfl) rfl) ?_
      refine jn (.pointer (some ⟨g, 0 + k * 4 + 1, none⟩)) ?_
      refine jz fun X3 hX3 => ?_
      have hB0 := hB0.bel hX3
      have hB1 := hB1.bel hX3
      have hB2 := hB2.bel hX3
      have hB7 := hB7.bel hX3
      have hcx := hcx.below hX3 hbb
      replace hbb := Nat.lt_of_lt_of_le hbb (hX3).size
      have hb := bel_next hb hX3
      clear hX3
      refine op_store_part rfl 23 (.tmp 37) (.tmp 35) rfl g (0 + k * 4 + 1) 110 _ hB7 (by rfl) [.bool (rN (trq x.2 * y)), .string ⟨(rP (trq x.2 * y)).toArray⟩, .string ⟨(rD (trq x.2 * y)).toArray⟩] (by rfl) (by rw [List.length_append, fl_len (fun x _ => ptc_len x)]; show _ + 3 ≤ _; omega) (by intro u hu; simp only [List.mem_cons, List.not_mem_nil, or_false] at hu; rcases hu with rfl | rfl | rfl <;> rfl) info_rat ?_
      intro w9 hR9 hO9 hB9
      rw [Nat.zero_add] at hR9
      have hR9 : Blk w9 g 110 (fl ptc (S.set k ((pt S k).1, rN (trq x.2 * y), rP (trq x.2 * y), rD (trq x.2 * y))) ++ tl) := (fl_set3 S tl k (rN (trq x.2 * y), rP (trq x.2 * y), rD (trq x.2 * y)) hlS) ▸ hR9
      have hb := hB9 _ _ hb (by omega)
      have hB0 := hO9 _ _ _ (by omega) hB0
      have hB1 := hO9 _ _ _ (by omega) hB1
      have hB2 := hO9 _ _ _ (by omega) hB2
      have hB7 := hR9
      have hv9 : ((pt S k).1, rN (trq x.2 * y), rP (trq x.2 * y), rD (trq x.2 * y)) = scP y (pt l k) := by rw [HX.out, hx0]; rfl
      clear hR9 hO9 hB9 hcx hbb
      go_upto_region 11 with (fail)
      go_upto_region 11 with (fail)
      refine jp ?_
      refine jv (.int .i64 ((k + 1 : Nat) : Int)) (exec_add _ _ _ _ (by rfl) (k : Int) 1 ((k + 1 : Nat) : Int) (by rfl) (by rfl) (by omega) (by omega) (by omega)) ?_
      refine jm (.int .i64 ((k + 1 : Nat) : Int)) ?_
      refine jz fun X4 hX4 => ?_
      have hB0 := hB0.bel hX4
      have hB1 := hB1.bel hX4
      have hB2 := hB2.bel hX4
      have hB7 := hB7.bel hX4
      have hb := bel_next hb hX4
      clear hX4
      go_wp2
      go_roundw
      case rel => exact ⟨k + 1, _, by omega, rfl, HM.out.next (by rw [HLN.out]; exact hlt9) hv9, hB0, hB1, hB2, hB7, hb⟩
      case measure => simp [intOf]; omega
    · obtain rfl : k = n := by omega
      have HFL : Hid (scE l (n', p, q) = 0 ∧ scL l (n', p, q) = l.map (scP y)) := ⟨by unfold scE; rw [if_neg (fun h9 => h9 hc), if_neg (by rw [HP.out]; decide)], by unfold scL; rw [if_pos ⟨hc, HP.out⟩, ← HY.out]; rfl⟩
      have HS : Hid (S = l.map (scP y)) := by
        have h9 := HM.out
        rw [← HLN.out] at h9
        exact h9.done
      have hlS : S.length = k := by rw [HM.out.len, HLN.out]
      go_upto_region 8 with (fail)
      refine jp ?_
      refine jv (.bool false) (exec_lss _ _ _ _ (by rfl) .i64 (k : Int) (k : Int) (by rfl) (by rfl) false (decide_eq_false (by omega))) ?_
      refine jz fun X1 hX1 => ?_
      have hB0 := hB0.bel hX1
      have hB1 := hB1.bel hX1
      have hB2 := hB2.bel hX1
      have hB7 := hB7.bel hX1
      have hb := bel_next hb hX1
      clear hX1
      go_upto_region 12 with (fail)
      refine jq 2 ?_
      refine jm (.slice (some ⟨g, 0, none⟩) k c7) ?_
      refine jn (.agg #[.slice (some ⟨g, 0, none⟩) k c7]) ?_
      refine jz fun X2 hX2 => ?_
      have hB0 := hB0.bel hX2
      have hB1 := hB1.bel hX2
      have hB2 := hB2.bel hX2
      have hB7 := hB7.bel hX2
      have hb := bel_next hb hX2
      clear hX2
      refine osb 48 4 40 (w.heap.size + 2) 48 hB2 [.slice (some ⟨g, 0, none⟩) k c7] info_cv ?_
      intro w9 hR9 hO9 hB9 hs9
      have hb9 := hB9 _ _ hb (by omega)
      have hB79 := hO9 _ _ _ (by omega) hB7
      have hrd : Rd w9 4 (.slice (some ⟨g, 0, none⟩) k c7) k (fl ptc S) := ⟨by rw [fl_len (fun x _ => ptc_len x), hlS], _, _, rfl, hc1, hc2, (fun h => by cases h), fun _ => ⟨g, 0, rfl, hB79.lt, hB79.cl.head⟩⟩
      clear hO9 hB9
      go_wp2
      refine post_cell2 (v := .int .i64 0) rfl rfl (by rfl) (by rfl) Tryz.underlying48 rfl hR9 info_cv ⟨_, k, c7, S, by rw [HFL.out.1], hrd, hlS, by rw [HFL.out.2]; exact HS.out, (fun b9 o9 h9 => by injection h9 with h9; injection h9 with h9; omega), hb9⟩
theorem scaleC (A : Option Addr) (n c : Nat) (l : List Pt) (n' : Bool) (p q : List UInt8) (ht : tz p q 1000000) (w : World) (hr : Rd w 4 (.slice A n c) n (fl ptc l)) (hln : l.length = n) (hn1 : n ≤ 9223372036854775807) (hf : fewP l 1000) : Calls Tryz.prog 43 #[.agg #[.slice A n c], .agg #[.bool n', .string ⟨p.toArray⟩, .string ⟨q.toArray⟩]] w fun e w' => ∃ A' m c' L, e = .returned (.tuple #[.agg #[.slice A' m c'], .int .i64 (scE l (n', p, q))]) ∧ Rd w' 4 (.slice A' m c') m (fl ptc L) ∧ L.length = m ∧ L = (scL l (n', p, q)) ∧ (∀ b9 o9, A' = some ⟨b9, o9, none⟩ → w.heap.size ≤ b9) ∧ Since w w' := by
  by_cases hc : ck l = 0
  · rcases hp : posB (n', p, q) with _ | _
    · exact scaleCp A n c l n' p q ht w hr hln hn1 hf hc hp
    · obtain ⟨b, off, rfl⟩ := some_addr hr hln hc
      exact scaleCo b off n c l n' p q _ rfl ht w hr hln hn1 hf hc hp
  · exact scaleCe A n c l n' p q ht w hr hln hn1 hf hc
end Go.Proofs.YtchhlgcakjjncaaGreatDoor
