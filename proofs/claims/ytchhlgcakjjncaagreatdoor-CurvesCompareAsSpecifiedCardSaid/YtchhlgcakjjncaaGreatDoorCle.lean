/-
  curve: Flow, Least.
-/
import Derived.Test.YtchhlgcakjjncaaGreatDoorCat
set_option linter.unusedSimpArgs false
set_option linter.unusedVariables false
set_option maxRecDepth 100000
set_option maxHeartbeats 1600000
namespace Go.Proofs.YtchhlgcakjjncaaGreatDoor
open Go.RowKit
/-- The flow at a stage, 0 of a curve with an error. -/
def flowC0 (l : List Pt) (s : Int) : Rat := if ck l = 0 then flowAt (l.map kp) s else 0
theorem fewP.mono {l : List Pt} {m m' : Nat} (h : fewP l m) (hm : m ≤ m' := by omega) : fewP l m' := fun k hk => (h k hk).mono hm
theorem flowCe (A : Option Addr) (n c : Nat) (l : List Pt) (s : Int) (w : World) (hr : Rd w 4 (.slice A n c) n (fl ptc l)) (hln : l.length = n) (hn1 : n ≤ 9223372036854775807) (hf : fewP l 1000) (hc : ck l ≠ 0) : Calls Tryz.prog 40 #[.agg #[.slice A n c], .int .i64 s] w fun e w' => e = .returned (rbv (flowC0 l s)) ∧ Since w w' := by
  have HRX : Hid (∀ X, Since w X → Rd X 4 (.slice A n c) n (fl ptc l)) := fun X h => hr.below h
  have HFL : Hid (flowC0 l s = 0) := if_neg hc
  clear hr
  go_enter Tryz.func40, Tryz.ntmps40
  go_upto_region 1 with (fail)
  obtain ⟨W0, hW0, hB0, hB1, hb⟩ := start2 w 48 23 [.slice A n c] [.bool false, .string ⟨#[]⟩, .string ⟨#[]⟩]
  rw [← hW0]
  clear hW0
  refine jp ?_
  refine ja hB0 Tryz.underlying48 (by rfl) info_cv ?_
  refine jc (.int .i64 (ck l)) (fun X hX hF => checkC A n c l X (HRX.out X (hb.trans (Below.mono hX hb.size))) hln hn1 hf.mono) ?_
  refine jv (.bool true) (exec_nei _ _ _ _ (by rfl) .i64 (ck l) 0 (by rfl) (by rfl) true (by rw [decide_eq_false (by omega)]; rfl)) ?_
  refine jz fun X1 hX1 => ?_
  have hB0 := hB0.bel hX1
  have hB1 := hB1.bel hX1
  have hb := bel_next hb hX1
  clear hX1
  go_upto_region 2 with (fail)
  refine jq 1 ?_
  refine jn (rz) ?_
  refine jz fun X2 hX2 => ?_
  have hB0 := hB0.bel hX2
  have hB1 := hB1.bel hX2
  have hb := bel_next hb hX2
  clear hX2
  refine osb 23 4 8 (w.heap.size + 1) 23 hB1 [.bool false, .string ⟨#[]⟩, .string ⟨#[]⟩] info_rat ?_
  intro w9 hR9 hO9 hB9 hs9
  have hb9 := hB9 _ _ hb (by omega)
  clear hO9 hB9
  go_wp2
  refine post_cell rfl rfl (by rfl) Tryz.underlying23 rfl hR9 info_rat ⟨by rw [HFL.out]; rfl, hb9⟩
theorem flowCo (b off n c : Nat) (l : List Pt) (s : Int) (w : World) (hr : Rd w 4 (.slice (some ⟨b, off, none⟩) n c) n (fl ptc l)) (hln : l.length = n) (hn1 : n ≤ 9223372036854775807) (hf : fewP l 1000) (hc : ck l = 0) : Calls Tryz.prog 40 #[.agg #[.slice (some ⟨b, off, none⟩) n c], .int .i64 s] w fun e w' => e = .returned (rbv (flowC0 l s)) ∧ Since w w' := by
  have HRX : Hid (∀ X, Since w X → Rd X 4 (.slice (some ⟨b, off, none⟩) n c) n (fl ptc l)) := fun X h => hr.below h
  have HFL : Hid (flowC0 l s = flowAt (l.map kp) s) := if_pos hc
  have hok := ck_zero hc
  clear hr
  go_enter Tryz.func40, Tryz.ntmps40
  go_upto_region 1 with (fail)
  obtain ⟨W0, hW0, hB0, hB1, hb⟩ := start2 w 48 23 [.slice (some ⟨b, off, none⟩) n c] [.bool false, .string ⟨#[]⟩, .string ⟨#[]⟩]
  rw [← hW0]
  clear hW0
  refine jp ?_
  refine ja hB0 Tryz.underlying48 (by rfl) info_cv ?_
  refine jc (.int .i64 (ck l)) (fun X hX hF => checkC _ n c l X (HRX.out X (hb.trans (Below.mono hX hb.size))) hln hn1 hf.mono) ?_
  refine jv (.bool false) (exec_nei _ _ _ _ (by rfl) .i64 (ck l) 0 (by rfl) (by rfl) false (by rw [decide_eq_true (by omega)]; rfl)) ?_
  refine jz fun X1 hX1 => ?_
  have hB0 := hB0.bel hX1
  have hB1 := hB1.bel hX1
  have hb := bel_next hb hX1
  clear hX1
  go_upto_region 3 with (fail)
  refine jq 3 ?_
  refine ja hB0 Tryz.underlying48 (by rfl) info_cv ?_
  refine jm (.int .i64 s) ?_
  refine jc (rt (rN (flowAt (l.map kp) s)) (rP (flowAt (l.map kp) s)) (rD (flowAt (l.map kp) s))) (fun X hX hF => catC b off n c l s X (HRX.out X (hb.trans (Below.mono hX hb.size))) hln hok hf) ?_
  refine jz fun X2 hX2 => ?_
  have hB0 := hB0.bel hX2
  have hB1 := hB1.bel hX2
  have hb := bel_next hb hX2
  clear hX2
  refine osb 23 4 11 (w.heap.size + 1) 23 hB1 [.bool (rN (flowAt (l.map kp) s)), .string ⟨(rP (flowAt (l.map kp) s)).toArray⟩, .string ⟨(rD (flowAt (l.map kp) s)).toArray⟩] info_rat ?_
  intro w9 hR9 hO9 hB9 hs9
  have hb9 := hB9 _ _ hb (by omega)
  clear hO9 hB9
  go_wp2
  refine post_cell rfl rfl (by rfl) Tryz.underlying23 rfl hR9 info_rat ⟨by rw [HFL.out], hb9⟩
theorem some_addr {w : World} {A : Option Addr} {n c : Nat} {l : List Pt} (hr : Rd w 4 (.slice A n c) n (fl ptc l)) (hln : l.length = n) (hc : ck l = 0) : ∃ b off, A = some ⟨b, off, none⟩ := by
  have h1 := (ck_zero hc).crv.pos
  rw [List.length_map] at h1
  obtain ⟨b, off, hA, _⟩ := hr.ptAt hln (show 0 < n by omega)
  exact ⟨b, off, hA⟩
theorem flowC (A : Option Addr) (n c : Nat) (l : List Pt) (s : Int) (w : World) (hr : Rd w 4 (.slice A n c) n (fl ptc l)) (hln : l.length = n) (hn1 : n ≤ 9223372036854775807) (hf : fewP l 1000) : Calls Tryz.prog 40 #[.agg #[.slice A n c], .int .i64 s] w fun e w' => e = .returned (rbv (flowC0 l s)) ∧ Since w w' := by
  by_cases hc : ck l = 0
  · obtain ⟨b, off, rfl⟩ := some_addr hr hln hc
    exact flowCo b off n c l s w hr hln hn1 hf hc
  · exact flowCe A n c l s w hr hln hn1 hf hc
theorem exec_geqD {P : Program} {f : Operand → Value} {o : Oper} (t t' : TypeId) (x y : Operand) (ho : o.op = .binOp .geq t x y t') (kd : IntKind) (m n : Int) (hx : f x = .int kd m) (hy : f y = .int kd n) (X : World) : (execOp f o).run P X = .ok (.value (.bool (decide (n ≤ m)))) X := by
  by_cases h : n ≤ m
  · rw [decide_eq_true h]
    exact exec_geq _ _ _ _ ho kd m n hx hy true (decide_eq_true h) X
  · rw [decide_eq_false h]
    exact exec_geq _ _ _ _ ho kd m n hx hy false (decide_eq_false h) X
theorem flow_sz {l : List Pt} (hok : OkC l) (hf : fewP l 1000) (s : Int) : szR (flowAt (l.map kp) s) 10000 := by
  have hc := hok.crv
  have hz : ∀ k, k < l.length → szR (flw (l.map kp) k) 1000 := fun k hk => by
    rw [(kn_at hk).2]
    exact szR_tz rfl (hf k hk)
  have hr0 := cnt_le (l.map kp) s
  rw [List.length_map] at hr0
  unfold flowAt
  split
  · exact szR_zero.mono (by omega)
  · rename_i h1
    split
    · exact (hz _ (by omega)).mono (by omega)
    · rename_i h2
      rw [List.length_map] at h2
      have g1 := cnt_low (l.map kp) s _ (show cnt (l.map kp) s - 1 < cnt (l.map kp) s by omega)
      have g2 := cnt_at (l.map kp) s (by rw [List.length_map]; omega)
      have g3 := hc.rng (cnt (l.map kp) s - 1) (by rw [List.length_map]; omega)
      have g4 := hc.rng (cnt (l.map kp) s) (by rw [List.length_map]; omega)
      unfold lin
      refine (szR_add (hz _ (by omega)) (szR_mul (szR_div (szR_int (insB_of (by omega) (by omega))) (szR_int (insB_of (by omega) (by omega)))) (szR_sub (hz _ (by omega)) (hz _ (by omega))))).mono (by omega)
theorem cmp_dec (v x : Rat) : decide (0 ≤ cmpR v x) = decide (x ≤ v) := decide_eq_decide.2 cmpR_ge
theorem least1C (b off n c : Nat) (l : List Pt) (n' : Bool) (p q : List UInt8) (x : Rat) (g2 g3 k : Nat) (w : World) (hr : Rd w 4 (.slice (some ⟨b, off, none⟩) n c) n (fl ptc l)) (hln : l.length = n) (hok : OkC l) (hf : fewP l 1000) (hk : k < 3001) (HX : Hid (rq n' p q = x)) (ht : tz p q 1000000) (hB2 : Blk w g2 48 [.slice (some ⟨b, off, none⟩) n c]) (hB3 : Blk w g3 23 [.bool n', .string ⟨p.toArray⟩, .string ⟨q.toArray⟩]) (HD : Hid (decide (0 ≤ cmpR (flowAt (l.map kp) (-1000 + (k : Int))) x) = decide (x ≤ flowAt (l.map kp) (-1000 + (k : Int))))) : Calls Tryz.prog 85 #[.int .i64 (k : Int), .pointer (some ⟨g2, 0, none⟩), .pointer (some ⟨g3, 0, none⟩)] w fun e w' => e = .returned (.bool (decide (x ≤ flowAt (l.map kp) (-1000 + (k : Int))))) ∧ Since w w' := by
  have HRX : Hid (∀ X, Since w X → Rd X 4 (.slice (some ⟨b, off, none⟩) n c) n (fl ptc l)) := fun X h => hr.below h
  clear hr
  go_enter Tryz.func85, Tryz.ntmps85
  go_upto_region 1 with (fail)
  refine jd ?_
  refine ja hB2 Tryz.underlying48 (by rfl) info_cv ?_
  refine jm (.int .i64 (k : Int)) ?_
  refine jv (.int .i64 (-1000 + (k : Int))) (exec_add _ _ _ _ (by rfl) (-1000) (k : Int) (-1000 + (k : Int)) (by rfl) (by rfl) (by omega) (by omega) (by omega)) ?_
  refine jc (.agg #[.bool (rN (flowAt (l.map kp) (-1000 + (k : Int)))), st (rP (flowAt (l.map kp) (-1000 + (k : Int)))), st (rD (flowAt (l.map kp) (-1000 + (k : Int))))]) (fun X hX hF => catC b off n c l (-1000 + (k : Int)) X (HRX.out X hX) hln hok hf) ?_
  refine ja hB3 Tryz.underlying23 (by rfl) info_rat ?_
  refine jc (.int .i64 (cmpR (flowAt (l.map kp) (-1000 + (k : Int))) x)) (fun X hX hF => rcmpG (rN (flowAt (l.map kp) (-1000 + (k : Int)))) (rP (flowAt (l.map kp) (-1000 + (k : Int)))) (rD (flowAt (l.map kp) (-1000 + (k : Int)))) n' p q (rq_rb _) HX.out X (tzR (flow_sz hok hf _) (by omega)) ht) ?_
  refine jv (.bool (decide (0 ≤ cmpR (flowAt (l.map kp) (-1000 + (k : Int))) x))) (exec_geqD _ _ _ _ (by rfl) .i64 (cmpR (flowAt (l.map kp) (-1000 + (k : Int))) x) 0 (by rfl) (by rfl)) ?_
  refine jm (.bool (decide (0 ≤ cmpR (flowAt (l.map kp) (-1000 + (k : Int))) x))) ?_
  refine jz fun X1 hX1 => ?_
  have hB2 := hB2.bel hX1
  have hB3 := hB3.bel hX1
  have hb : Below w.heap.size w X1 := hX1
  clear hX1
  go_wp2
  go_ret
  exact ⟨by rw [HD.out]; rfl, hb⟩
/-- How many stages have less than a flow. -/
def lst (L : List Kn) (x : Rat) : Nat := ((List.range 3001).takeWhile fun k : Nat => decide (flowAt L (-1000 + (k : Int)) < x)).length
theorem lst_le (L : List Kn) (x : Rat) : lst L x ≤ 3001 := by
  have h := (List.takeWhile_sublist (l := List.range 3001) fun k : Nat => decide (flowAt L (-1000 + (k : Int)) < x)).length_le
  rwa [List.length_range] at h
theorem takeW_low {p : Nat → Bool} : ∀ (l : List Nat) (k : Nat), k < (l.takeWhile p).length → p (l.getD k 0) = true
  | [], k, h => by simp at h
  | a :: l, k, h => by
    rw [List.takeWhile_cons] at h
    split at h
    · rename_i h1
      cases k with
      | zero => simpa using h1
      | succ k => simpa using takeW_low l k (by simpa using h)
    · simp at h
theorem takeW_at {p : Nat → Bool} : ∀ (l : List Nat), (l.takeWhile p).length < l.length → p (l.getD (l.takeWhile p).length 0) = false
  | [], h => by simp at h
  | a :: l, h => by
    rw [List.takeWhile_cons] at h ⊢
    split
    · rename_i h1
      rw [if_pos h1] at h
      simpa using takeW_at l (by simpa using h)
    · rename_i h1
      simpa using h1
theorem range_getD {n k : Nat} (h : k < n) : (List.range n).getD k 0 = k := by simp [List.getD, h]
theorem lst_low {L : List Kn} {x : Rat} {k : Nat} (h : k < lst L x) : flowAt L (-1000 + (k : Int)) < x := by
  have h1 := takeW_low _ _ h
  rw [range_getD (Nat.lt_of_lt_of_le h (lst_le L x))] at h1
  exact of_decide_eq_true h1
theorem lst_at {L : List Kn} {x : Rat} (h : lst L x < 3001) : x ≤ flowAt L (-1000 + (lst L x : Int)) := by
  have h1 : decide (flowAt L (-1000 + (((List.range 3001).getD (lst L x) 0 : Nat) : Int)) < x) = false := takeW_at (p := fun k : Nat => decide (flowAt L (-1000 + (k : Int)) < x)) (List.range 3001) (by rw [List.length_range]; exact h)
  rw [range_getD h] at h1
  exact Rat.not_lt.1 (of_decide_eq_false h1)
theorem lst_dec {L : List Kn} (hc : Crv L) (x : Rat) {k : Nat} (hk : k < 3001) : decide (x ≤ flowAt L (-1000 + (k : Int))) = decide (lst L x ≤ k) := by
  rcases Nat.lt_or_ge k (lst L x) with h | h
  · have := lst_low h
    rw [decide_eq_false (Rat.not_le.2 this), decide_eq_false (by omega)]
  · have h1 := lst_at (L := L) (x := x) (by omega)
    have h2 := flow_mono hc (s := -1000 + (lst L x : Int)) (t := -1000 + (k : Int)) (by omega)
    rw [decide_eq_true (Rat.le_trans h1 h2), decide_eq_true h]
def leN (l : List Pt) (v : Bool) (x : Rat) : Int := if ck l ≠ 0 then 0 else if v = false then 0 else if lst (l.map kp) x < 3001 then -1000 + (lst (l.map kp) x : Int) else 0
def leE (l : List Pt) (v : Bool) (x : Rat) : Int := if ck l ≠ 0 then ck l else if v = false then 1 else if lst (l.map kp) x < 3001 then 0 else 8
theorem leastCe (A : Option Addr) (n c : Nat) (l : List Pt) (n' : Bool) (p q : List UInt8) (x : Rat) (HX : Hid (rq n' p q = x)) (ht : tz p q 1000000) (w : World) (hr : Rd w 4 (.slice A n c) n (fl ptc l)) (hln : l.length = n) (hn1 : n ≤ 9223372036854775807) (hf : fewP l 1000) (hc : ck l ≠ 0) : Calls Tryz.prog 36 #[.agg #[.slice A n c], .agg #[.bool n', .string ⟨p.toArray⟩, .string ⟨q.toArray⟩]] w fun e w' => e = .returned (.tuple #[.int .i64 (leN l (vd n' p q) x), .int .i64 (leE l (vd n' p q) x)]) ∧ Since w w' := by
  have HRX : Hid (∀ X, Since w X → Rd X 4 (.slice A n c) n (fl ptc l)) := fun X h => hr.below h
  have HFL : Hid (leN l (vd n' p q) x = 0 ∧ leE l (vd n' p q) x = ck l) := ⟨if_pos hc, if_pos hc⟩
  clear hr
  go_enter Tryz.func36, Tryz.ntmps36
  go_upto_region 1 with (fail)
  obtain ⟨W0, hW0, hB0, hB1, hb⟩ := start2 w 48 23 [.slice A n c] [.bool n', .string ⟨p.toArray⟩, .string ⟨q.toArray⟩]
  rw [← hW0]
  clear hW0
  refine jp ?_
  refine ja hB0 Tryz.underlying48 (by rfl) info_cv ?_
  refine jc (.int .i64 (ck l)) (fun X hX hF => checkC A n c l X (HRX.out X (hb.trans (Below.mono hX hb.size))) hln hn1 hf.mono) ?_
  refine jm (.int .i64 (ck l)) ?_
  refine jz fun X1 hX1 => ?_
  have hB0 := hB0.bel hX1
  have hB1 := hB1.bel hX1
  have hb := bel_next hb hX1
  clear hX1
  go_upto_region 2 with (fail)
  refine jp ?_
  refine jm (.int .i64 (ck l)) ?_
  refine jv (.bool true) (exec_nei _ _ _ _ (by rfl) .i64 (ck l) 0 (by rfl) (by rfl) true (by rw [decide_eq_false (by omega)]; rfl)) ?_
  refine jz fun X2 hX2 => ?_
  have hB0 := hB0.bel hX2
  have hB1 := hB1.bel hX2
  have hb := bel_next hb hX2
  clear hX2
  go_upto_region 3 with (fail)
  refine jp ?_
  refine jm (.int .i64 (ck l)) ?_
  refine jm (.int .i64 0) ?_
  refine jm (.int .i64 (ck l)) ?_
  refine jz fun X3 hX3 => ?_
  have hB0 := hB0.bel hX3
  have hB1 := hB1.bel hX3
  have hb := bel_next hb hX3
  clear hX3
  go_wp2
  go_ret2
  exact ⟨by rw [HFL.out.1, HFL.out.2]; rfl, hb⟩
theorem leastCo_false (b off n c : Nat) (l : List Pt) (n' : Bool) (p q : List UInt8) (x : Rat) (HX : Hid (rq n' p q = x)) (ht : tz p q 1000000) (w : World) (hr : Rd w 4 (.slice (some ⟨b, off, none⟩) n c) n (fl ptc l)) (hln : l.length = n) (hn1 : n ≤ 9223372036854775807) (hf : fewP l 1000) (hc : ck l = 0) (HV : Hid (vd n' p q = false)) (HFL : Hid (leN l (vd n' p q) x = 0 ∧ leE l (vd n' p q) x = 1)) : Calls Tryz.prog 36 #[.agg #[.slice (some ⟨b, off, none⟩) n c], .agg #[.bool n', .string ⟨p.toArray⟩, .string ⟨q.toArray⟩]] w fun e w' => e = .returned (.tuple #[.int .i64 (leN l (vd n' p q) x), .int .i64 (leE l (vd n' p q) x)]) ∧ Since w w' := by
  have HRX : Hid (∀ X, Since w X → Rd X 4 (.slice (some ⟨b, off, none⟩) n c) n (fl ptc l)) := fun X h => hr.below h
  have hok := ck_zero hc
  clear hr
  go_enter Tryz.func36, Tryz.ntmps36
  go_upto_region 1 with (fail)
  obtain ⟨W0, hW0, hB0, hB1, hb⟩ := start2 w 48 23 [.slice (some ⟨b, off, none⟩) n c] [.bool n', .string ⟨p.toArray⟩, .string ⟨q.toArray⟩]
  rw [← hW0]
  clear hW0
  refine jp ?_
  refine ja hB0 Tryz.underlying48 (by rfl) info_cv ?_
  refine jc (.int .i64 (ck l)) (fun X hX hF => checkC _ n c l X (HRX.out X (hb.trans (Below.mono hX hb.size))) hln hn1 hf.mono) ?_
  refine jm (.int .i64 (ck l)) ?_
  refine jz fun X1 hX1 => ?_
  have hB0 := hB0.bel hX1
  have hB1 := hB1.bel hX1
  have hb := bel_next hb hX1
  clear hX1
  go_upto_region 2 with (fail)
  refine jp ?_
  refine jm (.int .i64 (ck l)) ?_
  refine jv (.bool false) (exec_nei _ _ _ _ (by rfl) .i64 (ck l) 0 (by rfl) (by rfl) false (by rw [decide_eq_true (by omega)]; rfl)) ?_
  refine jz fun X2 hX2 => ?_
  have hB0 := hB0.bel hX2
  have hB1 := hB1.bel hX2
  have hb := bel_next hb hX2
  clear hX2
  go_upto_region 4 with (fail)
  refine jp ?_
  refine ja hB1 Tryz.underlying23 (by rfl) info_rat ?_
  refine jc (.bool false) (fun X hX hF => mo (validG n' p q X ht) (by rw [HV.out])) ?_
  refine jm (.bool true) ?_
  refine jz fun X3 hX3 => ?_
  have hB0 := hB0.bel hX3
  have hB1 := hB1.bel hX3
  have hb := bel_next hb hX3
  clear hX3
  go_upto_region 5 with (fail)
  refine jp ?_
  refine jm (.int .i64 0) ?_
  refine jm (.int .i64 1) ?_
  refine jz fun X4 hX4 => ?_
  have hB0 := hB0.bel hX4
  have hB1 := hB1.bel hX4
  have hb := bel_next hb hX4
  clear hX4
  go_wp2
  go_ret2
  exact ⟨by rw [HFL.out.1, HFL.out.2]; rfl, hb⟩
theorem leastCo_true (b off n c : Nat) (l : List Pt) (n' : Bool) (p q : List UInt8) (x : Rat) (HX : Hid (rq n' p q = x)) (ht : tz p q 1000000) (w : World) (hr : Rd w 4 (.slice (some ⟨b, off, none⟩) n c) n (fl ptc l)) (hln : l.length = n) (hn1 : n ≤ 9223372036854775807) (hf : fewP l 1000) (hc : ck l = 0) (HV : Hid (vd n' p q = true)) (r : Nat) (hrn : r ≤ 3001) (HR : Hid (lst (l.map kp) x = r)) (HCT : Hid (∀ k : Nat, k < 3001 → decide (x ≤ flowAt (l.map kp) (-1000 + (k : Int))) = decide (r ≤ k))) : Calls Tryz.prog 36 #[.agg #[.slice (some ⟨b, off, none⟩) n c], .agg #[.bool n', .string ⟨p.toArray⟩, .string ⟨q.toArray⟩]] w fun e w' => e = .returned (.tuple #[.int .i64 (leN l (vd n' p q) x), .int .i64 (leE l (vd n' p q) x)]) ∧ Since w w' := by
  have HRX : Hid (∀ X, Since w X → Rd X 4 (.slice (some ⟨b, off, none⟩) n c) n (fl ptc l)) := fun X h => hr.below h
  have hok := ck_zero hc
  clear hr
  go_enter Tryz.func36, Tryz.ntmps36
  go_upto_region 1 with (fail)
  obtain ⟨W0, hW0, hB0, hB1, hb⟩ := start2 w 48 23 [.slice (some ⟨b, off, none⟩) n c] [.bool n', .string ⟨p.toArray⟩, .string ⟨q.toArray⟩]
  rw [← hW0]
  clear hW0
  refine jp ?_
  refine ja hB0 Tryz.underlying48 (by rfl) info_cv ?_
  refine jc (.int .i64 (ck l)) (fun X hX hF => checkC _ n c l X (HRX.out X (hb.trans (Below.mono hX hb.size))) hln hn1 hf.mono) ?_
  refine jm (.int .i64 (ck l)) ?_
  refine jz fun X1 hX1 => ?_
  have hB0 := hB0.bel hX1
  have hB1 := hB1.bel hX1
  have hb := bel_next hb hX1
  clear hX1
  go_upto_region 2 with (fail)
  refine jp ?_
  refine jm (.int .i64 (ck l)) ?_
  refine jv (.bool false) (exec_nei _ _ _ _ (by rfl) .i64 (ck l) 0 (by rfl) (by rfl) false (by rw [decide_eq_true (by omega)]; rfl)) ?_
  refine jz fun X2 hX2 => ?_
  have hB0 := hB0.bel hX2
  have hB1 := hB1.bel hX2
  have hb := bel_next hb hX2
  clear hX2
  go_upto_region 4 with (fail)
  refine jp ?_
  refine ja hB1 Tryz.underlying23 (by rfl) info_rat ?_
  refine jc (.bool true) (fun X hX hF => mo (validG n' p q X ht) (by rw [HV.out])) ?_
  refine jm (.bool false) ?_
  refine jz fun X3 hX3 => ?_
  have hB0 := hB0.bel hX3
  have hB1 := hB1.bel hX3
  have hb := bel_next hb hX3
  clear hX3
  go_upto_region 6 with (fail)
  refine jp ?_
  refine jn (.func (.func 85) #[] #[.pointer (some ⟨w.heap.size, 0, none⟩), .pointer (some ⟨(w.heap.size + 1), 0, none⟩)]) ?_
  refine jc (.int .i64 (r : Int)) (fun X hX hF => searchC 85 [.pointer (some ⟨w.heap.size, 0, none⟩), .pointer (some ⟨(w.heap.size + 1), 0, none⟩)] 3001 r X (by omega) hrn (fun k X => by go_simp) (by kernel_rfl) (fun k Y hk hY => (least1C b off n c l n' p q x w.heap.size (w.heap.size + 1) k Y (HRX.out Y ((hb.trans (Below.mono hX hb.size)).trans (Below.mono hY (bel_next hb hX).size))) hln hok hf hk HX ht ((hB0.bel hX).bel hY) ((hB1.bel hX).bel hY) (cmp_dec _ _)).mono fun e X' ⟨h1, h2⟩ => ⟨by rw [h1, HCT.out k hk], h2⟩)) ?_
  refine jm (.int .i64 (r : Int)) ?_
  refine jz fun X4 hX4 => ?_
  have hB0 := hB0.bel hX4
  have hB1 := hB1.bel hX4
  have hb := bel_next hb hX4
  clear hX4
  by_cases hr9 : r < 3001
  · have HN : Hid (leN l (vd n' p q) x = -1000 + (r : Int)) := by show _ = _; unfold leN; rw [if_neg (by rw [hc]; decide), HV.out, if_neg (by decide), HR.out, if_pos hr9]
    have HE : Hid (leE l (vd n' p q) x = 0) := by show _ = _; unfold leE; rw [if_neg (by rw [hc]; decide), HV.out, if_neg (by decide), HR.out, if_pos hr9]
    go_upto_region 7 with (fail)
    refine jp ?_
    refine jm (.int .i64 (r : Int)) ?_
    refine jv (.bool false) (exec_gtr _ _ _ _ (by rfl) .i64 (r : Int) 3000 (by rfl) (by rfl) false (decide_eq_false (by omega))) ?_
    refine jz fun X5 hX5 => ?_
    have hB0 := hB0.bel hX5
    have hB1 := hB1.bel hX5
    have hb := bel_next hb hX5
    clear hX5
    go_upto_region 9 with (fail)
    refine jp ?_
    refine jm (.int .i64 (r : Int)) ?_
    refine jv (.int .i64 (-1000 + (r : Int))) (exec_add _ _ _ _ (by rfl) (-1000) (r : Int) (-1000 + (r : Int)) (by rfl) (by rfl) (by omega) (by omega) (by omega)) ?_
    refine jm (.int .i64 (-1000 + (r : Int))) ?_
    refine jm (.int .i64 0) ?_
    refine jz fun X6 hX6 => ?_
    have hB0 := hB0.bel hX6
    have hB1 := hB1.bel hX6
    have hb := bel_next hb hX6
    clear hX6
    go_wp2
    go_ret2
    exact ⟨by rw [HN.out, HE.out]; rfl, hb⟩
  · have HN : Hid (leN l (vd n' p q) x = 0) := by show _ = _; unfold leN; rw [if_neg (by rw [hc]; decide), HV.out, if_neg (by decide), HR.out, if_neg hr9]
    have HE : Hid (leE l (vd n' p q) x = 8) := by show _ = _; unfold leE; rw [if_neg (by rw [hc]; decide), HV.out, if_neg (by decide), HR.out, if_neg hr9]
    go_upto_region 7 with (fail)
    refine jp ?_
    refine jm (.int .i64 (r : Int)) ?_
    refine jv (.bool true) (exec_gtr _ _ _ _ (by rfl) .i64 (r : Int) 3000 (by rfl) (by rfl) true (decide_eq_true (by omega))) ?_
    refine jz fun X5 hX5 => ?_
    have hB0 := hB0.bel hX5
    have hB1 := hB1.bel hX5
    have hb := bel_next hb hX5
    clear hX5
    go_upto_region 8 with (fail)
    refine jp ?_
    refine jm (.int .i64 0) ?_
    refine jm (.int .i64 8) ?_
    refine jz fun X6 hX6 => ?_
    have hB0 := hB0.bel hX6
    have hB1 := hB1.bel hX6
    have hb := bel_next hb hX6
    clear hX6
    go_wp2
    go_ret2
    exact ⟨by rw [HN.out, HE.out]; rfl, hb⟩
theorem leastC (A : Option Addr) (n c : Nat) (l : List Pt) (n' : Bool) (p q : List UInt8) {x : Rat} (hx : rq n' p q = x) (ht : tz p q 1000000) (w : World) (hr : Rd w 4 (.slice A n c) n (fl ptc l)) (hln : l.length = n) (hn1 : n ≤ 9223372036854775807) (hf : fewP l 1000) : Calls Tryz.prog 36 #[.agg #[.slice A n c], .agg #[.bool n', .string ⟨p.toArray⟩, .string ⟨q.toArray⟩]] w fun e w' => e = .returned (.tuple #[.int .i64 (leN l (vd n' p q) x), .int .i64 (leE l (vd n' p q) x)]) ∧ Since w w' := by
  by_cases hc : ck l = 0
  · obtain ⟨b, off, rfl⟩ := some_addr hr hln hc
    rcases hv : vd n' p q with _ | _
    · have h1 := leastCo_false b off n c l n' p q x hx ht w hr hln hn1 hf hc hv ⟨by unfold leN; rw [if_neg (by rw [hc]; decide), hv]; rfl, by unfold leE; rw [if_neg (by rw [hc]; decide), hv]; rfl⟩
      rwa [hv] at h1
    · have h1 := leastCo_true b off n c l n' p q x hx ht w hr hln hn1 hf hc hv _ (lst_le _ _) rfl (fun k hk => lst_dec (ck_zero hc).crv x hk)
      rwa [hv] at h1
  · exact leastCe A n c l n' p q x hx ht w hr hln hn1 hf hc
end Go.Proofs.YtchhlgcakjjncaaGreatDoor
