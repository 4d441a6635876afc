/-
  account: opposite, undone.
-/
import Derived.Test.YtffgfkcljcollaaDoorAa
import Derived.Test.YtffgfkcljcollaaDoorLb
set_option linter.unusedSimpArgs false
set_option linter.unusedVariables false
set_option maxRecDepth 100000
set_option maxHeartbeats 1600000
namespace Go.Proofs.YtffgfkcljcollaaDoor
open Go.RowKit
section
variable {P : Program} {ops : Array Oper} {R : World → World → Prop} {w0 : World} {Q : Act → World → Prop} {pre : Nat → Nat → Bool} {l : List (Nat × Oper × Spec)} {Fs : List (Nat × (World → Prop))} {a : Act} {k : Nat} {o : Oper}
theorem exec_callw {ρ : Operand → Value} {X : World} (f : FuncId) (x : Operand) (xs : List Operand) (ts : Array TypeId) (lb : List Value) (ho : o.op = .call { callee := .value x, args := xs.toArray, argTypes := ts }) (hx : ρ x = .func (.func f) #[] lb.toArray) (args : List Value) (he : xs.toArray.map ρ = args.toArray)
  (hf : (callFunc f (args ++ lb).toArray).run P X = .ok (.enter f (args ++ lb).toArray) X) : (execOp ρ o).run P X = .ok (.enter f (args ++ lb).toArray) X := by
 unfold execOp
 rw [ho]
 go_simp
theorem lx_callw (hw : Region.wanted o (yielded ops a.tmps) = true) (f : FuncId) (x : Operand) (xs : List Operand) (ts : Array TypeId) (lb : List Value) (ho : o.op = .call { callee := .value x, args := xs.toArray, argTypes := ts }) (hx : a.eval x = .func (.func f) #[] lb.toArray) (v : Value) (args : List Value) (he : xs.map a.eval = args)
  (hi : P.inits.idxOf? f = none) (hf : ∀ X : World, (callFunc f (args ++ lb).toArray).run P X = .ok (.enter f (args ++ lb).toArray) X)
  (hc : ∀ X, R w0 X → (∀ p F, (p, F) ∈ Fs → pre k p = true → F X) → Calls P f (args ++ lb).toArray X fun e X' => e = .returned v ∧ R X X') (h : Cert P ops R w0 Q pre l Fs (a.put o.dst v)) : Cert P ops R w0 Q pre ((k, o, none) :: l) Fs a := by
 refine ⟨?_⟩
 unfold CertR
 rw [if_pos hw];refine ⟨v, fun X hX hF => ?_, h.out⟩;have hc := hc X hX hF
 have he2 : xs.toArray.map a.eval = args.toArray := by rw [List.map_toArray, he]
 have hrun : (execOp a.eval o).run P X = .ok (.enter f (args ++ lb).toArray) X := exec_callw f x xs ts lb ho hx args he2 (hf X)
 unfold quietR
 rw [hrun];exact ⟨rfl, hi, hc⟩
theorem exec_mkfn {f : Operand → Value} (F0 : FuncId) (xs : List Operand) (vs : List Value) (ho : o.op = .makeFunc (.func F0) #[] xs.toArray) (hv : xs.map f = vs) (X : World) : (execOp f o).run P X = .ok (.value (.func (.func F0) #[] vs.toArray)) X := by
 unfold execOp
 simp only [ho, Instr.makeFunc, List.map_toArray, hv, Sem.run_bind, Sem.run_pure, Result.andThen_ok, List.map_nil]
end
end Go.Proofs.YtffgfkcljcollaaDoor
namespace Go.Proofs.YtffgfkcljcollaaDoor
open Go.RowKit
/-- The place of the first entry that undoes the one at a. -/
def ixk (l : List En) (a : Int) : Int := if und l a = true then ((l.findIdx fun x => decide (x.kd = 4) && decide (x.rf = a) : Nat) : Int) else -1
theorem ixk_at {l : List En} {a : Int} {k : Nat} (hk : k < l.length) (h : (decide ((en l k).kd = 4) && decide ((en l k).rf = a)) = true) (hz : ∀ j, j < k → (decide ((en l j).kd = 4) && decide ((en l j).rf = a)) = false) : ixk l a = k := by
 unfold ixk und
 rw [if_pos (List.any_eq_true.2 ⟨l[k], List.getElem_mem _, by rw [← en_in hk]; exact h⟩)]
 congr 1
 refine (List.findIdx_eq hk).2 ⟨by rw [← en_in hk]; exact h, fun j hj => ?_⟩;rw [← en_in (by omega)];exact hz j hj
theorem ixk_no {l : List En} {a : Int} (hz : ∀ j, j < l.length → (decide ((en l j).kd = 4) && decide ((en l j).rf = a)) = false) : und l a = false := by
 refine Bool.eq_false_iff.2 fun h => ?_;obtain ⟨x, hx, h2⟩ := List.any_eq_true.1 h;obtain ⟨j, hj, rfl⟩ := List.mem_iff_getElem.1 hx;have h3 := hz j hj;rw [en_in hj] at h3;rw [h3] at h2
 cases h2
theorem ixk_f {l : List En} {a : Int} (h : und l a = false) : ixk l a = -1 := by
 unfold ixk
 rw [if_neg (by rw [h]; decide)]
theorem ixk_t {l : List En} {a : Int} (h : und l a = true) : 0 ≤ ixk l a ∧ ixk l a ≤ l.length := by
 unfold ixk
 rw [if_pos h];have := @List.findIdx_le_length En (fun x => decide (x.kd = 4) && decide (x.rf = a)) l
 omega
theorem oppC (v : Value) (l : List En) (k : Nat) (day : Int) (y : En) (w : World) (hv : Es l v w) (hk : k < l.length) (hy : y = en l k) : Calls Tryd.prog 32 #[v, .int .i64 (k : Int), .int .i64 day] w fun e w' => e = .returned (.agg #[.int .i64 (opp y (k : Int) day).day, .int .i64 (opp y (k : Int) day).deb, .int .i64 (opp y (k : Int) day).cre, .bool (opp y (k : Int) day).am.1, .string ⟨(opp y (k : Int) day).am.2.1.toArray⟩, .string ⟨(opp y (k : Int) day).am.2.2.toArray⟩, .int .i64 (opp y (k : Int) day).kd, .int .i64 (opp y (k : Int) day).pd, .int .i64 (opp y (k : Int) day).rf, .int .i64 (opp y (k : Int) day).w1, .int .i64 (opp y (k : Int) day).w2, .int .i64 (opp y (k : Int) day).w3, .int .i64 (opp y (k : Int) day).w4]) ∧ Since w w' := by
 obtain ⟨A, n, cp, rfl, hln, hn1, hr⟩ := hv.at;clear hv
 have HRX : Hid (∀ X, Since w X → Rd X 13 (.slice A n cp) n (fl enc l)) := fun X h => hr.below h
 have HLN := Lib.hid hln;clear hr
 have hlt : k < n := by rw [← hln]; exact hk
 have hb : Below w.heap.size w w := Below.refl _ _;obtain ⟨b, off, rfl, hbb, hcx⟩ := enAt (HRX.out _ hb) HLN.out hlt;obtain ⟨x, x9⟩ : ∃ x, x = en l k := ⟨_, rfl⟩;have HX := Lib.hid x9;clear x9;rw [← HX.out] at hcx
 change Cl w b (off + k * 13) [.int .i64 x.day, .int .i64 x.deb, .int .i64 x.cre, .bool x.am.1, .string ⟨x.am.2.1.toArray⟩, .string ⟨x.am.2.2.toArray⟩, .int .i64 x.kd, .int .i64 x.pd, .int .i64 x.rf, .int .i64 x.w1, .int .i64 x.w2, .int .i64 x.w3, .int .i64 x.w4] at hcx
 clear hb
 obtain rfl : y = x := by rw [hy, HX.out]
 go_enter Tryd.func32, Tryd.ntmps32
 go_upto_region 1 with fail;obtain ⟨W0, hW0, hB0, hb⟩ := start1 w 36 [.int .i64 0, .int .i64 0, .int .i64 0, .bool false, .string ⟨#[]⟩, .string ⟨#[]⟩, .int .i64 0, .int .i64 0, .int .i64 0, .int .i64 0, .int .i64 0, .int .i64 0, .int .i64 0];rw [← hW0];clear hW0;have hcx := hcx.below hb hbb;replace hbb := Nat.lt_of_lt_of_le hbb hb.size;refine jq 4 ?_;refine jm (.slice (some ⟨b, off, none⟩) n cp) ?_;refine jm (.int .i64 (k : Int)) ?_;refine jv (.pointer (some ⟨b, off + k * 13, none⟩)) (exec_ixv Tryd.underlying22 info_en _ _ (by rfl) b (off) n cp k (by omega) (by rfl) (by rfl) rfl) ?_;refine jg (.agg #[.int .i64 y.day, .int .i64 y.deb, .int .i64 y.cre, .bool y.am.1, st y.am.2.1, st y.am.2.2, .int .i64 y.kd, .int .i64 y.pd, .int .i64 y.rf, .int .i64 y.w1, .int .i64 y.w2, .int .i64 y.w3, .int .i64 y.w4]) (fun X hX hF => exec_ldc 36 _ (by rfl) b (off + k * 13) (by rfl) Tryd.underlying36 rfl [.int .i64 y.day, .int .i64 y.deb, .int .i64 y.cre, .bool y.am.1, .string ⟨y.am.2.1.toArray⟩, .string ⟨y.am.2.2.toArray⟩, .int .i64 y.kd, .int .i64 y.pd, .int .i64 y.rf, .int .i64 y.w1, .int .i64 y.w2, .int .i64 y.w3, .int .i64 y.w4] X (Cl.part (hcx.below hX hbb) 0 _ (by rfl)) info_en) ?_;refine jzb hb fun X1 hX1 hb => ?_;replace hB0 := hB0.bel hX1;have hcx := hcx.below hX1 hbb;replace hbb := Nat.lt_of_lt_of_le hbb (hX1).size;clear hX1;go_upto_region 2 with (refine osn 36 7 11 #[.int .i64 y.day, .int .i64 y.deb, .int .i64 y.cre, .bool y.am.1, .string ⟨y.am.2.1.toArray⟩, .string ⟨y.am.2.2.toArray⟩, .int .i64 y.kd, .int .i64 y.pd, .int .i64 y.rf, .int .i64 y.w1, .int .i64 y.w2, .int .i64 y.w3, .int .i64 y.w4] info_en ?_)
 obtain ⟨Y1, hY9, hD7, hS9⟩ := start1 X1 36 [.int .i64 y.day, .int .i64 y.deb, .int .i64 y.cre, .bool y.am.1, .string ⟨y.am.2.1.toArray⟩, .string ⟨y.am.2.2.toArray⟩, .int .i64 y.kd, .int .i64 y.pd, .int .i64 y.rf, .int .i64 y.w1, .int .i64 y.w2, .int .i64 y.w3, .int .i64 y.w4];rw [← hY9];clear hY9;have hgs7 := hb.size;have hlt7x0 := hB0.lt;have hcx := hcx.below hS9 hbb;replace hbb := Nat.lt_of_lt_of_le hbb (hS9).size;have hB0 := hB0.bel hS9;have hb := bel_next hb hS9;clear hS9;generalize X1.heap.size = g7 at *;go_upto_region 2 with fail;refine jq 16 ?_;refine jm (.int .i64 day) ?_;refine jn (.pointer (some ⟨g7, 2, none⟩)) ?_;refine jf (.int .i64 y.cre) hD7 2 load_int ?_;refine jn (.pointer (some ⟨g7, 1, none⟩)) ?_;refine jf (.int .i64 y.deb) hD7 1 load_int ?_;refine jn (.pointer (some ⟨g7, 3, none⟩)) ?_;refine jg (.agg #[.bool y.am.1, st y.am.2.1, st y.am.2.2]) (fun X hX hF => exec_inr 30 _ (by rfl) g7 3 [.bool y.am.1, .string ⟨y.am.2.1.toArray⟩, .string ⟨y.am.2.2.toArray⟩] (by rfl) Tryd.underlying30 rfl X (hD7.bel hX) (by rfl) info_rat) ?_;refine jn (.pointer (some ⟨g7, 6, none⟩)) ?_;refine jn (.pointer (some ⟨g7, 7, none⟩)) ?_;refine jf (.int .i64 y.pd) hD7 7 load_int ?_;refine jm (.int .i64 (k : Int)) ?_;refine jn (.pointer (some ⟨g7, 6, none⟩)) ?_;refine jn (.pointer (some ⟨g7, 9, none⟩)) ?_;refine jg (.agg #[.int .i64 y.w1, .int .i64 y.w2, .int .i64 y.w3, .int .i64 y.w4]) (fun X hX hF => exec_inr 32 _ (by rfl) g7 9 [.int .i64 y.w1, .int .i64 y.w2, .int .i64 y.w3, .int .i64 y.w4] (by rfl) Tryd.underlying32 rfl X (hD7.bel hX) (by rfl) info_ch) ?_
 refine jn (.agg #[.int .i64 4, .int .i64 y.pd, .int .i64 (k : Int), .int .i64 y.w1, .int .i64 y.w2, .int .i64 y.w3, .int .i64 y.w4]) ?_;refine jn (.agg #[.int .i64 day, .int .i64 y.cre, .int .i64 y.deb, .bool y.am.1, st y.am.2.1, st y.am.2.2, .int .i64 4, .int .i64 y.pd, .int .i64 (k : Int), .int .i64 y.w1, .int .i64 y.w2, .int .i64 y.w3, .int .i64 y.w4]) ?_;refine jzb hb fun X2 hX2 hb => ?_;replace hB0 := hB0.bel hX2;replace hD7 := hD7.bel hX2;clear hX2;refine osb 36 6 27 w.heap.size 36 hB0 [.int .i64 day, .int .i64 y.cre, .int .i64 y.deb, .bool y.am.1, .string ⟨y.am.2.1.toArray⟩, .string ⟨y.am.2.2.toArray⟩, .int .i64 4, .int .i64 y.pd, .int .i64 (k : Int), .int .i64 y.w1, .int .i64 y.w2, .int .i64 y.w3, .int .i64 y.w4] info_en ?_;intro w9 hR9 hO9 hB9 hs9;have hb9 := hB9 _ _ hb (by omega);clear hO9 hB9
 go_wp2
 refine post_cell rfl rfl (by rfl) Tryd.underlying36 rfl hR9 info_en ⟨rfl, hb9⟩
theorem un1C (x : En) (q : Nat) (a : Int) (w : World) (hq : Blk w q 3 [.int .i64 a]) : Calls Tryd.prog 48 #[.agg #[.int .i64 x.day, .int .i64 x.deb, .int .i64 x.cre, .bool x.am.1, .string ⟨x.am.2.1.toArray⟩, .string ⟨x.am.2.2.toArray⟩, .int .i64 x.kd, .int .i64 x.pd, .int .i64 x.rf, .int .i64 x.w1, .int .i64 x.w2, .int .i64 x.w3, .int .i64 x.w4], .pointer (some ⟨q, 0, none⟩)] w fun e w' => e = .returned (.bool (decide (x.kd = 4) && decide (x.rf = a))) ∧ Since w w' := by
 go_enter Tryd.func48, Tryd.ntmps48
 go_upto_region 1 with fail;obtain ⟨W0, hW0, hB0, hb⟩ := start1 w 36 [.int .i64 x.day, .int .i64 x.deb, .int .i64 x.cre, .bool x.am.1, .string ⟨x.am.2.1.toArray⟩, .string ⟨x.am.2.2.toArray⟩, .int .i64 x.kd, .int .i64 x.pd, .int .i64 x.rf, .int .i64 x.w1, .int .i64 x.w2, .int .i64 x.w3, .int .i64 x.w4];rw [← hW0];clear hW0;have hq := hq.bel hb
 rcases (show x.kd ≠ 4 ∨ (x.kd = 4 ∧ x.rf ≠ a) ∨ (x.kd = 4 ∧ x.rf = a) by omega) with h4 | h4 | h4
 ·refine jp ?_
  refine jn (.pointer (some ⟨w.heap.size, 6, none⟩)) ?_;refine jn (.pointer (some ⟨w.heap.size, 6, none⟩)) ?_;refine jf (.int .i64 x.kd) hB0 6 load_int ?_;refine jv (.bool false) (exec_eqi _ _ _ _ (by rfl) .i64 x.kd 4 (by rfl) (by rfl) false (decide_eq_false (by omega))) ?_;refine jm (.bool false) ?_;refine js ?_;refine js ?_;refine js ?_;refine js ?_;refine js ?_;refine jm (.bool false) ?_;refine jm (.bool false) ?_;refine jzb hb fun X1 hX1 hb => ?_;replace hB0 := hB0.bel hX1;replace hq := hq.bel hX1;clear hX1
  have HB : Hid ((decide (x.kd = 4) && decide (x.rf = a)) = false) := by
   show _ = _
   rw [decide_eq_false h4, Bool.false_and]
  go_wp2
  go_ret
  exact ⟨by rw [HB.out]; rfl, hb⟩
 ·refine jp ?_
  refine jn (.pointer (some ⟨w.heap.size, 6, none⟩)) ?_;refine jn (.pointer (some ⟨w.heap.size, 6, none⟩)) ?_;refine jf (.int .i64 x.kd) hB0 6 load_int ?_;refine jv (.bool true) (exec_eqi _ _ _ _ (by rfl) .i64 x.kd 4 (by rfl) (by rfl) true (decide_eq_true (by omega))) ?_;refine jm (.bool true) ?_;refine jn (.pointer (some ⟨w.heap.size, 6, none⟩)) ?_;refine jn (.pointer (some ⟨w.heap.size, 8, none⟩)) ?_;refine jf (.int .i64 x.rf) hB0 8 load_int ?_;refine jf (.int .i64 a) hq 0 load_int ?_;refine jv (.bool false) (exec_eqi _ _ _ _ (by rfl) .i64 x.rf a (by rfl) (by rfl) false (decide_eq_false (by omega))) ?_;refine jm (.bool false) ?_;refine jm (.bool false) ?_;refine jzb hb fun X1 hX1 hb => ?_;replace hB0 := hB0.bel hX1;replace hq := hq.bel hX1;clear hX1
  have HB : Hid ((decide (x.kd = 4) && decide (x.rf = a)) = false) := by
   show _ = _
   rw [decide_eq_false h4.2, Bool.and_false]
  go_wp2
  go_ret
  exact ⟨by rw [HB.out]; rfl, hb⟩
 ·refine jp ?_
  refine jn (.pointer (some ⟨w.heap.size, 6, none⟩)) ?_;refine jn (.pointer (some ⟨w.heap.size, 6, none⟩)) ?_;refine jf (.int .i64 x.kd) hB0 6 load_int ?_;refine jv (.bool true) (exec_eqi _ _ _ _ (by rfl) .i64 x.kd 4 (by rfl) (by rfl) true (decide_eq_true (by omega))) ?_;refine jm (.bool true) ?_;refine jn (.pointer (some ⟨w.heap.size, 6, none⟩)) ?_;refine jn (.pointer (some ⟨w.heap.size, 8, none⟩)) ?_;refine jf (.int .i64 x.rf) hB0 8 load_int ?_;refine jf (.int .i64 a) hq 0 load_int ?_;refine jv (.bool true) (exec_eqi _ _ _ _ (by rfl) .i64 x.rf a (by rfl) (by rfl) true (decide_eq_true (by omega))) ?_;refine jm (.bool true) ?_;refine jm (.bool true) ?_;refine jzb hb fun X1 hX1 hb => ?_;replace hB0 := hB0.bel hX1;replace hq := hq.bel hX1;clear hX1
  have HB : Hid ((decide (x.kd = 4) && decide (x.rf = a)) = true) := by
   show _ = _
   rw [decide_eq_true h4.1, decide_eq_true h4.2]; rfl
  go_wp2
  go_ret
  exact ⟨by rw [HB.out]; rfl, hb⟩
theorem ixfC (v : Value) (l : List En) (q : Nat) (a : Int) (w : World) (hv : Es l v w) (hq : Blk w q 3 [.int .i64 a]) : Calls Tryd.prog 59 #[v, .func (.func 48) #[] #[.pointer (some ⟨q, 0, none⟩)]] w fun e w' => e = .returned (.int .i64 (ixk l a)) ∧ Since w w' := by
 obtain ⟨A, n, cp, rfl, hln, hn1, hr⟩ := hv.at;clear hv
 have HRX : Hid (∀ X, Since w X → Rd X 13 (.slice A n cp) n (fl enc l)) := fun X h => hr.below h
 have HLN := Lib.hid hln
 have HQ : Hid (∀ X, Since w X → Blk X q 3 [.int .i64 a]) := fun X h => hq.bel h
 clear hq;clear hr
 go_enter Tryd.func59, Tryd.ntmps59
 go_upto_region 1 with fail;refine jp ?_;refine jm (.slice A n cp) ?_;refine jv (.int .i64 (n : Int)) (exec_lenv Tryd.underlying22 _ (by rfl) A n cp (by rfl) _ rfl) ?_;refine jm (.int .i64 0) ?_;refine jz fun X1 hX1 => ?_;have hb : Below w.heap.size w X1 := hX1;clear hX1
 go_wp2
 go_loopw [8] (fun kv wr => ∃ k : Nat, k ≤ n ∧ kv = .int .i64 (k : Int) ∧ Hid (∀ j, j < k → (decide ((en l j).kd = 4) && decide ((en l j).rf = a)) = false) ∧ Below w.heap.size w wr) (fun kv _ => n - (intOf kv).toNat)
 case atStart => exact ⟨0, by omega, rfl, (fun j hj => by omega), hb⟩
 case round =>
  clear hb;obtain ⟨k, hk, rfl, HZ, hb⟩ := hrel
  rcases Nat.lt_or_ge k n with hlt | hlt
  ·obtain ⟨b, off, rfl, hbb, hcx⟩ := enAt (HRX.out _ hb) HLN.out hlt
   obtain ⟨x, x9⟩ : ∃ x, x = en l k := ⟨_, rfl⟩;have HX := Lib.hid x9;clear x9;rw [← HX.out] at hcx
   change Cl wr b (off + k * 13) [.int .i64 x.day, .int .i64 x.deb, .int .i64 x.cre, .bool x.am.1, .string ⟨x.am.2.1.toArray⟩, .string ⟨x.am.2.2.toArray⟩, .int .i64 x.kd, .int .i64 x.pd, .int .i64 x.rf, .int .i64 x.w1, .int .i64 x.w2, .int .i64 x.w3, .int .i64 x.w4] at hcx
   go_upto_region 2 with fail;refine jp ?_;refine jv (.bool true) (exec_lss _ _ _ _ (by rfl) .i64 (k : Int) (n : Int) (by rfl) (by rfl) true (decide_eq_true (by omega))) ?_;refine jzb hb fun X1 hX1 hb => ?_;have hcx := hcx.below hX1 hbb;replace hbb := Nat.lt_of_lt_of_le hbb (hX1).size;clear hX1;go_upto_region 3 with fail;refine jp ?_;refine jm (.int .i64 (k : Int)) ?_;refine jm (.int .i64 (k : Int)) ?_;refine jzb hb fun X2 hX2 hb => ?_;have hcx := hcx.below hX2 hbb;replace hbb := Nat.lt_of_lt_of_le hbb (hX2).size;clear hX2;obtain ⟨pb, hpb⟩ : ∃ pb, (decide (x.kd = 4) && decide (x.rf = a)) = pb := ⟨_, rfl⟩;have HP := Lib.hid hpb;clear hpb
   rcases pb with _ | _
   ·go_upto_region 4 with fail
    refine jp ?_;refine jm (.func (.func 48) #[] #[.pointer (some ⟨q, 0, none⟩)]) ?_;refine jm (.slice (some ⟨b, off, none⟩) n cp) ?_;refine jm (.int .i64 (k : Int)) ?_;refine jv (.pointer (some ⟨b, off + k * 13, none⟩)) (exec_ixv Tryd.underlying22 info_en _ _ (by rfl) b (off) n cp k (by omega) (by rfl) (by rfl) rfl) ?_;refine jg (.agg #[.int .i64 x.day, .int .i64 x.deb, .int .i64 x.cre, .bool x.am.1, st x.am.2.1, st x.am.2.2, .int .i64 x.kd, .int .i64 x.pd, .int .i64 x.rf, .int .i64 x.w1, .int .i64 x.w2, .int .i64 x.w3, .int .i64 x.w4]) (fun X hX hF => exec_ldc 36 _ (by rfl) b (off + k * 13) (by rfl) Tryd.underlying36 rfl [.int .i64 x.day, .int .i64 x.deb, .int .i64 x.cre, .bool x.am.1, .string ⟨x.am.2.1.toArray⟩, .string ⟨x.am.2.2.toArray⟩, .int .i64 x.kd, .int .i64 x.pd, .int .i64 x.rf, .int .i64 x.w1, .int .i64 x.w2, .int .i64 x.w3, .int .i64 x.w4] X (Cl.part (hcx.below hX hbb) 0 _ (by rfl)) info_en) ?_;refine lx_callw (by rfl) 48 _ _ _ [.pointer (some ⟨q, 0, none⟩)] (by rfl) (by rfl) (.bool false) [.agg #[.int .i64 x.day, .int .i64 x.deb, .int .i64 x.cre, .bool x.am.1, .string ⟨x.am.2.1.toArray⟩, .string ⟨x.am.2.2.toArray⟩, .int .i64 x.kd, .int .i64 x.pd, .int .i64 x.rf, .int .i64 x.w1, .int .i64 x.w2, .int .i64 x.w3, .int .i64 x.w4]] (by rfl) (by kernel_rfl) (fun _ => by go_simp) (fun X hX hF => (un1C x q a X (HQ.out X (Since.next hb hX))).mono fun e X' ⟨h1, h2⟩ => ⟨by rw [h1, HP.out], h2⟩) ?_;simp only [pX];refine jzb hb fun X3 hX3 hb => ?_;have hcx := hcx.below hX3 hbb
    replace hbb := Nat.lt_of_lt_of_le hbb (hX3).size;clear hX3
    have HZ2 : Hid (∀ j, j < k + 1 → (decide ((en l j).kd = 4) && decide ((en l j).rf = a)) = false) := fun j hj => by
     rcases Nat.lt_or_ge j k with h9 | h9
     ·exact HZ.out j h9
     ·rw [show j = k by omega, ← HX.out]; exact HP.out
    go_upto_region 6 with fail;refine jp ?_;refine jv (.int .i64 ((k + 1 : Nat) : Int)) (exec_add _ _ _ _ (by rfl) (k : Int) 1 ((k + 1 : Nat) : Int) (by rfl) (by rfl) (by omega) (by omega) (by omega)) ?_;refine jm (.int .i64 ((k + 1 : Nat) : Int)) ?_;refine jzb hb fun X4 _ hb => ?_
    go_wp2
    go_roundw
    case rel => exact ⟨k + 1, by omega, rfl, HZ2, hb⟩
    case measure => simp [intOf]; omega
   ·go_upto_region 4 with fail
    refine jp ?_;refine jm (.func (.func 48) #[] #[.pointer (some ⟨q, 0, none⟩)]) ?_;refine jm (.slice (some ⟨b, off, none⟩) n cp) ?_;refine jm (.int .i64 (k : Int)) ?_;refine jv (.pointer (some ⟨b, off + k * 13, none⟩)) (exec_ixv Tryd.underlying22 info_en _ _ (by rfl) b (off) n cp k (by omega) (by rfl) (by rfl) rfl) ?_;refine jg (.agg #[.int .i64 x.day, .int .i64 x.deb, .int .i64 x.cre, .bool x.am.1, st x.am.2.1, st x.am.2.2, .int .i64 x.kd, .int .i64 x.pd, .int .i64 x.rf, .int .i64 x.w1, .int .i64 x.w2, .int .i64 x.w3, .int .i64 x.w4]) (fun X hX hF => exec_ldc 36 _ (by rfl) b (off + k * 13) (by rfl) Tryd.underlying36 rfl [.int .i64 x.day, .int .i64 x.deb, .int .i64 x.cre, .bool x.am.1, .string ⟨x.am.2.1.toArray⟩, .string ⟨x.am.2.2.toArray⟩, .int .i64 x.kd, .int .i64 x.pd, .int .i64 x.rf, .int .i64 x.w1, .int .i64 x.w2, .int .i64 x.w3, .int .i64 x.w4] X (Cl.part (hcx.below hX hbb) 0 _ (by rfl)) info_en) ?_;refine lx_callw (by rfl) 48 _ _ _ [.pointer (some ⟨q, 0, none⟩)] (by rfl) (by rfl) (.bool true) [.agg #[.int .i64 x.day, .int .i64 x.deb, .int .i64 x.cre, .bool x.am.1, .string ⟨x.am.2.1.toArray⟩, .string ⟨x.am.2.2.toArray⟩, .int .i64 x.kd, .int .i64 x.pd, .int .i64 x.rf, .int .i64 x.w1, .int .i64 x.w2, .int .i64 x.w3, .int .i64 x.w4]] (by rfl) (by kernel_rfl) (fun _ => by go_simp) (fun X hX hF => (un1C x q a X (HQ.out X (Since.next hb hX))).mono fun e X' ⟨h1, h2⟩ => ⟨by rw [h1, HP.out], h2⟩) ?_;simp only [pX];refine jzb hb fun X3 hX3 hb => ?_;have hcx := hcx.below hX3 hbb
    replace hbb := Nat.lt_of_lt_of_le hbb (hX3).size;clear hX3;go_upto_region 5 with fail;refine jp ?_;refine jm (.int .i64 (k : Int)) ?_;refine jm (.int .i64 (k : Int)) ?_;refine jzb hb fun X4 _ hb => ?_;have HE : Hid (ixk l a = (k : Int)) := ixk_at (by rw [HLN.out]; exact hlt) (by rw [← HX.out]; exact HP.out) HZ.out
    go_wp2
    go_ret
    exact ⟨by rw [HE.out]; rfl, hb⟩
  ·have HE : Hid (ixk l a = -1) := ixk_f (ixk_no (fun j hj => HZ.out j (by rw [HLN.out] at hj; omega)))
   go_upto_region 2 with fail;refine jp ?_;refine jv (.bool false) (exec_lss _ _ _ _ (by rfl) .i64 (k : Int) (n : Int) (by rfl) (by rfl) false (decide_eq_false (by omega))) ?_;refine jzb hb fun X1 _ hb => ?_;go_upto_region 7 with fail;refine jp ?_;refine jm (.int .i64 (-1)) ?_;refine jzb hb fun X2 _ hb => ?_
   go_wp2
   go_ret
   exact ⟨by rw [HE.out]; rfl, hb⟩
theorem ctfC (v : Value) (l : List En) (q : Nat) (a : Int) (w : World) (hv : Es l v w) (hq : Blk w q 3 [.int .i64 a]) : Calls Tryd.prog 47 #[v, .func (.func 48) #[] #[.pointer (some ⟨q, 0, none⟩)]] w fun e w' => e = .returned (.bool (und l a)) ∧ Since w w' := by
 obtain ⟨z, hz⟩ : ∃ z, z = ixk l a := ⟨_, rfl⟩;have HZ := Lib.hid hz;obtain ⟨u, hu⟩ : ∃ u, und l a = u := ⟨_, rfl⟩;have HU := Lib.hid hu;clear hz hu;rw [HU.out]
 rcases u with _ | _
 ·have hz : z < 0 := by rw [HZ.out, ixk_f HU.out]; omega
  go_enter Tryd.func47, Tryd.ntmps47
  have HQ : Hid (∀ X, Since w X → Blk X q 3 [.int .i64 a] ∧ Es l v X) := fun X h => ⟨hq.bel h, Es.lasts l _ _ _ hv h⟩
  clear hq hv;go_upto_region 1 with fail;refine jp ?_;refine jm (v) ?_;refine jm (.func (.func 48) #[] #[.pointer (some ⟨q, 0, none⟩)]) ?_;refine jc (.int .i64 z) (fun X hX hF => mo (ixfC v l q a X (HQ.out X hX).2 (HQ.out X hX).1) (by rw [HZ.out])) ?_;refine jv (.bool false) (exec_geq _ _ _ _ (by rfl) .i64 z 0 (by rfl) (by rfl) false (decide_eq_false (by omega))) ?_;refine jm (.bool false) ?_;refine jz fun X1 hX1 => ?_;have hb : Below w.heap.size w X1 := hX1;clear hX1
  go_wp2
  go_ret
  exact ⟨rfl, hb⟩
 ·have hz : 0 ≤ z := by rw [HZ.out]; exact (ixk_t HU.out).1
  go_enter Tryd.func47, Tryd.ntmps47
  have HQ : Hid (∀ X, Since w X → Blk X q 3 [.int .i64 a] ∧ Es l v X) := fun X h => ⟨hq.bel h, Es.lasts l _ _ _ hv h⟩
  clear hq hv;go_upto_region 1 with fail;refine jp ?_;refine jm (v) ?_;refine jm (.func (.func 48) #[] #[.pointer (some ⟨q, 0, none⟩)]) ?_;refine jc (.int .i64 z) (fun X hX hF => mo (ixfC v l q a X (HQ.out X hX).2 (HQ.out X hX).1) (by rw [HZ.out])) ?_;refine jv (.bool true) (exec_geq _ _ _ _ (by rfl) .i64 z 0 (by rfl) (by rfl) true (decide_eq_true (by omega))) ?_;refine jm (.bool true) ?_;refine jz fun X1 hX1 => ?_;have hb : Below w.heap.size w X1 := hX1;clear hX1
  go_wp2
  go_ret
  exact ⟨rfl, hb⟩
theorem undC (v : Value) (l : List En) (a : Int) (w : World) (hv : Es l v w) : Calls Tryd.prog 31 #[v, .int .i64 a] w fun e w' => e = .returned (.bool (und l a)) ∧ Since w w' := by
 have HV : Hid (∀ X, Since w X → Es l v X) := fun X h => Es.lasts l _ _ _ hv h
 obtain ⟨u, hu⟩ : ∃ u, und l a = u := ⟨_, rfl⟩;have HU := Lib.hid hu;clear hv hu;rw [HU.out]
 go_enter Tryd.func31, Tryd.ntmps31
 go_upto_region 1 with fail;obtain ⟨W0, hW0, hB0, hb⟩ := start1 w 3 [.int .i64 a];rw [← hW0];clear hW0;refine jp ?_;refine jm (v) ?_;refine jv (.func (.func 48) #[] #[.pointer (some ⟨w.heap.size, 0, none⟩)]) (exec_mkfn 48 [.tmp 3] [.pointer (some ⟨w.heap.size, 0, none⟩)] (by rfl) (by rfl)) ?_;refine jc (.bool u) (fun X hX hF => mo (ctfC v l w.heap.size a X (HV.out X (Since.next hb hX)) (hB0.bel hX)) (by rw [HU.out])) ?_;refine jm (.bool u) ?_;refine jzb hb fun X1 hX1 hb => ?_;replace hB0 := hB0.bel hX1;clear hX1
 go_wp2
 go_ret
 exact ⟨rfl, hb⟩
end Go.Proofs.YtffgfkcljcollaaDoor
