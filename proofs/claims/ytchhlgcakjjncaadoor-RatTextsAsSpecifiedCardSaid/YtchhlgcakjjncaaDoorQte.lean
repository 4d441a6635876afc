/-
  rat: Ceil, Text.
-/
import Derived.Test.YtchhlgcakjjncaaDoorQfl
import Derived.Laws.EntriesVeiled
import Derived.Test.YtchhlgcakjjncaaDoorMF
set_option linter.unusedSimpArgs false
set_option linter.unusedVariables false
set_option maxRecDepth 100000
set_option maxHeartbeats 1600000
namespace Go.Proofs.YtchhlgcakjjncaaDoor
open Go.RowKit

theorem lenPn (n : Bool) (p q : List UInt8) (hp : p.length ≤ 1000000) (hq : q.length ≤ 1000000) : (rP (-(rq n p q))).length ≤ 1000000 := by
  show (be (-(rq n p q)).num.natAbs).length ≤ _
  rw [Rat.neg_num, Int.natAbs_neg]
  exact lenP n p q hp hq (by omega)
theorem lenDn (n : Bool) (p q : List UInt8) (hp : p.length ≤ 1000000) (hq : q.length ≤ 1000000) : (rD (-(rq n p q))).length ≤ 1000000 := by
  unfold rD
  split
  · exact Nat.zero_le _
  · rw [Rat.neg_den]
    exact lenD n p q hp hq (by omega)
theorem floN_bd (x : Rat) : -9223372036854775808 ≤ -floN x ∧ -floN x ≤ 9223372036854775807 := by
  unfold floN
  split <;> omega
theorem ceilQ (n : Bool) (p q : List UInt8) (w : World) (hp : p.length ≤ 1000000) (hq : q.length ≤ 1000000) : Calls Tryd.prog 31 #[.agg #[.bool n, .string ⟨p.toArray⟩, .string ⟨q.toArray⟩]] w fun e w' => e = .returned (.tuple #[.int .i64 (-floN (-(rq n p q))), .int .i64 (floE (-(rq n p q)))]) ∧ Since w w' := by
  have hr := rq_rb (-(rq n p q))
  have HRR := Lib.hid hr
  have lP := lenPn n p q hp hq
  have lD := lenDn n p q hp hq
  have hfb := floN_bd (-(rq n p q))
  clear hr
  go_enter Tryd.func31, Tryd.ntmps31
  go_upto_region 1 with (fail)
  obtain ⟨W0, hW0, hB0, hb⟩ := start1 w 26 [.bool n, .string ⟨p.toArray⟩, .string ⟨q.toArray⟩]
  rw [← hW0]
  clear hW0
  refine jp ?_
  refine ja hB0 Tryd.underlying26 (by rfl) info_rat ?_
  refine jc (rt (rN (-(rq n p q))) (rP (-(rq n p q))) (rD (-(rq n p q)))) (fun X hX hF => negQ n p q X hp hq) ?_
  refine jc (.tuple #[.int .i64 (floN (-(rq n p q))), .int .i64 (floE (-(rq n p q)))]) (fun X hX hF => mo (floQ (rN (-(rq n p q))) (rP (-(rq n p q))) (rD (-(rq n p q))) X lP lD) (by rw [HRR.out])) ?_
  refine jm (.tuple #[.int .i64 (floN (-(rq n p q))), .int .i64 (floE (-(rq n p q)))]) ?_
  refine jm (.int .i64 (floN (-(rq n p q)))) ?_
  refine jm (.int .i64 (floE (-(rq n p q)))) ?_
  refine jm (.int .i64 (floN (-(rq n p q)))) ?_
  refine jm (.int .i64 (floE (-(rq n p q)))) ?_
  refine jz fun X1 hX1 => ?_
  have hB0 := hB0.bel hX1
  have hb := bel_next hb hX1
  clear hX1
  go_upto_region 2 with (fail)
  refine jp ?_
  refine jm (.int .i64 (floN (-(rq n p q)))) ?_
  refine jv (.int .i64 (-floN (-(rq n p q)))) (exec_neg _ _ (by rfl) (floN (-(rq n p q))) (-floN (-(rq n p q))) (by rfl) rfl hfb.1 hfb.2) ?_
  refine jm (.int .i64 (floE (-(rq n p q)))) ?_
  refine jm (.int .i64 (-floN (-(rq n p q)))) ?_
  refine jm (.int .i64 (floE (-(rq n p q)))) ?_
  refine jz fun X2 hX2 => ?_
  have hB0 := hB0.bel hX2
  have hb := bel_next hb hX2
  clear hX2
  go_wp2
  go_ret2
  exact ⟨rfl, hb⟩

theorem exec_sts {f : Operand → Value} {o : Oper} (x y : Operand) (ho : o.op = .store 9 x y) (g j : Nat) {s : ByteArray} (hx : f x = .pointer (some ⟨g, j, none⟩)) (hy : f y = .string s) (u : Value) (X : World) (hc : X.cell? ⟨g, j, none⟩ = some u) (hf : X.frozen? ⟨g, j, none⟩ = false) :
    (execOp f o).run Tryd.prog X = .ok .skip (X.setCell ⟨g, j, none⟩ (.string s)) := by
  unfold execOp
  simp only [ho, hx, hy]
  go_simp
/-- What the closure of Text leaves. -/
def Outs (g : Nat) (l : List UInt8) (w w' : World) : Prop := Blk w' g 9 [.string ⟨l.toArray⟩] ∧ (∀ g' t zs, g' ≠ g → Blk w g' t zs → Blk w' g' t zs) ∧ (∀ B W, Below B W w → B ≤ g → Below B W w')
def app2 (b : Bool) (l s : List UInt8) : List UInt8 := if b = true then l ++ s else l
theorem app2_t (l s : List UInt8) : app2 true l s = l ++ s := rfl
theorem app2_f (l s : List UInt8) : app2 false l s = l := rfl
theorem textAddF (s l : List UInt8) (g : Nat) (w : World) (hB : Blk w g 9 [.string ⟨l.toArray⟩]) (hl : l.length + s.length ≤ 1000000000) : Calls Tryd.prog 45 #[.bool false, .string ⟨s.toArray⟩, .pointer (some ⟨g, 0, none⟩)] w fun e w' => e = .returned (.tuple #[]) ∧ Outs g l w w' := by
  have hc := hB.cell (j := 0) rfl
  go_enter Tryd.func45, Tryd.ntmps45
  go_wp2
  go_end0
  exact ⟨rfl, hB, fun _ _ _ _ hz => hz, fun _ _ hb _ => hb⟩

theorem textAddT (s l : List UInt8) (g : Nat) (w : World) (hB : Blk w g 9 [.string ⟨l.toArray⟩]) (hl : l.length + s.length ≤ 1000000000) : Calls Tryd.prog 45 #[.bool true, .string ⟨s.toArray⟩, .pointer (some ⟨g, 0, none⟩)] w fun e w' => e = .returned (.tuple #[]) ∧ Outs g (l ++ s) w w' := by
  have hc := hB.cell (j := 0) rfl
  have hf := hB.free 0
  have hcat := ByteArray.mk_append_mk l s
  have h1 : (⟨l.toArray⟩ : ByteArray).size = l.length := by simp [ByteArray.size]
  have h2 : (⟨s.toArray⟩ : ByteArray).size = s.length := by simp [ByteArray.size]
  have h3 : ¬ 9223372036854775807 < l.length + s.length := by omega
  go_enter Tryd.func45, Tryd.ntmps45
  go_wp2
  go_end0
  exact ⟨rfl, hB.set 0 _, fun _ _ _ hne hz => hz.other _ _ hne, fun _ _ hb hg => hb.setCell hg _⟩

theorem textAdd (b : Bool) (s l : List UInt8) (g : Nat) (w : World) (hB : Blk w g 9 [.string ⟨l.toArray⟩]) (hl : l.length + s.length ≤ 1000000000) : Calls Tryd.prog 45 #[.bool b, .string ⟨s.toArray⟩, .pointer (some ⟨g, 0, none⟩)] w fun e w' => e = .returned (.tuple #[]) ∧ Outs g (app2 b l s) w w' := by
  cases b
  · exact textAddF s l g w hB hl
  · exact textAddT s l g w hB hl

theorem app2_len (b : Bool) (l s : List UInt8) : (app2 b l s).length ≤ l.length + s.length := by
  cases b
  · rw [app2_f]; omega
  · rw [app2_t, List.length_append]; omega
theorem txt_lenB {x : Nat} {B : Nat} (h : (be x).length ≤ B) : (txt x).length ≤ 3 * B + 1 := by
  refine txt_len (by omega) (Nat.lt_of_lt_of_le (lt_be_len x) ?_)
  refine Nat.le_trans (Nat.pow_le_pow_right (by omega) h) ?_
  refine Nat.le_trans (Nat.pow_le_pow_left (by decide : 256 ≤ 10 ^ 3) B) ?_
  rw [← Nat.pow_mul]
  exact Nat.pow_le_pow_right (by omega) (by omega)
theorem text1 (n : Bool) (p q : List UInt8) (w : World) (hp : p.length ≤ 1000000) (hq : q.length ≤ 1000000) (h1 : (rq n p q).den = 1) : Calls Tryd.prog 13 #[.agg #[.bool n, .string ⟨p.toArray⟩, .string ⟨q.toArray⟩]] w fun e w' => e = .returned (.string ⟨(rtx (rq n p q)).toArray⟩) ∧ Since w w' := by
  have HE : Hid (be (rq n p q).den = [1]) := by show _ = _; rw [h1, be_one]
  have HT : Hid (rtx (rq n p q) = ((app2 (rN (rq n p q)) [] [45]) ++ txt (rq n p q).num.natAbs)) := by
    show _ = _
    unfold rtx app2
    rw [if_pos h1, List.append_nil, List.nil_append]
  clear h1
  have lP := lenP n p q hp hq (by omega)
  have lD := lenD n p q hp hq (by omega)
  have ltP := txt_lenB lP
  have ltD := txt_lenB lD
  go_enter Tryd.func13, Tryd.ntmps13
  go_upto_region 1 with (fail)
  obtain ⟨W0, hW0, hB0, hb⟩ := start1 w 26 [.bool n, .string ⟨p.toArray⟩, .string ⟨q.toArray⟩]
  rw [← hW0]
  clear hW0
  refine jq 2 ?_
  refine ja hB0 Tryd.underlying26 (by rfl) info_rat ?_
  refine jc (rt (rN (rq n p q)) (be (rq n p q).num.natAbs) (be (rq n p q).den)) (fun X hX hF => ofQ n p q X (by omega) (by omega)) ?_
  refine jz fun X1 hX1 => ?_
  have hB0 := hB0.bel hX1
  have hb := bel_next hb hX1
  clear hX1
  go_upto_region 2 with (refine osn 78 3 7 #[.bool (rN (rq n p q)), .string ⟨(be (rq n p q).num.natAbs).toArray⟩, .string ⟨(be (rq n p q).den).toArray⟩] info_fr ?_)
  obtain ⟨Y1, hY9, hD3, hS9⟩ := start1 X1 78 [.bool (rN (rq n p q)), .string ⟨(be (rq n p q).num.natAbs).toArray⟩, .string ⟨(be (rq n p q).den).toArray⟩]
  rw [← hY9]
  clear hY9
  have hgs3 := hb.size
  have hlt3x0 := hB0.lt
  have hB0 := hB0.bel hS9
  have hb := bel_next hb hS9
  clear hS9
  generalize X1.heap.size = g3 at *
  have hg3 := hD3.lt
  go_upto_region 4 with (fail)
  have hD4 : Blk (Y1.alloc (.cells #[.string ⟨([] : List UInt8).toArray⟩] 9)) Y1.heap.size 9 [.string ⟨([] : List UInt8).toArray⟩] := Blk.new rfl
  have hgs4 := hb.size
  have hD3 := hD3.bel (since_alloc Y1 (.cells #[.string ⟨([] : List UInt8).toArray⟩] 9))
  have hb := bel_alloc hb (.cells #[.string ⟨([] : List UInt8).toArray⟩] 9)
  generalize Y1.alloc (.cells #[.string ⟨([] : List UInt8).toArray⟩] 9) = Y2 at *
  generalize Y1.heap.size = g4 at *
  clear hB0
  refine jq 3 ?_
  refine jm (.func (.func 45) #[] #[.pointer (some ⟨g4, 0, none⟩)]) ?_
  refine jn (.pointer (some ⟨g3, 0, none⟩)) ?_
  refine jf (.bool (rN (rq n p q))) hD3 0 load_bool ?_
  refine jz fun X2 hX2 => ?_
  have hD4 := hD4.bel hX2
  have hD3 := hD3.bel hX2
  have hb := bel_next hb hX2
  clear hX2
  go_wp2_with fail
  refine (textAdd (rN (rq n p q)) [45] [] g4 _ hD4 (by first | omega | (simp only [List.length_append, List.length_cons, List.length_nil]; omega))).mono ?_
  rintro e w4 ⟨rfl, hD4, hO, hL⟩
  have hD3 := hO _ _ _ (by omega) hD3
  have hb := hL _ _ hb (by omega)
  clear hO hL
  have la1 := app2_len (rN (rq n p q)) [] [45]
  simp only [List.length_nil, List.length_cons] at la1
  go_upto_region 5 with (fail)
  refine jq 4 ?_
  refine jm (.func (.func 45) #[] #[.pointer (some ⟨g4, 0, none⟩)]) ?_
  refine jn (.pointer (some ⟨g3, 1, none⟩)) ?_
  refine jf (st (be (rq n p q).num.natAbs)) hD3 1 load_str ?_
  refine jc (st (txt (rq n p q).num.natAbs)) (fun X hX hF => mo (ntextC (be (rq n p q).num.natAbs) X (by omega)) (by rw [val_be])) ?_
  refine jz fun X3 hX3 => ?_
  have hD4 := hD4.bel hX3
  have hD3 := hD3.bel hX3
  have hb := bel_next hb hX3
  clear hX3
  go_wp2_with fail
  refine (textAdd true (txt (rq n p q).num.natAbs) (app2 (rN (rq n p q)) [] [45]) g4 _ hD4 (by first | omega | (simp only [List.length_append, List.length_cons, List.length_nil]; omega))).mono ?_
  rintro e w5 ⟨rfl, hD4, hO, hL⟩
  have hD3 := hO _ _ _ (by omega) hD3
  have hb := hL _ _ hb (by omega)
  clear hO hL
  rw [app2_t] at hD4
  go_upto_region 6 with (fail)
  refine lx_region_tail [] (by kernel_rfl) (by kernel_rfl) (by kernel_rfl) rfl (lasts_nil) ?_
  simp only [its, List.dropLast, Nat.zero_add, Nat.reduceAdd]
  refine jm (.func (.func 45) #[] #[.pointer (some ⟨g4, 0, none⟩)]) ?_
  refine jn (.pointer (some ⟨g3, 2, none⟩)) ?_
  refine jf (st (be (rq n p q).den)) hD3 2 load_str ?_
  refine jv (.bool false) (exec_nesB _ _ _ _ (by rfl) (be (rq n p q).den) ([1] : List UInt8) (by rfl) (by rfl) false (nes_f HE.out)) ?_
  refine jn (.pointer (some ⟨g3, 2, none⟩)) ?_
  refine jf (st (be (rq n p q).den)) hD3 2 load_str ?_
  refine jc (st (txt (rq n p q).den)) (fun X hX hF => mo (ntextC (be (rq n p q).den) X (by omega)) (by rw [val_be])) ?_
  refine jv (st (([47] : List UInt8) ++ (txt (rq n p q).den))) (exec_cat _ _ _ _ (by rfl) ([47] : List UInt8) (txt (rq n p q).den) (by rfl) (by rfl) (by simp only [List.length_append, List.length_cons, List.length_nil]; omega)) ?_
  refine jz fun X4 hX4 => ?_
  have hD4 := hD4.bel hX4
  have hD3 := hD3.bel hX4
  have hb := bel_next hb hX4
  clear hX4
  go_wp2_with fail
  refine (textAdd false (47 :: txt (rq n p q).den) ((app2 (rN (rq n p q)) [] [45]) ++ txt (rq n p q).num.natAbs) g4 _ hD4 (by simp only [List.length_append, List.length_cons, List.length_nil]; omega)).mono ?_
  rintro e w6 ⟨rfl, hD4, hO, hL⟩
  rw [app2_f, ← HT.out] at hD4
  have hb := hL _ _ hb (by omega)
  clear hO hL
  go_upto_region 7 with (fail)
  refine jp ?_
  refine jf (st (rtx (rq n p q))) hD4 0 load_str ?_
  refine jm (st (rtx (rq n p q))) ?_
  refine jz fun X5 hX5 => ?_
  have hD4 := hD4.bel hX5
  have hb := bel_next hb hX5
  clear hX5
  go_wp2
  go_ret
  exact ⟨rfl, hb⟩

theorem text0 (n : Bool) (p q : List UInt8) (w : World) (hp : p.length ≤ 1000000) (hq : q.length ≤ 1000000) (h1 : ¬ (rq n p q).den = 1) : Calls Tryd.prog 13 #[.agg #[.bool n, .string ⟨p.toArray⟩, .string ⟨q.toArray⟩]] w fun e w' => e = .returned (.string ⟨(rtx (rq n p q)).toArray⟩) ∧ Since w w' := by
  have HE : Hid (be (rq n p q).den ≠ [1]) := fun h9 => h1 (be_inj (h9.trans be_one.symm))
  have HT : Hid (rtx (rq n p q) = (((app2 (rN (rq n p q)) [] [45]) ++ txt (rq n p q).num.natAbs) ++ (47 :: txt (rq n p q).den))) := by
    show _ = _
    unfold rtx app2
    rw [if_neg h1, List.nil_append, List.append_assoc]
  clear h1
  have lP := lenP n p q hp hq (by omega)
  have lD := lenD n p q hp hq (by omega)
  have ltP := txt_lenB lP
  have ltD := txt_lenB lD
  go_enter Tryd.func13, Tryd.ntmps13
  go_upto_region 1 with (fail)
  obtain ⟨W0, hW0, hB0, hb⟩ := start1 w 26 [.bool n, .string ⟨p.toArray⟩, .string ⟨q.toArray⟩]
  rw [← hW0]
  clear hW0
  refine jq 2 ?_
  refine ja hB0 Tryd.underlying26 (by rfl) info_rat ?_
  refine jc (rt (rN (rq n p q)) (be (rq n p q).num.natAbs) (be (rq n p q).den)) (fun X hX hF => ofQ n p q X (by omega) (by omega)) ?_
  refine jz fun X1 hX1 => ?_
  have hB0 := hB0.bel hX1
  have hb := bel_next hb hX1
  clear hX1
  go_upto_region 2 with (refine osn 78 3 7 #[.bool (rN (rq n p q)), .string ⟨(be (rq n p q).num.natAbs).toArray⟩, .string ⟨(be (rq n p q).den).toArray⟩] info_fr ?_)
  obtain ⟨Y1, hY9, hD3, hS9⟩ := start1 X1 78 [.bool (rN (rq n p q)), .string ⟨(be (rq n p q).num.natAbs).toArray⟩, .string ⟨(be (rq n p q).den).toArray⟩]
  rw [← hY9]
  clear hY9
  have hgs3 := hb.size
  have hlt3x0 := hB0.lt
  have hB0 := hB0.bel hS9
  have hb := bel_next hb hS9
  clear hS9
  generalize X1.heap.size = g3 at *
  have hg3 := hD3.lt
  go_upto_region 4 with (fail)
  have hD4 : Blk (Y1.alloc (.cells #[.string ⟨([] : List UInt8).toArray⟩] 9)) Y1.heap.size 9 [.string ⟨([] : List UInt8).toArray⟩] := Blk.new rfl
  have hgs4 := hb.size
  have hD3 := hD3.bel (since_alloc Y1 (.cells #[.string ⟨([] : List UInt8).toArray⟩] 9))
  have hb := bel_alloc hb (.cells #[.string ⟨([] : List UInt8).toArray⟩] 9)
  generalize Y1.alloc (.cells #[.string ⟨([] : List UInt8).toArray⟩] 9) = Y2 at *
  generalize Y1.heap.size = g4 at *
  clear hB0
  refine jq 3 ?_
  refine jm (.func (.func 45) #[] #[.pointer (some ⟨g4, 0, none⟩)]) ?_
  refine jn (.pointer (some ⟨g3, 0, none⟩)) ?_
  refine jf (.bool (rN (rq n p q))) hD3 0 load_bool ?_
  refine jz fun X2 hX2 => ?_
  have hD4 := hD4.bel hX2
  have hD3 := hD3.bel hX2
  have hb := bel_next hb hX2
  clear hX2
  go_wp2_with fail
  refine (textAdd (rN (rq n p q)) [45] [] g4 _ hD4 (by first | omega | (simp only [List.length_append, List.length_cons, List.length_nil]; omega))).mono ?_
  rintro e w4 ⟨rfl, hD4, hO, hL⟩
  have hD3 := hO _ _ _ (by omega) hD3
  have hb := hL _ _ hb (by omega)
  clear hO hL
  have la1 := app2_len (rN (rq n p q)) [] [45]
  simp only [List.length_nil, List.length_cons] at la1
  go_upto_region 5 with (fail)
  refine jq 4 ?_
  refine jm (.func (.func 45) #[] #[.pointer (some ⟨g4, 0, none⟩)]) ?_
  refine jn (.pointer (some ⟨g3, 1, none⟩)) ?_
  refine jf (st (be (rq n p q).num.natAbs)) hD3 1 load_str ?_
  refine jc (st (txt (rq n p q).num.natAbs)) (fun X hX hF => mo (ntextC (be (rq n p q).num.natAbs) X (by omega)) (by rw [val_be])) ?_
  refine jz fun X3 hX3 => ?_
  have hD4 := hD4.bel hX3
  have hD3 := hD3.bel hX3
  have hb := bel_next hb hX3
  clear hX3
  go_wp2_with fail
  refine (textAdd true (txt (rq n p q).num.natAbs) (app2 (rN (rq n p q)) [] [45]) g4 _ hD4 (by first | omega | (simp only [List.length_append, List.length_cons, List.length_nil]; omega))).mono ?_
  rintro e w5 ⟨rfl, hD4, hO, hL⟩
  have hD3 := hO _ _ _ (by omega) hD3
  have hb := hL _ _ hb (by omega)
  clear hO hL
  rw [app2_t] at hD4
  go_upto_region 6 with (fail)
  refine lx_region_tail [] (by kernel_rfl) (by kernel_rfl) (by kernel_rfl) rfl (lasts_nil) ?_
  simp only [its, List.dropLast, Nat.zero_add, Nat.reduceAdd]
  refine jm (.func (.func 45) #[] #[.pointer (some ⟨g4, 0, none⟩)]) ?_
  refine jn (.pointer (some ⟨g3, 2, none⟩)) ?_
  refine jf (st (be (rq n p q).den)) hD3 2 load_str ?_
  refine jv (.bool true) (exec_nesB _ _ _ _ (by rfl) (be (rq n p q).den) ([1] : List UInt8) (by rfl) (by rfl) true (nes_t HE.out)) ?_
  refine jn (.pointer (some ⟨g3, 2, none⟩)) ?_
  refine jf (st (be (rq n p q).den)) hD3 2 load_str ?_
  refine jc (st (txt (rq n p q).den)) (fun X hX hF => mo (ntextC (be (rq n p q).den) X (by omega)) (by rw [val_be])) ?_
  refine jv (st (([47] : List UInt8) ++ (txt (rq n p q).den))) (exec_cat _ _ _ _ (by rfl) ([47] : List UInt8) (txt (rq n p q).den) (by rfl) (by rfl) (by simp only [List.length_append, List.length_cons, List.length_nil]; omega)) ?_
  refine jz fun X4 hX4 => ?_
  have hD4 := hD4.bel hX4
  have hD3 := hD3.bel hX4
  have hb := bel_next hb hX4
  clear hX4
  go_wp2_with fail
  refine (textAdd true (47 :: txt (rq n p q).den) ((app2 (rN (rq n p q)) [] [45]) ++ txt (rq n p q).num.natAbs) g4 _ hD4 (by simp only [List.length_append, List.length_cons, List.length_nil]; omega)).mono ?_
  rintro e w6 ⟨rfl, hD4, hO, hL⟩
  rw [app2_t, ← HT.out] at hD4
  have hb := hL _ _ hb (by omega)
  clear hO hL
  go_upto_region 7 with (fail)
  refine jp ?_
  refine jf (st (rtx (rq n p q))) hD4 0 load_str ?_
  refine jm (st (rtx (rq n p q))) ?_
  refine jz fun X5 hX5 => ?_
  have hD4 := hD4.bel hX5
  have hb := bel_next hb hX5
  clear hX5
  go_wp2
  go_ret
  exact ⟨rfl, hb⟩

theorem textQ (n : Bool) (p q : List UInt8) (w : World) (hp : p.length ≤ 1000000) (hq : q.length ≤ 1000000) : Calls Tryd.prog 13 #[.agg #[.bool n, .string ⟨p.toArray⟩, .string ⟨q.toArray⟩]] w fun e w' => e = .returned (.string ⟨(rtx (rq n p q)).toArray⟩) ∧ Since w w' := by
  by_cases h1 : (rq n p q).den = 1
  · exact text1 n p q w hp hq h1
  · exact text0 n p q w hp hq h1

end Go.Proofs.YtchhlgcakjjncaaDoor
