/-
  seal: parts, mark.
-/
import Derived.Test.YthinopepcmidmaaDoorSc48
import Derived.Test.YthinopepcmidmaaDoorWk02o
set_option linter.unusedSimpArgs false
set_option linter.unusedVariables false
set_option maxRecDepth 100000
set_option maxHeartbeats 1600000
namespace Go.Proofs.YthinopepcmidmaaDoor
open Go.RowKit
theorem Blk.rdAt {X : World} {g : Nat} {t : TypeId} {cs xs : List Value} {k n : Nat} (hB : Blk X g t cs) (hs : (cs.drop k).take xs.length = xs) (hn : xs.length = n) (hm : n ≤ maxLen) : Rd X 1 (.slice (some ⟨g, k, none⟩) n n) n xs := by
  refine ⟨by omega, some ⟨g, k, none⟩, n, rfl, Nat.le_refl _, hm, (fun h => by cases h), fun _ => ⟨g, k, rfl, hB.lt, fun j u hj => ?_⟩⟩
  refine hB.cell ?_
  have hl : j < xs.length := (List.getElem?_eq_some_iff.1 hj).1
  rw [← hs, List.getElem?_take_of_lt hl, List.getElem?_drop] at hj
  exact hj
theorem numV (l : List Int) (v : Value) (w : World) (hv : Ins l v w) (hn : l.length ≤ 100) (hbd : ∀ x ∈ l, -9223372036854775808 ≤ x ∧ x ≤ 9223372036854775807) : Calls Tryd.prog 47 #[v] w fun e w' => ∃ v', e = .returned v' ∧ w'.ownsRow w.heap.size 9 1 v' l.length (encs l) ∧ Since w w' := by
  obtain ⟨A, c, rfl, hr⟩ := hv
  exact numC A l.length c l w hr rfl hn fun k hk => by
    unfold inAt
    rw [List.getD_eq_getElem?_getD, List.getElem?_eq_getElem hk]
    exact hbd _ (List.getElem_mem hk)
/-- A row of the call's own, as it lies in a world. -/
def Own (B n : Nat) (xs : List Value) (v : Value) (X : World) : Prop := X.ownsRow B 9 1 v n xs
theorem Own.lasts (B n : Nat) (xs : List Value) : Lasts (Own B n xs) := fun _ _ _ h hS => own_since9 h hS
theorem Own.low {B C n : Nat} {xs : List Value} {v : Value} {X : World} (h : X.ownsRow C 9 1 v n xs) (hBC : B ≤ C) : Own B n xs v X := by
  obtain ⟨hl, hr⟩ := h
  refine ⟨hl, hr.imp id ?_⟩
  rintro ⟨g, cap, cur, rfl, hb, hg, rest⟩
  exact ⟨g, cap, cur, rfl, Nat.le_trans hBC hb, hg, rest⟩
def nums (s : Sl) : List Int := [236, s.st, s.sq, s.dy, s.kd]
theorem nums_bd {s : Sl} (h : SlOk s) : ∀ x ∈ nums s, -9223372036854775808 ≤ x ∧ x ≤ 9223372036854775807 := by
  intro x hx
  unfold nums at hx
  simp only [List.mem_cons, List.not_mem_nil, or_false] at hx
  rcases hx with rfl | rfl | rfl | rfl | rfl
  · decide
  · exact h.st
  · exact h.sq
  · exact h.dy
  · exact h.kd
theorem sptC (s : Sl) (w : World) (hs : SlOk s) : Calls Tryd.prog 37 #[.agg (slc s).toArray] w fun e w' => ∃ v, e = .returned v ∧ w'.ownsRow w.heap.size 9 1 v 7 ((pts s).map tx) ∧ Since w w' := by
  go_enter Tryd.func37, Tryd.ntmps37
  go_upto_region 1 with (fail)
  obtain ⟨W0, hW0, hB0, hb⟩ := start1 w 28 (slc s)
  rw [← hW0]
  clear hW0
  refine lx_tails 2 [none, none, none, none, none, none, none, none, some (Ins (nums s)), some (Own w.heap.size 5 (encs (nums s))), none, none, none, none, none, some (Sts [s.bd, s.pv])] (by kernel_rfl) (by kernel_rfl) (by kernel_rfl) (lasts_none (lasts_none (lasts_none (lasts_none (lasts_none (lasts_none (lasts_none (lasts_none (lasts_some (Ins.lasts _) (lasts_some (Own.lasts _ _ _) (lasts_none (lasts_none (lasts_none (lasts_none (lasts_none (lasts_some (Sts.lasts _) (lasts_nil))))))))))))))))) ?_
  simp only [its, List.length_cons, List.length_nil, Nat.zero_add, Nat.reduceAdd, Nat.reduceSub, List.take_succ_cons, List.take_zero, List.drop_succ_cons, List.drop_zero]
  refine jn (.pointer (some ⟨w.heap.size, 0, none⟩)) ?_
  refine jf (.int .i64 s.st) hB0 0 load_int ?_
  refine jn (.pointer (some ⟨w.heap.size, 1, none⟩)) ?_
  refine jf (.int .i64 s.sq) hB0 1 load_int ?_
  refine jn (.pointer (some ⟨w.heap.size, 2, none⟩)) ?_
  refine jf (.int .i64 s.dy) hB0 2 load_int ?_
  refine jn (.pointer (some ⟨w.heap.size, 3, none⟩)) ?_
  refine jf (.int .i64 s.kd) hB0 3 load_int ?_
  refine lx_new (by rfl) (fun X hX hF => exec_bsI5 _ _ _ _ _ (by rfl) 236 s.st s.sq s.dy s.kd (by rfl) (by rfl) (by rfl) (by rfl) (by rfl) X) ?_
  intro v11
  simp only [pX]
  refine jk (fun X hX hF => (numV (nums s) v11 X (hF _ _ List.mem_cons_self rfl) (by show 5 ≤ 100; decide) (nums_bd hs)).mono fun e X' ⟨v, h1, h2, h3⟩ => ⟨v, h1, Own.low h2 (Nat.le_trans hb.size hX.size), h3⟩) ?_
  intro v12
  refine jn (.pointer (some ⟨w.heap.size, 4, none⟩)) ?_
  refine jf (st s.bd) hB0 4 load_str ?_
  refine jn (.pointer (some ⟨w.heap.size, 5, none⟩)) ?_
  refine jv (.slice (some ⟨w.heap.size, 5, none⟩) 16 16) (exec_sld _ (by rfl) w.heap.size 5 (by rfl)) ?_
  refine jg (st s.pv) (fun X hX hF => exec_str 69 9 5 Tryd.underlying69 Tryd.underlying5 Tryd.underlying9 (.tmp 16) (by rfl) (v := .slice (some ⟨w.heap.size, 5, none⟩) 16 16) rfl (Blk.rdAt (hB0.bel hX) (slc_pv hs) (by rw [List.length_map, hs.pv]) (by decide))) ?_
  refine lx_new (by rfl) (fun X hX hF => exec_bsS2 _ _ (by rfl) s.bd s.pv (by rfl) (by rfl) X) ?_
  intro v18
  simp only [pX]
  refine lx_nil ?_
  intro X1 hX1 hF
  have hv11 := hF _ _ (List.mem_cons_of_mem _ (List.mem_cons_of_mem _ List.mem_cons_self))
  have hv12 := hF _ _ (List.mem_cons_of_mem _ List.mem_cons_self)
  have hv18 := hF _ _ List.mem_cons_self
  have hB0 := hB0.bel hX1
  have hb := bel_next hb hX1
  clear hF hX1
  obtain ⟨A18, c18, rfl, hr18⟩ := hv18
  refine append_rd rfl (.tmp 12) (.tmp 18) 22 rfl w.heap.size 9 _ 1 16 Tryd.underlying22 info_strz rfl (by decide) _ 5 _ (by rfl) hv12 _ 2 _ (by rfl) hr18 (by intro u hu; simp only [List.map_cons, List.map_nil, List.mem_cons, List.not_mem_nil, or_false] at hu; rcases hu with rfl | rfl <;> rfl) (by decide) (by decide) hb.size ?_
  intro v7 w7 hown7 hg7 hb7
  have hb := hb.trans hb7
  clear hv11 hv12 hr18 hg7 hb7
  go_wp2
  go_ret
  exact ⟨v7, rfl, hown7, hb⟩
end Go.Proofs.YthinopepcmidmaaDoor
