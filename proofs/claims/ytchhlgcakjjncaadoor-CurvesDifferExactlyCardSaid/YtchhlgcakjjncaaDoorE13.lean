/-
  law 13: the example, sanity.
-/
import Derived.Test.YtchhlgcakjjncaaDoorCv
set_option linter.unusedSimpArgs false
set_option linter.unusedVariables false
set_option maxRecDepth 100000
set_option maxHeartbeats 1600000
namespace Go.Proofs.YtchhlgcakjjncaaDoor
open Go.RowKit
/-- The example's points. -/
def exPts : List Pt := [(10, false, [], []), (14, tr (ri 6)), (20, tr (ri 6)), (22, tr (ri 7))]
/-- A curve whose points lie in a block of their own. -/
def Cvo (l : List Pt) (n : Nat) (v : Value) (X : World) : Prop := ∃ g, v = .agg #[.slice (some ⟨g, 0, none⟩) n n] ∧ Blk X g 54 (fl ptc l)
theorem Cvo.lasts (l : List Pt) (n : Nat) : Lasts (Cvo l n) := fun _ _ _ ⟨g, h1, h2⟩ hS => ⟨g, h1, h2.bel hS⟩
theorem few_ex : fewP exPts 1000 := by
  intro k hk
  have h6 : szR (ri 6) 7 := szR_int (n := 6) (by decide)
  have h7 : szR (ri 7) 7 := szR_int (n := 7) (by decide)
  have hk : k < 4 := hk
  obtain rfl | rfl | rfl | rfl : k = 0 ∨ k = 1 ∨ k = 2 ∨ k = 3 := by omega
  · exact tz_nil
  · exact tzR h6 (by omega)
  · exact tzR h6 (by omega)
  · exact tzR h7 (by omega)
theorem ck_ex : ck exPts = 0 := by decide +kernel
theorem lst_eq {L : List Kn} (hc : Crv L) {x : Rat} {r : Nat} (hr : r ≤ 3001) (h1 : r = 0 ∨ flowAt L (-1000 + (r : Int) - 1) < x) (h2 : r < 3001 → x ≤ flowAt L (-1000 + (r : Int))) : lst L x = r := by
  rcases Nat.lt_trichotomy (lst L x) r with h | h | h
  · have g1 := lst_at (L := L) (x := x) (by omega)
    have g2 := flow_mono hc (s := -1000 + (lst L x : Int)) (t := -1000 + (r : Int) - 1) (by omega)
    rcases h1 with h1 | h1
    · omega
    · exact absurd (Rat.le_trans g1 g2) (Rat.not_le.2 h1)
  · exact h
  · have hl := lst_le L x
    exact absurd (h2 (by omega)) (Rat.not_le.2 (lst_low h))
theorem dfl_one {L M : List Kn} {a b : Int} (hab : a ≤ b) (ha : -1000 ≤ a) (h : ∀ s, -1000 ≤ s → s ≤ 2000 → (flowAt L s ≠ flowAt M s ↔ a ≤ s ∧ s ≤ b)) : ∀ k : Nat, k ≤ 3001 → dfl L M k = if -1000 + (k : Int) ≤ a then [] else [(a, if b < -1000 + (k : Int) then b else -1000 + (k : Int) - 1)]
  | 0, _ => by rw [if_pos (by omega)]; rfl
  | k + 1, hk => by
    have ih := dfl_one hab ha h k (by omega)
    have hs := h (-1000 + (k : Int)) (by omega) (by omega)
    unfold dfl
    by_cases he : flowAt L (-1000 + (k : Int)) = flowAt M (-1000 + (k : Int))
    · have hn : ¬ (a ≤ -1000 + (k : Int) ∧ -1000 + (k : Int) ≤ b) := fun h9 => hs.2 h9 he
      rw [if_pos he, ih]
      by_cases h1 : -1000 + (k : Int) ≤ a
      · rw [if_pos h1, if_pos (by omega)]
      · rw [if_neg h1, if_neg (show ¬ (-1000 + ((k + 1 : Nat) : Int) ≤ a) by omega), if_pos (show b < -1000 + (k : Int) by omega), if_pos (show b < -1000 + ((k + 1 : Nat) : Int) by omega)]
    · have hn := hs.1 he
      rw [if_neg he, ih]
      by_cases h1 : -1000 + (k : Int) ≤ a
      · have h2 : -1000 + (k : Int) = a := by omega
        rw [if_pos h1, if_neg (show ¬ (-1000 + ((k + 1 : Nat) : Int) ≤ a) by omega), h2]
        have h3 : (if b < -1000 + ((k + 1 : Nat) : Int) then b else -1000 + ((k + 1 : Nat) : Int) - 1) = a := by split <;> omega
        rw [h3]
        rfl
      · rw [if_neg h1, if_neg (show ¬ (-1000 + ((k + 1 : Nat) : Int) ≤ a) by omega), if_neg (show ¬ b < -1000 + (k : Int) by omega)]
        have h3 : (if b < -1000 + ((k + 1 : Nat) : Int) then b else -1000 + ((k + 1 : Nat) : Int) - 1) = -1000 + (k : Int) := by split <;> omega
        rw [h3]
        exact dfS_grow [] (a, -1000 + (k : Int) - 1) rfl
theorem exampleC (w : World) : Calls Tryd.prog 73 #[] w fun e w' => ∃ v, e = .returned v ∧ Cvo exPts 4 v w' ∧ Since w w' := by

  go_enter Tryd.func73, Tryd.ntmps73
  go_upto_region 1 with (fail)
  obtain ⟨W0, hW0, hB0, hb⟩ := start1 w 48 [.slice none 0 0]
  rw [← hW0]
  clear hW0
  refine lx_plain_to 9 [none, none, none, none, none, none, none, some (Bsl 54 (fl ptc exPts) 4)] (lasts_none (lasts_none (lasts_none (lasts_none (lasts_none (lasts_none (lasts_none (lasts_some (Bsl.lasts _ _ _) (lasts_nil))))))))) ?_
  simp only [its, List.take, List.drop, Nat.zero_add, Nat.reduceAdd]
  refine jn (.agg #[.int .i64 10, .bool false, .string ⟨#[]⟩, .string ⟨#[]⟩]) ?_
  refine jc (rt (rN (ri 6)) (rP (ri 6)) (rD (ri 6))) (fun X hX hF => rintQ (6) X (by decide)) ?_
  refine jn (.agg #[.int .i64 14, .bool (rN (ri 6)), st (rP (ri 6)), st (rD (ri 6))]) ?_
  refine jc (rt (rN (ri 6)) (rP (ri 6)) (rD (ri 6))) (fun X hX hF => rintQ (6) X (by decide)) ?_
  refine jn (.agg #[.int .i64 20, .bool (rN (ri 6)), st (rP (ri 6)), st (rD (ri 6))]) ?_
  refine jc (rt (rN (ri 7)) (rP (ri 7)) (rD (ri 7))) (fun X hX hF => rintQ (7) X (by decide)) ?_
  refine jn (.agg #[.int .i64 22, .bool (rN (ri 7)), st (rP (ri 7)), st (rD (ri 7))]) ?_
  refine lx_new (by rfl) (fun X hX hF => Bsl.mk 54 (fl ptc exPts) 4 (by unfold execOp; go_simp; rfl)) ?_
  intro v8
  simp only [pX]
  refine jg (.agg #[v8]) (fun X hX hF => by obtain ⟨g9, h9, _⟩ := (hF _ _ List.mem_cons_self rfl); subst h9; unfold execOp; go_simp) ?_
  refine lx_nil ?_
  intro X1 hX1 hF
  have hv8 := hF _ _ List.mem_cons_self
  have hB0 := hB0.bel hX1
  have hb := bel_next hb hX1
  clear hF hX1
  obtain ⟨gp, rfl, hBp⟩ := hv8
  have hne := hB0.lt
  by_cases hgp : gp = w.heap.size
  · exfalso
    rw [hgp] at hBp
    have h9 := hBp.symm.trans hB0
    injection h9 with h9
    injection h9 with h9 h8
    simp at h8
  refine osb 48 0 9 w.heap.size 48 hB0 [.slice (some ⟨gp, 0, none⟩) 4 4] info_cv ?_
  intro w9 hR9 hO9 hB9 hs9
  have hb9 := hB9 _ _ hb (by omega)
  have hp9 := hO9 _ _ _ hgp hBp
  clear hO9 hB9
  go_wp2
  refine post_cell rfl rfl (by rfl) Tryd.underlying48 rfl hR9 info_cv ⟨_, rfl, ⟨gp, rfl, hp9⟩, hb9⟩
end Go.Proofs.YtchhlgcakjjncaaDoor
