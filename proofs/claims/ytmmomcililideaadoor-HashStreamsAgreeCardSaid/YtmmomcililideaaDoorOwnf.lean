/-
  A slice of bytes in a block of the call's own, that a conversion may have marked: one byte appended.
-/
import Derived.Test.YtmmomcililideaaDoorAp8
import Derived.ArgAppend
set_option linter.unusedSimpArgs false
set_option linter.unusedVariables false
namespace Go.Proofs.YtmmomcililideaaDoor
open Go.RowKit

/-- The slice value lies at the head of a block from base on, no cell of which is frozen, and holds the bytes l. -/
def OwnF (w : World) (base : Nat) (v : Value) (l : List UInt8) : Prop :=
  ∃ g c cur k1 k2, v = .slice (some ⟨g, 0, none⟩) l.length c ∧ base ≤ g ∧ w.heap[g]? = some (.cells cur 5 (k1, k2)) ∧ l.length ≤ c ∧ c ≤ maxLen ∧ cur.size = c ∧ cur.toList.take l.length = l.map B8 ∧ (cur.size ≤ k1 ∨ k2 ≤ k1)

theorem OwnF.rd {w : World} {base : Nat} {v : Value} {l : List UInt8} (h : OwnF w base v l) : Rd w 1 v l.length (l.map B8) := by
  obtain ⟨g, c, cur, k1, k2, rfl, hb, hg, h1, h2, h3, h4, _⟩ := h
  refine ⟨by simp, _, _, rfl, h1, h2, (fun h => by cases h), fun _ => ⟨g, 0, rfl, (Array.getElem?_eq_some_iff.1 hg).1, fun j u hj => ?_⟩⟩
  rw [cell_of_row _ _ _ _ _ _ hg, Nat.zero_add]
  rw [← h4, List.getElem?_take] at hj
  split at hj
  · simpa using hj
  · cases hj
theorem OwnF.keep {w w' : World} {base : Nat} {v : Value} {l : List UInt8} (h : OwnF w base v l) (hb : Below w.heap.size w w') : OwnF w' base v l := by
  obtain ⟨g, c, cur, k1, k2, rfl, hg, hh, rest⟩ := h
  exact ⟨g, c, cur, k1, k2, rfl, hg, (hb.block g (Array.getElem?_eq_some_iff.1 hh).1).trans hh, rest⟩
theorem OwnF.of_own {w : World} {base n : Nat} {v : Value} {l : List UInt8} (h : w.ownsRow base 5 1 v n (l.map B8)) (hl : l.length = n) (hn : 0 < n) : OwnF w base v l := by
  obtain ⟨_, h | ⟨g, cap, cur, rfl, hb, hh, h1, h2, h3, h4⟩⟩ := h
  · omega
  · subst hl
    exact ⟨g, cap, cur, 0, 0, rfl, hb, hh, h1, h2, by omega, by simpa using h4, .inr (Nat.le_refl _)⟩
theorem OwnF.conv (w : World) (l : List UInt8) (hl : l.length ≤ 140737488355328) :
    ∃ v w1, (convert 9 22 (.string ⟨l.toArray⟩)).run Tryd.prog w = .ok v w1 ∧ OwnF w1 w.heap.size v l ∧ Below w.heap.size w w1 := by
  have hsz : (⟨l.toArray⟩ : ByteArray).size = l.length := by simp [ByteArray.size]
  have hr := Lib.run_convert_string_bytes (P := Tryd.prog) w 9 22 5 ⟨l.toArray⟩ Tryd.underlying9 Tryd.underlying22 Tryd.underlying5
  rw [hsz] at hr
  refine ⟨_, _, hr, ⟨w.heap.size, _, _, _, _, rfl, Nat.le_refl _, Lib.bytesWorld_at_new w 5 ⟨l.toArray⟩, grownCap_ge _ _ _ _, grownCap_le_maxLen _ _ _ _ (by unfold maxLen; omega), ?_, ?_, .inl (Nat.le_refl _)⟩, ?_⟩
  · have := grownCap_ge w l.length 0 5
    simp [Lib.bytesCells, hsz]
    omega
  · simp [Lib.bytesCells]
    intro a _
    rfl
  · exact ⟨rfl, rfl, rfl, by rw [Lib.bytesWorld_size]; omega, fun k hk => Lib.bytesWorld_at_old w 5 _ k hk⟩

/-- 'append(v, x)' of one byte. -/
theorem app_own {w : World} {ops : Array Oper} {rest : List Oper} {o : Oper} {a : Act} {Q : Exit → Act → World → Prop} {x : UInt8} {tb : TypeId} (hgd : o.guard = none) {s y : Operand}
    (ho : o.op = .call { callee := .builtin .append, args := #[s, y], argTypes := #[22, 22] })
    (base : Nat) (v : Value) (l : List UInt8) (hs : a.eval s = v) (hown : OwnF w base v l) (hy : a.eval y = .slice (some ⟨w.heap.size, 0, none⟩) 1 1) (hn : l.length + 1 ≤ 140737488355328) (hbase : base ≤ w.heap.size)
    (h : ∀ v' w', OwnF w' base v' (l ++ [x]) → Below base w w' → wpList Tryd.prog ops Q rest (a.put o.dst v') w') :
    wpList Tryd.prog ops Q (o :: rest) a (w.alloc (.cells #[B8 x] tb)) := by
  obtain ⟨i, hi', hz0, hsz, hby⟩ := info_parts info_u8
  obtain ⟨g, c, cur, k1, k2, rfl, hb, hg, h1, h2, h3, h4, h5⟩ := hown
  have hlt : g < w.heap.size := (Array.getElem?_eq_some_iff.1 hg).1
  have hgA : (w.alloc (.cells #[B8 x] tb)).heap[g]? = some (.cells cur 5 (k1, k2)) := (Below.heap_alloc w _ g hlt).trans hg
  have bA : Below base w (w.alloc (.cells #[B8 x] tb)) := (Below.refl base w).alloc hbase _
  have hnew : ∀ j u, ([B8 x] : List Value)[j]? = some u → (w.alloc (.cells #[B8 x] tb)).cell? ((⟨w.heap.size, 0, none⟩ : Addr).add j) = some u := by
    intro j u hj
    rw [add_zero_spot]
    exact Cl.new (w := w) (t := tb) (cs := #[B8 x]) (xs := [B8 x]) rfl j u hj
  by_cases hroom : l.length + 1 ≤ c
  · have hcell : ∀ j, j < c → (w.alloc (.cells #[B8 x] tb)).cell? ⟨g, j, none⟩ = cur[j]? := fun j _ => cell_of_row _ _ _ _ _ _ hgA
    have hr := run_append_room_cells (P := Tryd.prog) (w.alloc (.cells #[B8 x] tb)) 22 o.type 5 i Tryd.underlying22 hi' g 0 l.length c ⟨w.heap.size, 0, none⟩ 1 1 [B8 x] (by simp [hsz]) hnew (by intro u hu; simp at hu; subst hu; rfl) hroom
      (by intro j hj; simp at hj; subst hj; simp only [hsz, Nat.mul_one, Nat.zero_add, Nat.add_zero]; rw [hcell _ (by omega)]; simp; omega)
      (by intro j hj; simp at hj; subst hj; simp only [hsz, Nat.mul_one, Nat.zero_add, Nat.add_zero]; simp only [World.frozen?, hgA]; simp; omega)
    simp only [hsz, Nat.mul_one, Nat.zero_add, World.setCells] at hr
    refine wpList_plain hgd fun K hK => ?_
    unfold Oper.wp execOp
    simp only [ho, resolve, invoke, builtin, Sem.run_bind, Sem.run_pure, Result.andThen_ok, List.map_toArray, List.map_cons, List.map_nil, hs, hy, hr]
    refine hK _ _ (h _ _ ⟨g, c, cur.setIfInBounds l.length (B8 x), k1, k2, by simp, hb, Go.Joins.block_setCell hgA _, by simp; omega, h2, by simpa using h3, ?_, by simpa using h5⟩ (bA.setCell hb _))
    have hlc : l.length < cur.size := by omega
    rw [Array.toList_setIfInBounds, List.length_append, List.length_singleton, List.map_append, ← h4]
    apply List.ext_getElem?
    intro j
    rw [List.getElem?_take, List.getElem?_set]
    by_cases hj : j < l.length
    · rw [if_pos (by omega), if_neg (by omega), List.getElem?_append_left (by simp; omega), List.getElem?_take, if_pos hj]
    · by_cases hj2 : j = l.length
      · subst hj2
        rw [if_pos (by omega), if_pos rfl, if_pos (by simpa using hlc), List.getElem?_append_right (by simp; omega)]
        simp
        have : min l.length cur.size = l.length := by omega
        rw [this]
        simp
      · rw [if_neg (by omega), List.getElem?_eq_none (by simp; omega)]
  · obtain ⟨v', w', hr, how, hgr⟩ := run_append_arg_grows (P := Tryd.prog) (w.alloc (.cells #[B8 x] tb)) 22 o.type 5 i _ 1 1 Tryd.underlying22 hi' hz0 hsz hby rfl (by decide) ⟨g, 0, none⟩ l.length c (l.map B8) (by simp)
      (by
        intro j u hj
        rw [add_zero_spot, Nat.zero_add, cell_of_row _ _ _ _ _ _ hgA]
        rw [← h4, List.getElem?_take] at hj
        split at hj
        · simpa using hj
        · cases hj) ⟨w.heap.size, 0, none⟩ 1 1 [B8 x] rfl hnew (by omega) (by unfold maxLen; omega) (by omega)
    refine wpList_plain hgd fun K hK => ?_
    unfold Oper.wp execOp
    simp only [ho, resolve, invoke, builtin, Sem.run_bind, Sem.run_pure, Result.andThen_ok, List.map_toArray, List.map_cons, List.map_nil, hs, hy, hr]
    have e : l.map B8 ++ [B8 x] = (l ++ [x]).map B8 := by simp
    rw [e] at how
    refine hK _ _ (h _ _ (OwnF.of_own (ownsRow_mono how (by simp; omega)) (by simp) (by omega)) (bA.grown hgr (by simp; omega) (fun k hk => by cases hk)))
end Go.Proofs.YtmmomcililideaaDoor
