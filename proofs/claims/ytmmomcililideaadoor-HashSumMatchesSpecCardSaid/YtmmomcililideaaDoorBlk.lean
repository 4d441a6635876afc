/-
  A block of a call's own, known whole.
-/
import Derived.Test.YtmmomcililideaaDoorAg
import Derived.OneCell
import Derived.Deep.Heap
import Derived.Lib.SmallJoins
set_option linter.unusedSimpArgs false
set_option linter.unusedVariables false
namespace Go.Proofs.YtmmomcililideaaDoor
open Go.RowKit

/-- Block g holds just the cells xs of type t. -/
def Blk (w : World) (g : Nat) (t : TypeId) (xs : List Value) : Prop := w.heap[g]? = some (.cells xs.toArray t (0, 0))
section
variable {w w' : World} {g : Nat} {t : TypeId} {xs : List Value}
theorem Blk.lt (h : Blk w g t xs) : g < w.heap.size := (Array.getElem?_eq_some_iff.1 h).1
theorem Blk.cell (h : Blk w g t xs) {j : Nat} {u : Value} (hj : xs[j]? = some u) : w.cell? ⟨g, j, none⟩ = some u := by
  rw [cell_of_row _ _ _ _ _ _ h]
  simpa using hj
theorem Blk.free (h : Blk w g t xs) (j : Nat) : w.frozen? ⟨g, j, none⟩ = false := by simp [World.frozen?, show w.heap[g]? = _ from h]
theorem Blk.cl (h : Blk w g t xs) : Cl w g 0 xs := fun j u hj => by rw [Nat.zero_add]; exact h.cell hj
theorem Blk.set (h : Blk w g t xs) (j : Nat) (v : Value) : Blk (w.setCell ⟨g, j, none⟩ v) g t (xs.set j v) := by
  unfold Blk
  rw [Go.Joins.block_setCell (i := j) h v]
  simp
theorem Blk.other (h : Blk w g t xs) (a : Addr) (v : Value) (hne : g ≠ a.block) : Blk (w.setCell a v) g t xs := by
  unfold Blk
  rw [Go.Deep.blk_setCell_other w a v g hne]
  exact h
theorem Blk.below {B : Nat} (h : Blk w g t xs) (hb : Below B w w') (hg : g < B) : Blk w' g t xs := (hb.block g hg).trans h
theorem Blk.alloc (h : Blk w g t xs) (o : Obj) : Blk (w.alloc o) g t xs := by
  have hb := (Below.refl w.heap.size w).alloc (Nat.le_refl _) o
  exact h.below hb h.lt
theorem Blk.drew (h : Blk w g t xs) : Blk w.drew g t xs := h
theorem Blk.drewN (h : Blk w g t xs) (n : Nat) : Blk (w.drewN n) g t xs := h
theorem Blk.new {cs : Array Value} (h : cs = xs.toArray) : Blk (w.alloc (.cells cs t)) w.heap.size t xs := by
  subst h
  exact heap_alloc_new w _
theorem bel_drewN {B : Nat} {a w : World} (h : Below B a w) (n : Nat) : Below B a (w.drewN n) := ⟨h.os, h.tape, h.output, h.size, h.block⟩
theorem Blk.newAt {cs : Array Value} (h : cs = xs.toArray) (hg : g = w.heap.size) : Blk (w.alloc (.cells cs t)) g t xs := by
  subst hg
  exact Blk.new h
end

theorem grown_block {w w' : World} {g k : Nat} (h : w.grownBy w' (some g)) (hk : k < w.heap.size) (hne : k ≠ g) : w'.heap[k]? = w.heap[k]? := by
  obtain ⟨_, _, _, _, h5⟩ := h
  exact h5 k hk (by simpa using hne)

/-- A whole struct or array stored into a block of its size. -/
theorem op_store_blk {P : Program} {w : World} {ops : Array Oper} {rest : List Oper} {o : Oper} {a : Act} {Q : Exit → Act → World → Prop} (hgd : o.guard = none) (ty : TypeId) (p x : Operand) (ho : o.op = .store ty p x) (g : Nat) (t : TypeId) (xs : List Value) (hB : Blk w g t xs)
    (hp : a.eval p = .pointer (some ⟨g, 0, none⟩)) (ys : List Value) (hx : a.eval x = .agg ys.toArray) (hl : ys.length = xs.length) (h1 : ∀ v ∈ ys, v.oneCell' = true) (hi : (P.info? ty).map (·.size) = some ys.length)
    (h : ∀ w', Blk w' g t ys → (∀ g' t' zs, g' ≠ g → Blk w g' t' zs → Blk w' g' t' zs) → (∀ B W, Below B W w → B ≤ g → Below B W w') → w'.heap.size = w.heap.size → wpList P ops Q rest (a.put o.dst undef) w') :
    wpList P ops Q (o :: rest) a w := by
  refine op_store_row hgd ty p x ho g t xs.toArray hB hp ys.toArray hx (by simpa using hl) (by simpa using h1) (by simpa using hi) ?_
  intro w' h2 h3 h4
  refine h w' h2 (fun g' t' zs hne hz => ?_) (fun B W hb hg => ?_) h4
  · exact (grown_block h3 hz.lt hne).trans hz
  · exact hb.grown h3 (by have := hB.lt; omega) (fun k hk => by simp at hk; omega)

/-- 'a[k]' of an array of one-cell elements that is held whole. -/
theorem run_index_arr {P : Program} (t e : TypeId) (n : Nat) (ht : P.underlying t = some (.array n e)) (hi : (P.info? e).map (·.size) = some 1) (hx : ∃ d, P.underlying e = some d ∧ (match d with | .struct _ | .array _ _ => false | _ => true) = true) (cs : List Value) (k : Nat) (v : Value) (hk : cs[k]? = some v) (hn : k < n) :
    ∀ W : World, (Instr.index t (.agg cs.toArray) (.int .i64 (k : Int))).run P W = .ok v W := by
  intro W
  cases hq : P.info? e with
  | none => simp [hq] at hi
  | some i =>
    have hs : i.size = 1 := by simpa [hq] using hi
    obtain ⟨d, hd, hd2⟩ := hx
    simp [Instr.index, run_underlying ht, asIntOf, go_sem]
    have hag : (isAgg e).run P W = .ok false W := by
      unfold isAgg
      rw [Sem.run_bind, run_underlying hd W]
      cases d <;> simp_all
    rw [if_pos hn]
    simp [sizeOf, typeInfo, hq, hs, hag, hk]

/-- 'copy(dst, s)' of a string into a stretch of a block that is known whole. -/
theorem op_copy_str {P : Program} {w : World} {ops : Array Oper} {rest : List Oper} {o : Oper} {a : Act} {Q : Exit → Act → World → Prop} (hgd : o.guard = none) (d x : Operand) (dT sT elem : TypeId)
    (ho : o.op = .call { callee := .builtin .copy, args := #[d, x], argTypes := #[dT, sT] }) (hu : P.underlying dT = some (.slice elem)) (hs : (P.info? elem).map (·.size) = some 1)
    (g off n c : Nat) (t : TypeId) (xs : List Value) (hB : Blk w g t xs) (hd : a.eval d = .slice (some ⟨g, off, none⟩) n c) (l : List UInt8) (hx : a.eval x = .string ⟨l.toArray⟩) (hfit : off + min l.length n ≤ xs.length)
    (h : ∀ w', Blk w' g t (xs.take off ++ (l.take (min l.length n)).map B8 ++ xs.drop (off + min l.length n)) → (∀ g' t' zs, g' ≠ g → Blk w g' t' zs → Blk w' g' t' zs) → (∀ B W, Below B W w → B ≤ g → Below B W w') → w'.heap.size = w.heap.size →
      wpList P ops Q rest (a.put o.dst (goInt ((min l.length n : Nat) : Int))) w') :
    wpList P ops Q (o :: rest) a w := by
  refine wpList_plain hgd fun K hK => ?_
  have es : (⟨l.toArray⟩ : ByteArray).size = l.length := by simp [ByteArray.size]
  have h1 : ∀ v ∈ (l.take (min l.length n)).map B8, v.oneCell' = true := B8s_one _
  have hlen : ((l.take (min l.length n)).map B8).length = min l.length n := by rw [List.length_map, List.length_take]; omega
  have hst := run_storeCells_at P g off t ((l.take (min l.length n)).map B8) 0 xs.toArray w hB (by rw [hlen]; simpa using hfit) h1
  simp only [Nat.add_zero, hlen] at hst
  have hr : (Builtin.copy_ #[dT, sT] o.type #[.slice (some ⟨g, off, none⟩) n c, .string ⟨l.toArray⟩]).run P w = .ok (goInt ((min l.length n : Nat) : Int)) (w.setRow g (xs.take off ++ (l.take (min l.length n)).map B8 ++ xs.drop (off + min l.length n)).toArray) := by
    cases hq : P.info? elem with
    | none => simp [hq] at hs
    | some i =>
      have hmin : Nat.min l.length n = min l.length n := rfl
      have htk : List.take (min l.length n) (List.map (fun b : UInt8 => Value.int IntKind.u8 (b.toNat : Int)) l) = (l.take (min l.length n)).map B8 := by rw [← List.map_take]; rfl
      simp [Builtin.copy_, run_underlying hu, Builtin.lenOf, Builtin.firstCells, sizeOf, typeInfo, hq, es, hmin]
      rw [htk, hst]
      simp [Result.andThen]
  have h2 := setRow_heap w g xs.toArray (xs.take off ++ (l.take (min l.length n)).map B8 ++ xs.drop (off + min l.length n)).toArray t (0, 0) hB
  have h3 := setRow_grown w g (xs.take off ++ (l.take (min l.length n)).map B8 ++ xs.drop (off + min l.length n)).toArray
  unfold Oper.wp execOp
  simp only [ho, resolve, invoke, builtin, Sem.run_bind, Sem.run_pure, Result.andThen_ok, List.map_toArray, List.map_cons, List.map_nil, hd, hx, hr]
  refine hK _ _ (h _ h2 (fun g' t' zs hne hz => (grown_block h3 hz.lt hne).trans hz) (fun B W hb hg => hb.grown h3 (by have := hB.lt; omega) (fun k hk => by simp at hk; omega)) (by simp))
end Go.Proofs.YtmmomcililideaaDoor
