/-
  Laws on values of several cells (structs, arrays): loaded from a slice's cells, stored into a variable's block.
-/
import Derived.Test.YtmmomcililideaaDoorWd
import Derived.Laws.CopyRow
import Derived.Great.BuildSlice
import Derived.Great.FillDense
import Derived.Stop.BytesEq
import Derived.Deep.QuietTactic
import Derived.BigQuiet
set_option linter.unusedSimpArgs false
set_option linter.unusedVariables false
namespace Go.Proofs.YtmmomcililideaaDoor
open Go.RowKit

/-- From the address ⟨b, off⟩ on the cells are xs. -/
def Cl (w : World) (b off : Nat) (xs : List Value) : Prop := ∀ j u, xs[j]? = some u → w.cell? ⟨b, off + j, none⟩ = some u

theorem Cl.keep {w w' : World} {b off : Nat} {xs : List Value} (h : Cl w b off xs) (hk : ∀ o, w'.cell? ⟨b, o, none⟩ = w.cell? ⟨b, o, none⟩) : Cl w' b off xs :=
  fun j u hj => (hk _).trans (h j u hj)
theorem Cl.below {w w' : World} {B b off : Nat} {xs : List Value} (h : Cl w b off xs) (hb : Below B w w') (hB : b < B) : Cl w' b off xs :=
  h.keep fun _ => hb.cell hB

/-- An element of a slice of elements of several cells. -/
theorem Rd.elt {w : World} {m n c : Nat} {A : Option Addr} {xs : List Value} (h : Rd w m (.slice A n c) n xs) {k : Nat} (hk : k < n) :
    ∃ b off, A = some ⟨b, off, none⟩ ∧ b < w.heap.size ∧ Cl w b (off + k * m) ((xs.drop (k * m)).take m) := by
  obtain ⟨b, off, hA, hb, hc⟩ := h.cellAt (by omega)
  refine ⟨b, off, hA, hb, fun j u hj => ?_⟩
  rw [List.getElem?_take] at hj
  split at hj
  · rw [List.getElem?_drop] at hj
    rw [Nat.add_assoc]
    exact hc _ u hj
  · cases hj

section
variable {P : Program} {w : World} {ops : Array Oper} {rest : List Oper} {o : Oper} {a : Act} {Q : Exit → Act → World → Prop}

theorem run_loadVar_cl (ty : TypeId) (d : TypeDesc) (b off : Nat) (xs : List Value) (hc : Cl w b off xs) (hu : P.underlying ty = some d)
    (hd : (match d with | .struct _ | .array _ _ => true | _ => false) = true) (hi : (P.info? ty).map (·.size) = some xs.length) :
    (loadVar ty ⟨b, off, none⟩).run P w = .ok (.agg xs.toArray) w := by
  have hl : (loadCells ⟨b, off, none⟩ xs.length).run P w = .ok xs.toArray w :=
    run_loadCells_list (P := P) w ⟨b, off, none⟩ xs (fun j v hv => by
      have hadd : (⟨b, off, none⟩ : Addr).add j = ⟨b, off + j, none⟩ := by unfold Addr.add; split <;> simp_all
      rw [hadd]
      exact hc j v hv)
  cases hq : P.info? ty with
  | none => simp [hq] at hi
  | some i =>
    have hs : i.size = xs.length := by simpa [hq] using hi
    have hagg : (isAgg ty).run P w = .ok true w := by
      unfold isAgg
      rw [Sem.run_bind, run_underlying hu w]
      cases d <;> simp_all
    simp [loadVar, Sem.run_bind, hagg, sizeOf, typeInfo, hq, hs, hl]

/-- A whole struct or array loaded. -/
theorem op_load_agg (hgd : o.guard = none) (ty : TypeId) (x : Operand) (ho : o.op = .load ty x) (b off : Nat) (hx : a.eval x = .pointer (some ⟨b, off, none⟩)) (d : TypeDesc) (hu : P.underlying ty = some d)
    (hd : (match d with | .struct _ | .array _ _ => true | _ => false) = true) (xs : List Value) (hc : Cl w b off xs) (hi : (P.info? ty).map (·.size) = some xs.length)
    (h : wpList P ops Q rest (a.put o.dst (.agg xs.toArray)) w) : wpList P ops Q (o :: rest) a w := by
  refine wpList_plain hgd fun K hK => ?_
  unfold Oper.wp execOp
  simp only [ho, hx, Instr.loadAt, Instr.sureAddr, Sem.run_bind, Sem.run_pure, Result.andThen_ok, run_loadVar_cl ty d b off xs hc hu hd hi]
  exact hK _ _ h

theorem alloc_setRow (w : World) (old cs : Array Value) (t : TypeId) : (w.alloc (.cells old t)).setRow w.heap.size cs = w.alloc (.cells cs t) := by
  simp only [World.setRow, World.alloc]
  congr 1
  apply Array.ext_getElem?
  intro i
  rw [Array.getElem?_modify]
  rcases Nat.lt_trichotomy i w.heap.size with h | h | h
  · rw [if_neg (by omega)]
    simp [Array.getElem?_push, Nat.ne_of_lt h]
  · subst h
    simp
  · rw [if_neg (by omega)]
    simp [Array.getElem?_push, Nat.ne_of_gt h]

theorem setRow_grown (w : World) (g : Nat) (cs : Array Value) : w.grownBy (w.setRow g cs) (some g) := by
  refine ⟨rfl, rfl, rfl, by simp, fun k hk hne => ?_⟩
  simp only [World.setRow, Array.getElem?_modify]
  rw [if_neg (by intro e; exact hne (by rw [e]))]

theorem run_storeVar_row (ty : TypeId) (g : Nat) (t : TypeId) (old cs : Array Value) (hg : w.heap[g]? = some (.cells old t (0, 0))) (hs : cs.size = old.size) (h1 : ∀ v ∈ cs.toList, v.oneCell' = true)
    (hi : (P.info? ty).map (·.size) = some cs.size) : (storeVar ty ⟨g, 0, none⟩ (.agg cs)).run P w = .ok () (w.setRow g cs) := by
  have hst := run_storeCells_at P g 0 t cs.toList 0 old w hg (by simp; omega) h1
  have hdrop : old.toList.drop (0 + 0 + cs.toList.length) = [] := List.drop_eq_nil_of_le (by simp; omega)
  rw [hdrop] at hst
  simp only [Nat.add_zero, List.take_zero, List.nil_append, List.append_nil, Array.toArray_toList] at hst
  cases hq : P.info? ty with
  | none => simp [hq] at hi
  | some i =>
    have hsz : i.size = cs.size := by simpa [hq] using hi
    simp [storeVar, Value.cells, Sem.run_bind, sizeOf, typeInfo, hq, hsz, hst]

/-- A whole struct or array stored into the variable whose block was made last. -/
theorem op_store_new (w0 : World) (old : Array Value) (t : TypeId) (hgd : o.guard = none) (ty : TypeId) (p x : Operand) (ho : o.op = .store ty p x) (hp : a.eval p = .pointer (some ⟨w0.heap.size, 0, none⟩)) (cs : Array Value)
    (hx : a.eval x = .agg cs) (hs : cs.size = old.size) (h1 : ∀ v ∈ cs.toList, v.oneCell' = true) (hi : (P.info? ty).map (·.size) = some cs.size)
    (h : wpList P ops Q rest (a.put o.dst undef) (w0.alloc (.cells cs t))) : wpList P ops Q (o :: rest) a (w0.alloc (.cells old t)) := by
  refine wpList_plain hgd fun K hK => ?_
  have hg : (w0.alloc (.cells old t)).heap[w0.heap.size]? = some (.cells old t (0, 0)) := heap_alloc_new w0 _
  have hr := run_storeVar_row (P := P) (w := w0.alloc (.cells old t)) ty w0.heap.size t old cs hg hs h1 hi
  rw [alloc_setRow] at hr
  unfold Oper.wp execOp
  simp only [ho, hp, hx, Instr.storeAt, Instr.sureAddr, Sem.run_bind, Sem.run_pure, Result.andThen_ok, hr]
  exact hK _ _ h

/-- The same into any block of its size. -/
theorem op_store_row (hgd : o.guard = none) (ty : TypeId) (p x : Operand) (ho : o.op = .store ty p x) (g : Nat) (t : TypeId) (old : Array Value) (hg : w.heap[g]? = some (.cells old t (0, 0)))
    (hp : a.eval p = .pointer (some ⟨g, 0, none⟩)) (cs : Array Value)
    (hx : a.eval x = .agg cs) (hs : cs.size = old.size) (h1 : ∀ v ∈ cs.toList, v.oneCell' = true) (hi : (P.info? ty).map (·.size) = some cs.size)
    (h : ∀ w', w'.heap[g]? = some (.cells cs t (0, 0)) → w.grownBy w' (some g) → w'.heap.size = w.heap.size → wpList P ops Q rest (a.put o.dst undef) w') : wpList P ops Q (o :: rest) a w := by
  refine wpList_plain hgd fun K hK => ?_
  have hr := run_storeVar_row (P := P) ty g t old cs hg hs h1 hi
  unfold Oper.wp execOp
  simp only [ho, hp, hx, Instr.storeAt, Instr.sureAddr, Sem.run_bind, Sem.run_pure, Result.andThen_ok, hr]
  exact hK _ _ (h _ (setRow_heap w g old cs t (0, 0) hg) (setRow_grown w g cs) (by simp))
end

/-- A new block read as a slice over it. -/
theorem Rd.new {w : World} {t : TypeId} {n : Nat} {cs : Array Value} {xs : List Value} (h : cs = xs.toArray) (hn : xs.length = n) (hm : n ≤ maxLen) :
    Rd (w.alloc (.cells cs t)) 1 (.slice (some ⟨w.heap.size, 0, none⟩) n n) n xs := by
  subst h
  refine ⟨by omega, some ⟨w.heap.size, 0, none⟩, n, rfl, Nat.le_refl _, hm, (fun h => by cases h), fun _ => ⟨w.heap.size, 0, rfl, by simp, fun j u hj => ?_⟩⟩
  rw [cell_of_row _ _ _ _ _ _ (heap_alloc_new w _)]
  simpa using hj

theorem Cl.new {w : World} {t : TypeId} {cs : Array Value} {xs : List Value} (h : cs = xs.toArray) : Cl (w.alloc (.cells cs t)) w.heap.size 0 xs := by
  subst h
  intro j u hj
  rw [cell_of_row _ _ _ _ _ _ (heap_alloc_new w _)]
  simpa using hj

theorem Cl.alloc {w : World} {b off : Nat} {xs : List Value} (h : Cl w b off xs) (hb : b < w.heap.size) (ob : Obj) : Cl (w.alloc ob) b off xs :=
  h.keep fun o => World.cell?_alloc_lt w ob ⟨b, o, none⟩ hb

theorem Cl.drew {w : World} {b off : Nat} {xs : List Value} (h : Cl w b off xs) : Cl w.drew b off xs := h

/-- The cells of a list of elements of m cells each. -/
def fl {α : Type} (g : α → List Value) (l : List α) : List Value := (l.map g).flatten

theorem fl_elt {α : Type} {g : α → List Value} {m : Nat} : ∀ {l : List α}, (∀ x ∈ l, (g x).length = m) → ∀ {k : Nat} {x : α} {r : List α}, l.drop k = x :: r → ((fl g l).drop (k * m)).take m = g x
  | [], _, k, x, r, h => by simp at h
  | y :: l, hm, k, x, r, h => by
    have hy := hm y (by simp)
    unfold fl
    cases k with
    | zero =>
      simp at h
      obtain ⟨rfl, _⟩ := h
      simp only [List.map_cons, List.flatten_cons, Nat.zero_mul, List.drop_zero]
      rw [List.take_append_of_le_length (by omega), List.take_of_length_le (by omega)]
    | succ k =>
      simp only [List.drop_succ_cons] at h
      have := fl_elt (l := l) (fun z hz => hm z (by simp [hz])) h
      simp only [List.map_cons, List.flatten_cons]
      rw [Nat.succ_mul, List.drop_append, List.drop_of_length_le (by omega), List.nil_append, hy, Nat.add_sub_cancel]
      exact this

theorem fl_len {α : Type} {g : α → List Value} {m : Nat} : ∀ {l : List α}, (∀ x ∈ l, (g x).length = m) → (fl g l).length = l.length * m
  | [], _ => by simp [fl]
  | y :: l, hm => by
    have := fl_len (l := l) (fun z hz => hm z (by simp [hz]))
    have hy := hm y (by simp)
    unfold fl at *
    simp only [List.map_cons, List.flatten_cons, List.length_append, List.length_cons, this, hy, Nat.succ_mul]
    omega

/-- One element of a slice of elements of several cells. -/
theorem Rd.atF {α : Type} {g : α → List Value} {w : World} {A : Option Addr} {c n m : Nat} {l : List α} (h : Rd w m (.slice A n c) n (fl g l)) (hm : ∀ x ∈ l, (g x).length = m) (hm0 : 0 < m) {k : Nat} (hk : k < l.length) :
    ∃ b off, ∃ x : α, A = some ⟨b, off, none⟩ ∧ b < w.heap.size ∧ Cl w b (off + k * m) (g x) ∧ x ∈ l ∧ Hid (l.drop k = x :: l.drop (k + 1)) := by
  have hl := h.1
  rw [fl_len hm] at hl
  have hn : l.length = n := Nat.eq_of_mul_eq_mul_right hm0 hl
  obtain ⟨b, off, hA, hb, hc⟩ := h.elt (k := k) (by omega)
  have hd := List.drop_eq_getElem_cons hk
  rw [fl_elt hm hd] at hc
  exact ⟨b, off, l[k], hA, hb, hc, List.getElem_mem hk, hd⟩

/-- Cells that lie in a row, as a slice over them. -/
theorem Rd.of_cl {w : World} {b off n c : Nat} {xs : List Value} (h : Cl w b off xs) (hb : b < w.heap.size) (hn : xs.length = n) (hc : n ≤ c) (hm : c ≤ maxLen) : Rd w 1 (.slice (some ⟨b, off, none⟩) n c) n xs :=
  ⟨by omega, some ⟨b, off, none⟩, c, rfl, hc, hm, (fun h => by cases h), fun _ => ⟨b, off, rfl, hb, h⟩⟩

/-- 'append(s, x)' of one element of several cells. -/
theorem append_agg {P : Program} {w : World} {ops : Array Oper} {rest : List Oper} {o : Oper} {a : Act} {Q : Exit → Act → World → Prop} (cs : List Value) (tb : TypeId) (hgd : o.guard = none) (s x : Operand) (t : TypeId)
    (ho : o.op = .call { callee := .builtin .append, args := #[s, x], argTypes := #[t, t] })
    (base : Nat) (e : TypeId) (z : Value) (m bytes : Nat) (ht : P.underlying t = some (.slice e)) (hi : (P.info? e).map (fun i => (i.zero, i.size, i.bytes)) = some (some z, m, bytes))
    (hz1 : z.cells.size = m) (hm : 0 < m) (v : Value) (n : Nat) (xs : List Value) (hs : a.eval s = v) (hown : w.ownsRow base e m v n xs)
    (hx : a.eval x = .slice (some ⟨w.heap.size, 0, none⟩) 1 1) (hcs : cs.length = m) (h1 : ∀ u ∈ cs, u.oneCell' = true)
    (hbytes : (n + 1) * bytes ≤ 140737488355328) (h63 : n + 1 ≤ maxLen) (hbase : base ≤ w.heap.size)
    (h : ∀ v' w', w'.ownsRow base e m v' (n + 1) (xs ++ cs) → (w.alloc (.cells cs.toArray tb)).grownBy w' v.ownBlock → Below base w w' → wpList P ops Q rest (a.put o.dst v') w') :
    wpList P ops Q (o :: rest) a (w.alloc (.cells cs.toArray tb)) := by
  obtain ⟨i, hi', hz0, hsz, hby⟩ := info_parts hi
  refine wpList_append_own _ hgd s x t ho base e i z m bytes ht hi' hz0 hsz hby hz1 hm v n xs hs (hown.alloc _) ⟨w.heap.size, 0, none⟩ 1 1 cs hx (by omega) ?_ h1 h63 hbytes (by simp; omega) ?_
  · intro j u hj
    rw [add_zero_spot]
    exact Cl.new (w := w) (t := tb) (cs := cs.toArray) rfl j u hj
  · intro v' w' h2 h3 _
    refine h v' w' h2 h3 (((Below.refl base w).alloc hbase _).grown h3 (by simp; omega) ?_)
    intro k hk
    exact (hown.lt k hk).1

/-- '[16]T(s)', the address of the array that a slice begins with. -/
theorem run_arrayAt {P : Program} (ty e : TypeId) (m : Nat) (hu : P.underlying ty = some (.array m e)) (A : Option Addr) (n c : Nat) (hn : m ≤ n) :
    ∀ W : World, (Instr.arrayAt ty (.slice A n c)).run P W = .ok (.pointer A) W := by
  intro W
  have : ¬ n < m := by omega
  simp [Instr.arrayAt, run_underlying hu, this]

/-- '[]T{x}' of an x of several cells. -/
theorem op_build1 {P : Program} {w : World} {ops : Array Oper} {rest : List Oper} {o : Oper} {a : Act} {Q : Exit → Act → World → Prop} (hgd : o.guard = none) (t e : TypeId) (x : Operand) (ho : o.op = .buildSlice t 1 #[(0, x)])
    (hu : P.underlying t = some (.slice e)) (z : Value) (m bytes : Nat) (hi : (P.info? e).map (fun i => (i.zero, i.size, i.bytes)) = some (some z, m, bytes)) (hm : 0 < m) (hm2 : m ≤ 4096) (cs : Array Value) (hx : a.eval x = .agg cs) (hcs : cs.size = m)
    (h : wpList P ops Q rest (a.put o.dst (.slice (some ⟨w.heap.size, 0, none⟩) 1 1)) (w.alloc (.cells cs e))) : wpList P ops Q (o :: rest) a w := by
  obtain ⟨i, hi', hz0, hsz, hby⟩ := info_parts hi
  refine wpList_buildSlice hgd t e 1 #[(0, x)] ho cs i z hu hi' hz0 (by rw [hsz]; omega) (by rw [hsz]; omega) ?_ h
  have hpe : ((#[(0, x)] : Array (Nat × Operand)).map fun (i, x) => (i, a.eval x)).toList = (([Value.agg cs] : List Value).zipIdx 0).map fun x => (x.2, x.1) := by simp [hx]
  rw [hpe]
  obtain ⟨r, h1, h2, h3⟩ := Great.fill_dense (s := i.size) (by omega) [Value.agg cs] 0 ((Array.range (1 * i.size)).map (z.cells[· % z.cells.size]!)) (by simp [Value.cells]; omega) (by simp)
  rw [h1]
  congr 1
  apply Array.ext_getElem?
  intro k
  rw [h3 k]
  by_cases hk : k < m
  · rw [if_pos (by simp; omega)]
    have e1 : k / i.size = 0 := Nat.div_eq_of_lt (by omega)
    have e2 : k % i.size = k := Nat.mod_eq_of_lt (by omega)
    simp [e1, e2, Value.cells]
  · rw [if_neg (by simp; omega), Array.getElem?_eq_none (by simp; omega), Array.getElem?_eq_none (by omega)]

/-- A whole struct or array loaded in a region that only reads. -/
theorem quiet_load_agg {P : Program} {ops : Array Oper} {C : World → Prop} {Q : Act → Prop} {o : Oper} {rest : List Oper} {a : Act} (hgd : o.guard = none) (ty : TypeId) (x : Operand) (ho : o.op = .load ty x)
    (b off : Nat) (hx : a.eval x = .pointer (some ⟨b, off, none⟩)) (d : TypeDesc) (hu : P.underlying ty = some d)
    (hd : (match d with | .struct _ | .array _ _ => true | _ => false) = true) (xs : List Value) (hc : ∀ w, C w → Cl w b off xs) (hi : (P.info? ty).map (·.size) = some xs.length)
    (h : wpQuiet P ops C Q rest (a.put o.dst (.agg xs.toArray))) : wpQuiet P ops C Q (o :: rest) a := by
  refine wpQuiet_step fun K hK => ?_
  rw [if_pos (by simp [Region.wanted, hgd])]
  refine ⟨.agg xs.toArray, fun w hw => ?_, hK _ h⟩
  unfold Oper.quietAt execOp
  simp only [ho, hx, Instr.loadAt, Instr.sureAddr, Sem.run_bind, Sem.run_pure, Result.andThen_ok, run_loadVar_cl ty d b off xs (hc w hw) hu hd hi]
  exact ⟨rfl, rfl⟩

/-- An operation of one value in a region that only reads, by its own run. -/
theorem quiet_val {P : Program} {ops : Array Oper} {C : World → Prop} {Q : Act → Prop} {o : Oper} {rest : List Oper} {a : Act} (hgd : o.guard = none) (v : Value)
    (hq : ∀ w : World, (execOp a.eval o).run P w = .ok (.value v) w)
    (h : wpQuiet P ops C Q rest (a.put o.dst v)) : wpQuiet P ops C Q (o :: rest) a := by
  refine wpQuiet_step fun K hK => ?_
  rw [if_pos (by simp [Region.wanted, hgd])]
  refine ⟨v, fun w hw => ?_, hK _ h⟩
  unfold Oper.quietAt
  rw [hq w]
  exact ⟨rfl, rfl⟩

theorem exec_cmp_agg {P : Program} {f : Operand → Value} {o : Oper} (op : BinOp) (t t' : TypeId) (x y : Operand) (ho : o.op = .binOp op t x y t') (cs ds : Array Value) (hx : f x = .agg cs) (hy : f y = .agg ds)
    (hm : P.eqGuardType P.depth t = false) (v : Value) (w : World) (hr : (binOp op t (.agg cs) (.agg ds)).run P w = .ok v w) : (execOp f o).run P w = .ok (.value v) w := by
  unfold execOp
  simp only [ho, hx, hy, Sem.run_bind, run_eqGuard_agg (w := w) op t x y cs ds hm, Result.andThen_ok, hr, Sem.run_pure]

/-- The same of a list of operations. -/
theorem op_val {P : Program} {w : World} {ops : Array Oper} {rest : List Oper} {o : Oper} {a : Act} {Q : Exit → Act → World → Prop} (hgd : o.guard = none) (v : Value) (hq : (execOp a.eval o).run P w = .ok (.value v) w)
    (h : wpList P ops Q rest (a.put o.dst v) w) : wpList P ops Q (o :: rest) a w := by
  refine wpList_plain hgd fun K hK => ?_
  unfold Oper.wp
  rw [hq]
  exact hK _ _ h

/-- '==' and '!=' of arrays of bytes. -/
theorem run_eql_arr {P : Program} (w : World) (t e : TypeId) (n : Nat) (ht : P.underlying t = some (.array n e)) (he : P.underlying e = some (.int .u8)) (hi : (P.info? e).map (·.size) = some 1)
    (x y : List UInt8) (hx : x.length = n) (hy : y.length = n) : (binOp .eql t (.agg (x.map B8).toArray) (.agg (y.map B8).toArray)).run P w = .ok (.bool (x == y)) w := by
  cases hq : P.info? e with
  | none => simp [hq] at hi
  | some i =>
    have hs : i.size = 1 := by simpa [hq] using hi
    exact run_eql_bytes w t e n ht he (fun W => by simp [sizeOf, typeInfo, hq, hs]) x y hx hy
theorem run_neq_arr {P : Program} (w : World) (t e : TypeId) (n : Nat) (ht : P.underlying t = some (.array n e)) (he : P.underlying e = some (.int .u8)) (hi : (P.info? e).map (·.size) = some 1)
    (x y : List UInt8) (hx : x.length = n) (hy : y.length = n) : (binOp .neq t (.agg (x.map B8).toArray) (.agg (y.map B8).toArray)).run P w = .ok (.bool (x != y)) w := by
  cases hq : P.info? e with
  | none => simp [hq] at hi
  | some i =>
    have hs : i.size = 1 := by simpa [hq] using hi
    rw [run_neq_struct]
    have := run_equalIn_bytes (P := P) w 9998 t e n ht he (fun W => by simp [sizeOf, typeInfo, hq, hs]) x y hx hy
    have e1 : (Op.equalIn 10000 t (.agg (x.map B8).toArray) (.agg (y.map B8).toArray)).run P w = .ok (x == y) w := this
    rw [e1]
    rfl

/-- A new block read as a slice of n elements of m cells. -/
theorem Rd.newM {w : World} {t : TypeId} {g m n : Nat} {cs : Array Value} {xs : List Value} (h : cs = xs.toArray) (hn : xs.length = n * m) (hm : n ≤ maxLen) (hg : g = w.heap.size) :
    Rd (w.alloc (.cells cs t)) m (.slice (some ⟨g, 0, none⟩) n n) n xs := by
  subst hg h
  refine ⟨hn, some ⟨w.heap.size, 0, none⟩, n, rfl, Nat.le_refl _, hm, (fun h => by cases h), fun _ => ⟨w.heap.size, 0, rfl, by simp, fun j u hj => ?_⟩⟩
  rw [cell_of_row _ _ _ _ _ _ (heap_alloc_new w _)]
  simpa using hj
end Go.Proofs.YtmmomcililideaaDoor
