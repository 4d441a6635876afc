/-
  Words for walks over structs, in seats without numbers.
-/
import Derived.Deep.Cut
import Derived.Deep.DeepCutAuto
import Derived.BigRegion
import Derived.RegionTactic
import Derived.Test.YthinopepcmidmaaDoorLk
import Derived.Test.YthinopepcmidmaaDoorWk02q
set_option linter.unusedSimpArgs false
set_option linter.unusedVariables false
set_option maxRecDepth 100000
set_option maxHeartbeats 1600000
namespace Go.Proofs.YthinopepcmidmaaDoor
open Go.RowKit
theorem since_alloc (X : World) (ob : Obj) : Since X (X.alloc ob) := (Below.refl X.heap.size X).alloc (Nat.le_refl _) ob
theorem size_alloc (w : World) (o : Obj) : (w.alloc o).heap.size = w.heap.size + 1 := by simp
/-- What a function lays before it begins: its parameters' boxes and its result's cells. -/
theorem start1 (w : World) (T1 : TypeId) (x1 : List Value) : ∃ W, W = w.alloc (.cells x1.toArray T1) ∧ Blk W w.heap.size T1 x1 ∧ Below w.heap.size w W := ⟨_, rfl, Blk.new rfl, since_alloc _ _⟩
theorem start2 (w : World) (T1 T2 : TypeId) (x1 x2 : List Value) : ∃ W, W = (w.alloc (.cells x1.toArray T1)).alloc (.cells x2.toArray T2) ∧ Blk W w.heap.size T1 x1 ∧ Blk W (w.heap.size + 1) T2 x2 ∧ Below w.heap.size w W := by
  obtain ⟨W1, e1, h1, b1⟩ := start1 w T1 x1
  have hs : W1.heap.size = w.heap.size + 1 := by rw [e1]; exact size_alloc _ _
  refine ⟨W1.alloc (.cells x2.toArray T2), by rw [e1], h1.bel (since_alloc _ _), ?_, bel_next b1 (since_alloc _ _)⟩
  have h2 : Blk (W1.alloc (.cells x2.toArray T2)) W1.heap.size T2 x2 := Blk.new rfl
  rwa [hs] at h2
theorem start3 (w : World) (T1 T2 T3 : TypeId) (x1 x2 x3 : List Value) : ∃ W, W = ((w.alloc (.cells x1.toArray T1)).alloc (.cells x2.toArray T2)).alloc (.cells x3.toArray T3) ∧ Blk W w.heap.size T1 x1 ∧ Blk W (w.heap.size + 1) T2 x2 ∧ Blk W (w.heap.size + 2) T3 x3 ∧ Below w.heap.size w W := by
  obtain ⟨W1, e1, h1, h2, b1⟩ := start2 w T1 T2 x1 x2
  have hs : W1.heap.size = w.heap.size + 2 := by rw [e1, size_alloc, size_alloc]
  refine ⟨W1.alloc (.cells x3.toArray T3), by rw [e1], h1.bel (since_alloc _ _), h2.bel (since_alloc _ _), ?_, bel_next b1 (since_alloc _ _)⟩
  have h3 : Blk (W1.alloc (.cells x3.toArray T3)) W1.heap.size T3 x3 := Blk.new rfl
  rwa [hs] at h3
/-- A load of a whole struct out of a block that is known. -/
theorem exec_lda {P : Program} {f : Operand → Value} {o : Oper} (T : TypeId) (x : Operand) (ho : o.op = .load T x) (g : Nat) (hx : f x = .pointer (some ⟨g, 0, none⟩)) {d : TypeDesc} (hu : P.underlying T = some d)
    (hag : (match d with | .struct _ | .array _ _ => true | _ => false) = true) {t : TypeId} {cs : List Value} (X : World) (hB : Blk X g t cs) (hi : (P.info? T).map (·.size) = some cs.length) : (execOp f o).run P X = .ok (.value (.agg cs.toArray)) X := by
  unfold execOp
  simp only [ho, hx, Instr.loadAt, Instr.sureAddr, Sem.run_bind, Sem.run_pure, Result.andThen_ok, run_loadVar_cl T d g 0 cs hB.cl hu hag hi]
/-- A store of one cell into a block that is known. -/
theorem op_store1 {P : Program} {w : World} {ops : Array Oper} {rest : List Oper} {o : Oper} {a : Act} {Q : Exit → Act → World → Prop} (hgd : o.guard = none) (g j : Nat) (t : TypeId) (xs : List Value) (hB : Blk w g t xs) (v : Value) (hj : j < xs.length)
    (hr : ∀ (X : World) (u : Value), X.cell? ⟨g, j, none⟩ = some u → X.frozen? ⟨g, j, none⟩ = false → (execOp a.eval o).run P X = .ok .skip (X.setCell ⟨g, j, none⟩ v))
    (h : ∀ w', Blk w' g t (xs.set j v) → (∀ g' t' zs, g' ≠ g → Blk w g' t' zs → Blk w' g' t' zs) → (∀ B W, Below B W w → B ≤ g → Below B W w') → wpList P ops Q rest (a.put o.dst undef) w') : wpList P ops Q (o :: rest) a w := by
  refine wpList_plain hgd fun K hK => ?_
  unfold Oper.wp
  rw [hr w _ (hB.cell (List.getElem?_eq_getElem hj)) (hB.free j)]
  exact hK _ _ (h _ (hB.set j v) (fun g' t' zs hne hz => hz.other _ _ hne) (fun B W hb hg => hb.setCell hg _))
/-- A result that lies in a cell and one in a slot. -/
theorem post_cell2 {P : Program} {fn : Func} {R : Ending → World → Prop} {a : Act} {w : World} {s g t' : Nat} {T t : TypeId} {cs : List Value} {d : TypeDesc} {v : Value} (hres : fn.results = #[.cell s T, .tmp t']) (hd : a.defers = []) (hp : a.tmps.getD s undef = .pointer (some ⟨g, 0, none⟩)) (hv : a.tmps.getD t' undef = v) (hu : P.underlying T = some d)
    (hag : (match d with | .struct _ | .array _ _ => true | _ => false) = true) (hB : Blk w g t cs) (hi : (P.info? T).map (·.size) = some cs.length) (hR : R (.returned (.tuple #[.agg cs.toArray, v])) w) : bodyPost P fn R .ret a w := by
  refine bodyPost_ret (v := .tuple #[.agg cs.toArray, v]) ?_ hd hR
  have hld := run_loadVar_cl (P := P) T d g 0 cs hB.cl hu hag hi
  have hp2 : a.tmps[s]?.getD undef = .pointer (some ⟨g, 0, none⟩) := by rw [← Array.getD_eq_getD_getElem?]; exact hp
  have hv2 : a.tmps[t']?.getD undef = v := by rw [← Array.getD_eq_getD_getElem?]; exact hv
  simp [results, hres, asAddr, hld, hp2, hv2]
/-- A method's value. -/
theorem exec_mkf {P : Program} {f : Operand → Value} {o : Oper} (F0 : FuncId) (x : Operand) (ho : o.op = .makeFunc (.func F0) #[x] #[]) (r : Value) (hx : f x = r) (X : World) : (execOp f o).run P X = .ok (.value (.func (.func F0) #[r] #[])) X := by
  unfold execOp
  simp only [ho, Instr.makeFunc, List.map_toArray, List.map_cons, List.map_nil, hx, Sem.run_bind, Sem.run_pure, Result.andThen_ok]
theorem exec_ldc {P : Program} {f : Operand → Value} {o : Oper} (T : TypeId) (x : Operand) (ho : o.op = .load T x) (b off : Nat) (hx : f x = .pointer (some ⟨b, off, none⟩)) {d : TypeDesc} (hu : P.underlying T = some d)
    (hag : (match d with | .struct _ | .array _ _ => true | _ => false) = true) (cs : List Value) (X : World) (hc : Cl X b off cs) (hi : (P.info? T).map (·.size) = some cs.length) : (execOp f o).run P X = .ok (.value (.agg cs.toArray)) X := by
  unfold execOp
  simp only [ho, hx, Instr.loadAt, Instr.sureAddr, Sem.run_bind, Sem.run_pure, Result.andThen_ok, run_loadVar_cl T d b off cs hc hu hag hi]
/-- A load of a struct that lies within a greater one. -/
theorem exec_inr {P : Program} {f : Operand → Value} {o : Oper} (T : TypeId) (x : Operand) (ho : o.op = .load T x) (g k : Nat) (xs : List Value) (hx : f x = .pointer (some ⟨g, k, none⟩)) {d : TypeDesc} (hu : P.underlying T = some d)
    (hag : (match d with | .struct _ | .array _ _ => true | _ => false) = true) {t : TypeId} {cs : List Value} (X : World) (hB : Blk X g t cs) (hs : (cs.drop k).take xs.length = xs) (hi : (P.info? T).map (·.size) = some xs.length) : (execOp f o).run P X = .ok (.value (.agg xs.toArray)) X := by
  have hc : Cl X g k xs := fun j u hj => by
    refine hB.cell ?_
    have hl : j < xs.length := (List.getElem?_eq_some_iff.1 hj).1
    rw [← hs, List.getElem?_take_of_lt hl, List.getElem?_drop] at hj
    exact hj
  unfold execOp
  simp only [ho, hx, Instr.loadAt, Instr.sureAddr, Sem.run_bind, Sem.run_pure, Result.andThen_ok, run_loadVar_cl T d g k xs hc hu hag hi]
theorem op_store_part {P : Program} {w : World} {ops : Array Oper} {rest : List Oper} {o : Oper} {a : Act} {Q : Exit → Act → World → Prop} (hgd : o.guard = none) (ty : TypeId) (p x : Operand) (ho : o.op = .store ty p x) (g j : Nat) (t : TypeId) (xs : List Value) (hB : Blk w g t xs)
    (hp : a.eval p = .pointer (some ⟨g, j, none⟩)) (ys : List Value) (hx : a.eval x = .agg ys.toArray) (hl : j + ys.length ≤ xs.length) (h1 : ∀ v ∈ ys, v.oneCell' = true) (hi : (P.info? ty).map (·.size) = some ys.length)
    (h : ∀ w', Blk w' g t (xs.take j ++ ys ++ xs.drop (j + ys.length)) → (∀ g' t' zs, g' ≠ g → Blk w g' t' zs → Blk w' g' t' zs) → (∀ B W, Below B W w → B ≤ g → Below B W w') → wpList P ops Q rest (a.put o.dst undef) w') :
    wpList P ops Q (o :: rest) a w := by
  refine wpList_plain hgd fun K hK => ?_
  have hst := run_storeCells_at P g j t ys 0 xs.toArray w hB (by simpa using hl) h1
  simp only [Nat.add_zero] at hst
  have hr : (storeVar ty ⟨g, j, none⟩ (.agg ys.toArray)).run P w = .ok () (w.setRow g (xs.take j ++ ys ++ xs.drop (j + ys.length)).toArray) := by
    cases hq : P.info? ty with
    | none => simp [hq] at hi
    | some i =>
      have hsz : i.size = ys.length := by simpa [hq] using hi
      simp [storeVar, Value.cells, Sem.run_bind, sizeOf, typeInfo, hq, hsz]
      simpa using hst
  have h2 := setRow_heap w g xs.toArray (xs.take j ++ ys ++ xs.drop (j + ys.length)).toArray t (0, 0) hB
  have h3 := setRow_grown w g (xs.take j ++ ys ++ xs.drop (j + ys.length)).toArray
  unfold Oper.wp execOp
  simp only [ho, hp, hx, Instr.storeAt, Instr.sureAddr, Sem.run_bind, Sem.run_pure, Result.andThen_ok, hr]
  exact hK _ _ (h _ h2 (fun g' t' zs hne hz => (grown_block h3 hz.lt hne).trans hz) (fun B W hb hg => hb.grown h3 (by have := hB.lt; omega) (fun k hk => by simp at hk; omega)))
theorem Cl.part {w : World} {b off : Nat} {cs : List Value} (h : Cl w b off cs) (d : Nat) (xs : List Value) (hs : (cs.drop d).take xs.length = xs) : Cl w b (off + d) xs := fun j u hj => by
  have hl : j < xs.length := (List.getElem?_eq_some_iff.1 hj).1
  rw [← hs, List.getElem?_take_of_lt hl, List.getElem?_drop] at hj
  rw [Nat.add_assoc]
  exact h (d + j) u hj
theorem exec_sti {f : Operand → Value} {o : Oper} (x y : Operand) (ho : o.op = .store 3 x y) (g j : Nat) {n : Int} (hx : f x = .pointer (some ⟨g, j, none⟩)) (hy : f y = .int .i64 n) (u : Value) (X : World) (hc : X.cell? ⟨g, j, none⟩ = some u) (hf : X.frozen? ⟨g, j, none⟩ = false) :
    (execOp f o).run Tryd.prog X = .ok .skip (X.setCell ⟨g, j, none⟩ (.int .i64 n)) := by
  unfold execOp
  simp only [ho, hx, hy]
  go_simp
end Go.Proofs.YthinopepcmidmaaDoor
