/-
  Words for walks over rational numbers: structs of a bool and two strings.
-/
import Derived.Test.YtcpedbpldgndmaaDoorPl05b
import Derived.Test.YtcpedbpldgndmaaDoorMH
set_option linter.unusedSimpArgs false
set_option linter.unusedVariables false
set_option maxRecDepth 100000
set_option maxHeartbeats 1600000
namespace Go.Proofs.YtcpedbpldgndmaaDoor
open Go.RowKit
theorem info_rat : (Tryd.prog.info? 38).map (·.size) = some 3 := by kernel_rfl
theorem info_fr : (Tryd.prog.info? 73).map (·.size) = some 3 := by kernel_rfl
theorem load_str (b k : Nat) (X : World) (v : Value) (h : X.cell? ⟨b, k, none⟩ = some v) : (loadVar 9 ⟨b, k, none⟩).run Tryd.prog X = .ok v X := by
 go_simp
theorem load_bool (b k : Nat) (X : World) (v : Value) (h : X.cell? ⟨b, k, none⟩ = some v) : (loadVar 4 ⟨b, k, none⟩).run Tryd.prog X = .ok v X := by
 go_simp
theorem size_alloc (w : World) (o : Obj) : (w.alloc o).heap.size = w.heap.size + 1 := by simp
/-- What a function lays before it begins: its parameters' boxes and its result's cells. -/
theorem start1 (w : World) (T1 : TypeId) (x1 : List Value) : ∃ W, W = w.alloc (.cells x1.toArray T1) ∧ Blk W w.heap.size T1 x1 ∧ Below w.heap.size w W := ⟨_, rfl, Blk.new rfl, since_alloc _ _⟩
theorem start2 (w : World) (T1 T2 : TypeId) (x1 x2 : List Value) : ∃ W, W = (w.alloc (.cells x1.toArray T1)).alloc (.cells x2.toArray T2) ∧ Blk W w.heap.size T1 x1 ∧ Blk W (w.heap.size + 1) T2 x2 ∧ Below w.heap.size w W := by
 obtain ⟨W1, e1, h1, b1⟩ := start1 w T1 x1
 have hs : W1.heap.size = w.heap.size + 1 := by rw [e1]; exact size_alloc _ _
 refine ⟨W1.alloc (.cells x2.toArray T2), by rw [e1], h1.bel (since_alloc _ _), ?_, bel_next b1 (since_alloc _ _)⟩;have h2 : Blk (W1.alloc (.cells x2.toArray T2)) W1.heap.size T2 x2 := Blk.new rfl
 rwa [hs] at h2
theorem start3 (w : World) (T1 T2 T3 : TypeId) (x1 x2 x3 : List Value) : ∃ W, W = ((w.alloc (.cells x1.toArray T1)).alloc (.cells x2.toArray T2)).alloc (.cells x3.toArray T3) ∧ Blk W w.heap.size T1 x1 ∧ Blk W (w.heap.size + 1) T2 x2 ∧ Blk W (w.heap.size + 2) T3 x3 ∧ Below w.heap.size w W := by
 obtain ⟨W1, e1, h1, h2, b1⟩ := start2 w T1 T2 x1 x2
 have hs : W1.heap.size = w.heap.size + 2 := by rw [e1, size_alloc, size_alloc]
 refine ⟨W1.alloc (.cells x3.toArray T3), by rw [e1], h1.bel (since_alloc _ _), h2.bel (since_alloc _ _), ?_, bel_next b1 (since_alloc _ _)⟩;have h3 : Blk (W1.alloc (.cells x3.toArray T3)) W1.heap.size T3 x3 := Blk.new rfl
 rwa [hs] at h3
/-- A load of a whole struct out of a block that is known. -/
theorem exec_lda {P : Program} {f : Operand → Value} {o : Oper} (T : TypeId) (x : Operand) (ho : o.op = .load T x) (g : Nat) (hx : f x = .pointer (some ⟨g, 0, none⟩)) {d : TypeDesc} (hu : P.underlying T = some d)
  (hag : (match d with | .struct _ | .array _ _ => true | _ => false) = true) {t : TypeId} {cs : List Value} (X : World) (hB : Blk X g t cs) (hi : (P.info? T).map (·.size) = some cs.length) : (execOp f o).run P X = .ok (.value (.agg cs.toArray)) X := by
 unfold execOp
 simp only [ho, hx, Instr.loadAt, Instr.sureAddr, Sem.run_bind, Sem.run_pure, Result.andThen_ok, run_loadVar_cl T d g 0 cs hB.cl hu hag hi]
/-- A number's value; a fraction's value. -/
abbrev rtv (n : Bool) (p q : List UInt8) : Value := .agg #[.bool n, .string ⟨p.toArray⟩, .string ⟨q.toArray⟩]
abbrev rbv (x : Rat) : Value := rtv (rN x) (rP x) (rD x)
abbrev fv (n : Bool) (p d : Nat) : Value := rtv n (be p) (be d)
theorem rbv_of {x : Rat} {n : Bool} {p q : List UInt8} (h : rN x = n ∧ rP x = p ∧ rD x = q) : rbv x = .agg #[.bool n, .string ⟨p.toArray⟩, .string ⟨q.toArray⟩] := by
 obtain ⟨rfl, rfl, rfl⟩ := h
 rfl
/-- A fraction that is x, with parts of at most B bytes. -/
def IsF (x : Rat) (B : Nat) (v : Value) (_ : World) : Prop := ∃ n p d, v = fv n p d ∧ 0 < d ∧ mkRat (sg n p) d = x ∧ (be p).length ≤ B ∧ (be d).length ≤ B
theorem IsF.lasts (x : Rat) (B : Nat) : Lasts (IsF x B) := fun _ _ _ h _ => h
theorem run_eq_rat (w : World) (n n' : Bool) (p q p' q' : List UInt8) : (binOp .eql 38 (rtv n p q) (rtv n' p' q')).run Tryd.prog w = .ok (.bool (n == n' && p == p' && q == q')) w := by
 have h1 : (p == p') = decide (p = p') := by rw [Bool.eq_iff_iff]; simp
 have h2 : (q == q') = decide (q = q') := by rw [Bool.eq_iff_iff]; simp
 rw [h1, h2]
 go_simp
 by_cases e1 : n = n' <;> by_cases e2 : p = p' <;> by_cases e3 : q = q' <;> simp [e1, e2, e3]
/-- A store of one cell into a block that is known. -/
theorem op_store1 {P : Program} {w : World} {ops : Array Oper} {rest : List Oper} {o : Oper} {a : Act} {Q : Exit → Act → World → Prop} (hgd : o.guard = none) (g j : Nat) (t : TypeId) (xs : List Value) (hB : Blk w g t xs) (v : Value) (hj : j < xs.length)
  (hr : ∀ (X : World) (u : Value), X.cell? ⟨g, j, none⟩ = some u → X.frozen? ⟨g, j, none⟩ = false → (execOp a.eval o).run P X = .ok .skip (X.setCell ⟨g, j, none⟩ v))
  (h : ∀ w', Blk w' g t (xs.set j v) → (∀ g' t' zs, g' ≠ g → Blk w g' t' zs → Blk w' g' t' zs) → (∀ B W, Below B W w → B ≤ g → Below B W w') → wpList P ops Q rest (a.put o.dst undef) w') : wpList P ops Q (o :: rest) a w := by
 refine wpList_plain hgd fun K hK => ?_
 unfold Oper.wp
 rw [hr w _ (hB.cell (List.getElem?_eq_getElem hj)) (hB.free j)];exact hK _ _ (h _ (hB.set j v) (fun g' t' zs hne hz => hz.other _ _ hne) (fun B W hb hg => hb.setCell hg _))
theorem exec_stb {f : Operand → Value} {o : Oper} (x y : Operand) (ho : o.op = .store 4 x y) (g j : Nat) {n : Bool} (hx : f x = .pointer (some ⟨g, j, none⟩)) (hy : f y = .bool n) (u : Value) (X : World) (hc : X.cell? ⟨g, j, none⟩ = some u) (hf : X.frozen? ⟨g, j, none⟩ = false) :
  (execOp f o).run Tryd.prog X = .ok .skip (X.setCell ⟨g, j, none⟩ (.bool n)) := by
 unfold execOp
 simp only [ho, hx, hy]
 go_simp
section
variable {P : Program} {ops : Array Oper} {R : World → World → Prop} {w0 : World} {Q : Act → World → Prop} {pre : Nat → Nat → Bool} {a : Act} {k : Nat} {o : Oper} {l : List (Nat × Oper × Spec)} {Fs : List (Nat × (World → Prop))}
/-- A call of a function's value that holds its first arguments. -/
theorem lx_makeb {S : Value → World → Prop} (hw : Region.wanted o (yielded ops a.tmps) = true) (x : Operand) (xs : List Operand) (ts : Array TypeId) (ho : o.op = .call { callee := .value x, args := xs.toArray, argTypes := ts }) (f : FuncId) (fst : List Value) (hx : a.eval x = .func (.func f) fst.toArray #[]) (args : List Value) (he : xs.map a.eval = args)
  (hf : ∀ X : World, (callFunc f (fst ++ args).toArray).run P X = .ok (.enter f (fst ++ args).toArray) X)
  (hc : ∀ X, R w0 X → (∀ p F, (p, F) ∈ Fs → pre k p = true → F X) → Calls P f (fst ++ args).toArray X fun e X' => ∃ v, e = .returned v ∧ S v X' ∧ R X X') (h : ∀ v, Cert P ops R w0 Q pre l ((k, S v) :: Fs) (a.put o.dst v)) : Cert P ops R w0 Q pre ((k, o, some S) :: l) Fs a := by
 refine ⟨?_⟩
 unfold CertR
 rw [if_pos hw];refine ⟨fun X hX hF => ?_, fun v => (h v).out⟩;have hc := hc X hX hF
 have he2 : xs.toArray.map a.eval = args.toArray := by rw [List.map_toArray, he]
 have hrun : (execOp a.eval o).run P X = .ok (.enter f (fst ++ args).toArray) X := by
  unfold execOp
  rw [ho];have hfX := hf X;simp only [resolve, Sem.run_bind, Sem.run_pure, Result.andThen_ok, hx, he2, Deferred.ofValue, invoke]
  go_simp
 unfold runsR
 rw [hrun];exact hc
end
/-- A result that lies in a cell and one in a slot. -/
theorem post_cell2 {P : Program} {fn : Func} {R : Ending → World → Prop} {a : Act} {w : World} {s g t' : Nat} {T t : TypeId} {cs : List Value} {d : TypeDesc} {v : Value} (hres : fn.results = #[.cell s T, .tmp t']) (hd : a.defers = []) (hp : a.tmps.getD s undef = .pointer (some ⟨g, 0, none⟩)) (hv : a.tmps.getD t' undef = v) (hu : P.underlying T = some d)
  (hag : (match d with | .struct _ | .array _ _ => true | _ => false) = true) (hB : Blk w g t cs) (hi : (P.info? T).map (·.size) = some cs.length) (hR : R (.returned (.tuple #[.agg cs.toArray, v])) w) : bodyPost P fn R .ret a w := by
 refine bodyPost_ret (v := .tuple #[.agg cs.toArray, v]) ?_ hd hR;have hld := run_loadVar_cl (P := P) T d g 0 cs hB.cl hu hag hi
 have hp2 : a.tmps[s]?.getD undef = .pointer (some ⟨g, 0, none⟩) := by rw [← Array.getD_eq_getD_getElem?]; exact hp
 have hv2 : a.tmps[t']?.getD undef = v := by rw [← Array.getD_eq_getD_getElem?]; exact hv
 simp [results, hres, asAddr, hld, hp2, hv2]
theorem exec_alloc_fr {f : Operand → Value} {o : Oper} (ho : o.op = .alloc 73) (X : World) :
  (execOp f o).run Tryd.prog X = .ok (.value (.pointer (some ⟨X.heap.size, 0, none⟩))) (X.alloc (.cells #[.bool false, .string ⟨#[]⟩, .string ⟨#[]⟩] 73)) := by
 unfold execOp
 simp only [ho]
 go_simp
/-- A new variable of three cells. -/
def NewB (T : TypeId) (B : Nat) (v : Value) (X : World) : Prop := ∃ g, v = .pointer (some ⟨g, 0, none⟩) ∧ B ≤ g ∧ Blk X g T [.bool false, .string ⟨#[]⟩, .string ⟨#[]⟩]
theorem NewB.lasts (T : TypeId) (B : Nat) : Lasts (NewB T B) := by
 rintro v X Y ⟨g, h1, h2, h3⟩ hS
 exact ⟨g, h1, h2, h3.bel hS⟩
/-- A method's value. -/
theorem exec_mkf {P : Program} {f : Operand → Value} {o : Oper} (F0 : FuncId) (x : Operand) (ho : o.op = .makeFunc (.func F0) #[x] #[]) (r : Value) (hx : f x = r) (X : World) : (execOp f o).run P X = .ok (.value (.func (.func F0) #[r] #[])) X := by
 unfold execOp
 simp only [ho, Instr.makeFunc, List.map_toArray, List.map_cons, List.map_nil, hx, Sem.run_bind, Sem.run_pure, Result.andThen_ok]
theorem fv_one (b : Bool) (p : Nat) : fv b p 1 = .agg #[.bool b, .string ⟨(be p).toArray⟩, .string ⟨([1] : List UInt8).toArray⟩] := by
 show Value.agg #[.bool b, .string ⟨(be p).toArray⟩, .string ⟨(be 1).toArray⟩] = _
 rw [be_one]
end Go.Proofs.YtcpedbpldgndmaaDoor
