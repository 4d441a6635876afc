/-
  More words for walks: comparisons of strings that are decided, calls of values that are functions.
-/
import Derived.Test.YtglnabciomlmmaaDoorLxn
namespace Go.Proofs.YtglnabciomlmmaaDoor
open Go.RowKit

section
variable {P : Program} {f : Operand → Value} {o : Oper}
theorem exec_eqsB (t t' : TypeId) (x y : Operand) (ho : o.op = .binOp .eql t x y t') (l m : List UInt8) (hx : f x = .string ⟨l.toArray⟩) (hy : f y = .string ⟨m.toArray⟩) (b : Bool) (hb : (l == m) = b) (w : World) : (execOp f o).run P w = .ok (.value (.bool b)) w := by
  rw [← hb]
  exact exec_eqs t t' x y ho l m hx hy w
theorem exec_nesB (t t' : TypeId) (x y : Operand) (ho : o.op = .binOp .neq t x y t') (l m : List UInt8) (hx : f x = .string ⟨l.toArray⟩) (hy : f y = .string ⟨m.toArray⟩) (b : Bool) (hb : (l != m) = b) (w : World) : (execOp f o).run P w = .ok (.value (.bool b)) w := by
  rw [← hb]
  exact exec_nes t t' x y ho l m hx hy w
end
theorem eqs_t {l m : List UInt8} (h : l = m) : (l == m) = true := by rw [h]; exact beq_self_eq_true m
theorem eqs_f {l m : List UInt8} (h : l ≠ m) : (l == m) = false := beq_eq_false_iff_ne.2 h
theorem nes_t {l m : List UInt8} (h : l ≠ m) : (l != m) = true := by
  show (!(l == m)) = true
  rw [eqs_f h]
  rfl
theorem nes_f {l m : List UInt8} (h : l = m) : (l != m) = false := by
  show (!(l == m)) = false
  rw [eqs_t h]
  rfl
section
variable {P : Program} {ops : Array Oper} {R : World → World → Prop} {w0 : World} {Q : Act → World → Prop} {pre : Nat → Nat → Bool} {a : Act} {k : Nat} {o : Oper} {l : List (Nat × Oper × Spec)} {Fs : List (Nat × (World → Prop))}
/-- A call of a function's value. -/
theorem lx_makef {S : Value → World → Prop} (hw : Region.wanted o (yielded ops a.tmps) = true) (x : Operand) (xs : List Operand) (ts : Array TypeId) (ho : o.op = .call { callee := .value x, args := xs.toArray, argTypes := ts }) (f : FuncId) (caps : List Value) (hx : a.eval x = .func (.func f) #[] caps.toArray) (args : List Value) (he : xs.map a.eval = args)
    (hf : ∀ X : World, (callFunc f (args ++ caps).toArray).run P X = .ok (.enter f (args ++ caps).toArray) X)
    (hc : ∀ X, R w0 X → (∀ p F, (p, F) ∈ Fs → pre k p = true → F X) → Calls P f (args ++ caps).toArray X fun e X' => ∃ v, e = .returned v ∧ S v X' ∧ R X X') (h : ∀ v, Cert P ops R w0 Q pre l ((k, S v) :: Fs) (a.put o.dst v)) : Cert P ops R w0 Q pre ((k, o, some S) :: l) Fs a := by
  refine ⟨?_⟩
  unfold CertR
  rw [if_pos hw]
  refine ⟨fun X hX hF => ?_, fun v => (h v).out⟩
  have hc := hc X hX hF
  have he2 : xs.toArray.map a.eval = args.toArray := by rw [List.map_toArray, he]
  have hrun : (execOp a.eval o).run P X = .ok (.enter f (args ++ caps).toArray) X := by
    unfold execOp
    rw [ho]
    have hfX := hf X
    simp only [resolve, Sem.run_bind, Sem.run_pure, Result.andThen_ok, hx, he2, Deferred.ofValue, invoke]
    go_simp
  unfold runsR
  rw [hrun]
  exact hc
theorem lx_callf (hw : Region.wanted o (yielded ops a.tmps) = true) (x : Operand) (xs : List Operand) (ts : Array TypeId) (ho : o.op = .call { callee := .value x, args := xs.toArray, argTypes := ts }) (f : FuncId) (caps : List Value) (hx : a.eval x = .func (.func f) #[] caps.toArray) (v : Value) (args : List Value) (he : xs.map a.eval = args)
    (hi : P.inits.idxOf? f = none) (hf : ∀ X : World, (callFunc f (args ++ caps).toArray).run P X = .ok (.enter f (args ++ caps).toArray) X)
    (hc : ∀ X, R w0 X → (∀ p F, (p, F) ∈ Fs → pre k p = true → F X) → Calls P f (args ++ caps).toArray X fun e X' => e = .returned v ∧ R X X') (h : Cert P ops R w0 Q pre l Fs (a.put o.dst v)) : Cert P ops R w0 Q pre ((k, o, none) :: l) Fs a := by
  refine ⟨?_⟩
  unfold CertR
  rw [if_pos hw]
  refine ⟨v, fun X hX hF => ?_, h.out⟩
  have hc := hc X hX hF
  have he2 : xs.toArray.map a.eval = args.toArray := by rw [List.map_toArray, he]
  have hrun : (execOp a.eval o).run P X = .ok (.enter f (args ++ caps).toArray) X := by
    unfold execOp
    rw [ho]
    have hfX := hf X
    simp only [resolve, Sem.run_bind, Sem.run_pure, Result.andThen_ok, hx, he2, Deferred.ofValue, invoke]
    go_simp
  unfold quietR
  rw [hrun]
  exact ⟨rfl, hi, hc⟩
/-- A guarded operation that does not come up, by the guard's slot. -/
theorem lx_skipg {s : Spec} {j d : Nat} {b : Bool} (hg : o.guard = some (j, b)) (hd : (ops[j]?).bind (·.dst) = some d) (ht : a.eval (.tmp d) = .bool (!b)) (h : Cert P ops R w0 Q pre l Fs (a.put o.dst undef)) : Cert P ops R w0 Q pre ((k, o, s) :: l) Fs a := by
  refine lx_skip ?_ h
  unfold Region.wanted
  rw [hg]
  have h1 : a.tmps[d]? = some (.bool (!b)) := by
    have h2 : a.tmps.getD d undef = .bool (!b) := ht
    rw [Array.getD_eq_getD_getElem?] at h2
    cases h3 : a.tmps[d]? with
    | none =>
      rw [h3] at h2
      cases h2
    | some v =>
      rw [h3] at h2
      exact congrArg some h2
  have h4 : yielded ops a.tmps j = some (!b) := by
    unfold yielded
    rw [hd]
    show (match a.tmps[d]? with | some (.bool b) => some b | _ => none) = _
    rw [h1]
  show (yielded ops a.tmps j == some b) = false
  rw [h4]
  cases b <;> rfl
end
section
variable {P : Program} {f : Operand → Value} {o : Oper}
theorem exec_lssB (t t' : TypeId) (x y : Operand) (ho : o.op = .binOp .lss t x y t') (l m : List UInt8) (hx : f x = .string ⟨l.toArray⟩) (hy : f y = .string ⟨m.toArray⟩) (b : Bool) (hb : Op.bytesLess l m = b) (w : World) : (execOp f o).run P w = .ok (.value (.bool b)) w := by
  refine exec_bin ho hx hy (by rfl) ?_
  have e : binOp .lss t (.string ⟨l.toArray⟩) (.string ⟨m.toArray⟩) = Op.stringOp .lss ⟨l.toArray⟩ ⟨m.toArray⟩ := by simp [binOp]
  rw [e]
  have h1 : (⟨l.toArray⟩ : ByteArray).toList = l := by simp
  have h2 : (⟨m.toArray⟩ : ByteArray).toList = m := by simp
  show Result.ok (Value.bool (Op.bytesLess (⟨l.toArray⟩ : ByteArray).toList (⟨m.toArray⟩ : ByteArray).toList)) w = _
  rw [h1, h2, hb]
theorem mk_from (l : List UInt8) (p : Nat) : (⟨l.toArray⟩ : ByteArray).extract p l.length = ⟨(l.drop p).toArray⟩ := by
  apply ByteArray.ext
  rw [ByteArray.data_extract]
  simp [List.extract_eq_take_drop]
  exact List.take_of_length_le (by rw [List.length_drop]; exact Nat.le_refl _)
/-- 's[k:]'. -/
theorem exec_from (t : TypeId) (hu : P.underlying t = some .string) (x lo : Operand) (ho : o.op = .slice t x (some lo) none none) (l : List UInt8) (k : Nat) (hx : f x = .string ⟨l.toArray⟩) {z : Int} (hlo : f lo = .int .i64 z) (hz : z = (k : Int)) (hk : k ≤ l.length) (w : World) :
    (execOp f o).run P w = .ok (.value (.string ⟨(l.drop k).toArray⟩)) w := by
  have h := mk_from l k
  have h2 : (⟨l.toArray⟩ : ByteArray).size = l.length := by simp [ByteArray.size]
  subst hz
  unfold execOp
  simp only [ho, hx, hlo, Option.map]
  go_simp
end
/-- A result that lies in a cell. -/
theorem post_cell {P : Program} {fn : Func} {R : Ending → World → Prop} {a : Act} {w : World} {s g : Nat} {T t : TypeId} {cs : List Value} {d : TypeDesc} (hres : fn.results = #[.cell s T]) (hd : a.defers = []) (hp : a.tmps.getD s undef = .pointer (some ⟨g, 0, none⟩)) (hu : P.underlying T = some d)
    (hag : (match d with | .struct _ | .array _ _ => true | _ => false) = true) (hB : Blk w g t cs) (hi : (P.info? T).map (·.size) = some cs.length) (hR : R (.returned (.agg cs.toArray)) w) : bodyPost P fn R .ret a w := by
  refine bodyPost_ret (v := .agg cs.toArray) ?_ hd hR
  have hld := run_loadVar_cl (P := P) T d g 0 cs hB.cl hu hag hi
  have hp2 : a.tmps[s]?.getD undef = .pointer (some ⟨g, 0, none⟩) := by rw [← Array.getD_eq_getD_getElem?]; exact hp
  simp [results, hres, asAddr, hld, hp2]
end Go.Proofs.YtglnabciomlmmaaDoor
