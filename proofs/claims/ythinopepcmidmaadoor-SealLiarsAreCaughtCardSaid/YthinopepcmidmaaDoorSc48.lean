/-
  Layer 48: words for statements.
-/
import Derived.Test.YthinopepcmidmaaDoorSb48
import Derived.Test.YthinopepcmidmaaDoorMB
import Derived.Test.YthinopepcmidmaaDoorLb
import Derived.Test.YthinopepcmidmaaDoorPl48b
set_option linter.unusedSimpArgs false
set_option linter.unusedVariables false
set_option maxRecDepth 100000
set_option maxHeartbeats 1600000
namespace Go.Proofs.YthinopepcmidmaaDoor
open Go.RowKit
theorem SlOk.len {s : Sl} (h : SlOk s) : (slc s).length = 37 := by
  unfold slc
  simp only [List.length_append, List.length_cons, List.length_nil, List.length_map, h.pv, h.sl]
theorem info_slc {s : Sl} (h : SlOk s) : (Tryd.prog.info? 28).map (·.size) = some (slc s).length := by rw [h.len]; exact info_sl
theorem info_d16 {l : List UInt8} (h : l.length = 16) : (Tryd.prog.info? 26).map (·.size) = some (l.map B8).length := by rw [List.length_map, h]; exact info_dg
theorem slc_pv {s : Sl} (h : SlOk s) : ((slc s).drop 5).take (s.pv.map B8).length = s.pv.map B8 := by
  show (s.pv.map B8 ++ s.sl.map B8).take (s.pv.map B8).length = s.pv.map B8
  exact List.take_left
theorem slc_sl {s : Sl} (h : SlOk s) : ((slc s).drop 21).take (s.sl.map B8).length = s.sl.map B8 := by
  have e : (slc s).drop 21 = s.sl.map B8 := by
    show (s.pv.map B8 ++ s.sl.map B8).drop 16 = s.sl.map B8
    exact List.drop_left' (by rw [List.length_map, h.pv])
  rw [e, List.take_of_length_le (Nat.le_refl _)]
theorem slc_one {s : Sl} : ∀ v ∈ slc s, v.oneCell' = true := by
  intro v hv
  unfold slc at hv
  simp only [List.mem_append, List.mem_cons, List.not_mem_nil, or_false, List.mem_map] at hv
  rcases hv with rfl | rfl | rfl | rfl | rfl | ⟨x, _, rfl⟩ | ⟨x, _, rfl⟩ <;> rfl
/-- '==' of two statements. -/
theorem eqm_sl : Tryd.prog.eqGuardType Tryd.prog.depth 28 = false := by kernel_rfl
theorem eqm_dg : Tryd.prog.eqGuardType Tryd.prog.depth 26 = false := by kernel_rfl
theorem part_cell {t : TypeId} {xs : Array Value} {off : Nat} {v : Value} (w : World) (ha : (isAgg t).run Tryd.prog w = .ok false w) (hx : xs[off]? = some v) : (part t xs off).run Tryd.prog w = .ok v w := by
  unfold part
  rw [Sem.run_bind, ha]
  simp only [Result.andThen_ok, Bool.false_eq_true, if_false, hx, Sem.run_pure]
theorem part_dg {xs : List Value} {off : Nat} {ys : List Value} (w : World) (hx : (xs.drop off).take 16 = ys) : (part 26 xs.toArray off).run Tryd.prog w = .ok (.agg ys.toArray) w := by
  have ha : (isAgg 26).run Tryd.prog w = .ok true w := by go_simp
  have hs : (sizeOf 26).run Tryd.prog w = .ok 16 w := by go_simp
  unfold part
  rw [Sem.run_bind, ha]
  simp only [Result.andThen_ok, if_true, Sem.run_bind, hs, Sem.run_pure]
  congr 2
  subst hx
  simp
  done
theorem eqF {d : Nat} {xs ys : Array Value} {f : Field} {fs : List Field} {w : World} {u v : Value} {r : Bool} (h : f.name ≠ "_") (hu : (part f.type xs f.offset).run Tryd.prog w = .ok u w) (hv : (part f.type ys f.offset).run Tryd.prog w = .ok v w) (hr : (Op.equalIn d f.type u v).run Tryd.prog w = .ok r w) {b : Bool} (hb : (Op.eqFields d xs ys fs).run Tryd.prog w = .ok b w) : (Op.eqFields d xs ys (f :: fs)).run Tryd.prog w = .ok (r && b) w := by
  unfold Op.eqFields
  rw [if_pos h]
  simp only [Sem.run_bind, hu, hv, hr, Result.andThen_ok]
  cases r
  · simp only [Bool.not_false, if_true, Sem.run_pure, Bool.false_and]
  · simp only [Bool.not_true, Bool.false_eq_true, if_false, hb, Bool.true_and]
theorem eqF_nil {d : Nat} {xs ys : Array Value} {w : World} : (Op.eqFields d xs ys []).run Tryd.prog w = .ok true w := rfl
theorem eq_sl_d (d : Nat) (w : World) (a b : Sl) (ha : SlOk a) (hb : SlOk b) : (Op.equalIn (d + 3) 28 (.agg (slc a).toArray) (.agg (slc b).toArray)).run Tryd.prog w = .ok (decide (a = b)) w := by
  have hi : ∀ (x : Value) (k : Nat) (xs : Array Value), xs[k]? = some x → (part 3 xs k).run Tryd.prog w = .ok x w := fun x k xs h => part_cell w (by go_simp) h
  have hs : ∀ (x : Value) (k : Nat) (xs : Array Value), xs[k]? = some x → (part 9 xs k).run Tryd.prog w = .ok x w := fun x k xs h => part_cell w (by go_simp) h
  have hi0 : ∀ s : Sl, (part 3 (slc s).toArray 0).run Tryd.prog w = .ok (.int .i64 s.st) w := fun s => hi _ _ _ rfl
  have hi1 : ∀ s : Sl, (part 3 (slc s).toArray 1).run Tryd.prog w = .ok (.int .i64 s.sq) w := fun s => hi _ _ _ rfl
  have hi2 : ∀ s : Sl, (part 3 (slc s).toArray 2).run Tryd.prog w = .ok (.int .i64 s.dy) w := fun s => hi _ _ _ rfl
  have hi3 : ∀ s : Sl, (part 3 (slc s).toArray 3).run Tryd.prog w = .ok (.int .i64 s.kd) w := fun s => hi _ _ _ rfl
  have hs4 : ∀ s : Sl, (part 9 (slc s).toArray 4).run Tryd.prog w = .ok (.string ⟨s.bd.toArray⟩) w := fun s => hs _ _ _ rfl
  have hp : ∀ s : Sl, SlOk s → (part 26 (slc s).toArray 5).run Tryd.prog w = .ok (.agg (s.pv.map B8).toArray) w := fun s h => part_dg w (by have := slc_pv h; rwa [List.length_map, h.pv] at this)
  have hq : ∀ s : Sl, SlOk s → (part 26 (slc s).toArray 21).run Tryd.prog w = .ok (.agg (s.sl.map B8).toArray) w := fun s h => part_dg w (by have := slc_sl h; rwa [List.length_map, h.sl] at this)
  have hd : ∀ x y : List UInt8, x.length = 16 → y.length = 16 → (Op.equalIn (d + 2) 26 (.agg (x.map B8).toArray) (.agg (y.map B8).toArray)).run Tryd.prog w = .ok (x == y) w := fun x y hx hy =>
    run_equalIn_bytes (P := Tryd.prog) w d 26 5 16 Tryd.underlying26 Tryd.underlying5 (fun W => by go_simp) x y hx hy
  have hei : ∀ x y : Int, (Op.equalIn (d + 2) 3 (.int .i64 x) (.int .i64 y)).run Tryd.prog w = .ok (x == y) w := fun x y => run_equalIn_int w (d + 1) _ _ _ _ _ Tryd.underlying3
  have hes : ∀ x y : List UInt8, (Op.equalIn (d + 2) 9 (.string ⟨x.toArray⟩) (.string ⟨y.toArray⟩)).run Tryd.prog w = .ok (x == y) w := fun x y => by
    rw [run_equalIn_string w (d + 1) _ _ _ Tryd.underlying9]
    simp [ByteArray.toList_eq]
  have hU : Tryd.prog.underlying 28 = some (.struct (Tryd.prog.fieldsOf 28)) := by kernel_rfl
  rw [run_equalIn_struct w (d + 2) _ _ _ hU Tryd.stoodInHeld28]
  clear hU
  simp only [Program.fieldsOf, Tryd.underlying28]
  rw [show decide (a = b) = ((a.st == b.st) && ((a.sq == b.sq) && ((a.dy == b.dy) && ((a.kd == b.kd) && ((a.bd == b.bd) && ((a.pv == b.pv) && ((a.sl == b.sl) && true))))))) from by
    rw [Bool.eq_iff_iff, decide_eq_true_eq, ← Sl.eq_iff]
    simp only [Bool.and_eq_true, beq_iff_eq, and_true]]
  exact eqF (by decide) (hi0 a) (hi0 b) (hei _ _) (eqF (by decide) (hi1 a) (hi1 b) (hei _ _) (eqF (by decide) (hi2 a) (hi2 b) (hei _ _) (eqF (by decide) (hi3 a) (hi3 b) (hei _ _) (eqF (by decide) (hs4 a) (hs4 b) (hes _ _) (eqF (by decide) (hp a ha) (hp b hb) (hd _ _ ha.pv hb.pv) (eqF (by decide) (hq a ha) (hq b hb) (hd _ _ ha.sl hb.sl) eqF_nil))))))
theorem run_eq_sl (w : World) (a b : Sl) (ha : SlOk a) (hb : SlOk b) : (binOp .eql 28 (.agg (slc a).toArray) (.agg (slc b).toArray)).run Tryd.prog w = .ok (.bool (decide (a = b))) w := by
  have h := eq_sl_d 9997 w a b ha hb
  have e1 : (Op.equalIn 10000 28 (.agg (slc a).toArray) (.agg (slc b).toArray)).run Tryd.prog w = .ok (decide (a = b)) w := h
  rw [run_eql_struct, e1]
  rfl
section
variable {f : Operand → Value} {o : Oper}
theorem exec_eqsl (x y : Operand) (t' : TypeId) (ho : o.op = .binOp .eql 28 x y t') (a b : Sl) (ha : SlOk a) (hb : SlOk b) (hx : f x = .agg (slc a).toArray) (hy : f y = .agg (slc b).toArray) (r : Bool) (hr : decide (a = b) = r) (X : World) : (execOp f o).run Tryd.prog X = .ok (.value (.bool r)) X :=
  exec_cmp_agg .eql 28 t' x y ho _ _ hx hy eqm_sl _ X ((run_eq_sl X a b ha hb).trans (by rw [hr]))
theorem exec_eqdg (x y : Operand) (t' : TypeId) (ho : o.op = .binOp .eql 26 x y t') (l m : List UInt8) (hl : l.length = 16) (hm : m.length = 16) (hx : f x = .agg (l.map B8).toArray) (hy : f y = .agg (m.map B8).toArray) (r : Bool) (hr : (l == m) = r) (X : World) : (execOp f o).run Tryd.prog X = .ok (.value (.bool r)) X :=
  exec_cmp_agg .eql 26 t' x y ho _ _ hx hy eqm_dg _ X ((run_eql_arr X 26 5 16 Tryd.underlying26 Tryd.underlying5 size_u8 l m hl hm).trans (by rw [hr]))
theorem exec_nedg (x y : Operand) (t' : TypeId) (ho : o.op = .binOp .neq 26 x y t') (l m : List UInt8) (hl : l.length = 16) (hm : m.length = 16) (hx : f x = .agg (l.map B8).toArray) (hy : f y = .agg (m.map B8).toArray) (r : Bool) (hr : (l != m) = r) (X : World) : (execOp f o).run Tryd.prog X = .ok (.value (.bool r)) X :=
  exec_cmp_agg .neq 26 t' x y ho _ _ hx hy eqm_dg _ X ((run_neq_arr X 26 5 16 Tryd.underlying26 Tryd.underlying5 size_u8 l m hl hm).trans (by rw [hr]))
/-- A digest within a block, as a slice. -/
theorem exec_sld (x : Operand) (ho : o.op = .slice 26 x none none none) (g k : Nat) (hx : f x = .pointer (some ⟨g, k, none⟩)) (X : World) : (execOp f o).run Tryd.prog X = .ok (.value (.slice (some ⟨g, k, none⟩) 16 16)) X := by
  unfold execOp
  simp only [ho, hx]
  go_simp
  done
/-- The numbers, the strings that a call lays down itself. -/
def Ins (l : List Int) (v : Value) (X : World) : Prop := ∃ A c, v = .slice A l.length c ∧ Rd X 1 (.slice A l.length c) l.length (l.map (Value.int .i64))
theorem Ins.lasts (l : List Int) : Lasts (Ins l) := by
  rintro v X Y ⟨A, c, hv, hr⟩ hS
  exact ⟨A, c, hv, hr.below hS⟩
def Sts (l : List (List UInt8)) (v : Value) (X : World) : Prop := ∃ A c, v = .slice A l.length c ∧ Rd X 1 (.slice A l.length c) l.length (l.map tx)
theorem Sts.lasts (l : List (List UInt8)) : Lasts (Sts l) := by
  rintro v X Y ⟨A, c, hv, hr⟩ hS
  exact ⟨A, c, hv, hr.below hS⟩
theorem rd_new {X : World} {t : TypeId} {xs : List Value} (hm : xs.length ≤ maxLen) : Rd (X.alloc (.cells xs.toArray t)) 1 (.slice (some ⟨X.heap.size, 0, none⟩) xs.length xs.length) xs.length xs := Rd.newM rfl (by omega) hm rfl
theorem exec_bsI5 (x0 x1 x2 x3 x4 : Operand) (ho : o.op = .buildSlice 96 5 #[(0, x0), (1, x1), (2, x2), (3, x3), (4, x4)]) (a b c d e : Int) (h0 : f x0 = .int .i64 a) (h1 : f x1 = .int .i64 b) (h2 : f x2 = .int .i64 c) (h3 : f x3 = .int .i64 d) (h4 : f x4 = .int .i64 e) (X : World) :
    ∃ v X', (execOp f o).run Tryd.prog X = .ok (.value v) X' ∧ Ins [a, b, c, d, e] v X' ∧ Since X X' := by
  refine ⟨.slice (some ⟨X.heap.size, 0, none⟩) 5 5, X.alloc (.cells ([a, b, c, d, e].map (Value.int .i64)).toArray 3), ?_, ⟨_, _, rfl, rd_new (xs := [a, b, c, d, e].map (Value.int .i64)) (by show 5 ≤ maxLen; decide)⟩, since_alloc X _⟩
  unfold execOp
  simp only [ho]
  go_simp
theorem exec_bsS2 (x y : Operand) (ho : o.op = .buildSlice 22 2 #[(0, x), (1, y)]) (a b : List UInt8) (hx : f x = .string ⟨a.toArray⟩) (hy : f y = .string ⟨b.toArray⟩) (X : World) :
    ∃ v X', (execOp f o).run Tryd.prog X = .ok (.value v) X' ∧ Sts [a, b] v X' ∧ Since X X' := by
  refine ⟨.slice (some ⟨X.heap.size, 0, none⟩) 2 2, X.alloc (.cells ([a, b].map tx).toArray 9), ?_, ⟨_, _, rfl, rd_new (xs := [a, b].map tx) (by show 2 ≤ maxLen; decide)⟩, since_alloc X _⟩
  unfold execOp
  simp only [ho]
  go_simp
  rfl
theorem exec_bsS1 (x : Operand) (ho : o.op = .buildSlice 22 1 #[(0, x)]) (a : List UInt8) (hx : f x = .string ⟨a.toArray⟩) (X : World) :
    ∃ v X', (execOp f o).run Tryd.prog X = .ok (.value v) X' ∧ Sts [a] v X' ∧ Since X X' := by
  refine ⟨.slice (some ⟨X.heap.size, 0, none⟩) 1 1, X.alloc (.cells ([a].map tx).toArray 9), ?_, ⟨_, _, rfl, rd_new (xs := [a].map tx) (by show 1 ≤ maxLen; decide)⟩, since_alloc X _⟩
  unfold execOp
  simp only [ho]
  go_simp
  rfl
end
section
variable {P : Program} {ops : Array Oper} {R : World → World → Prop} {w0 : World} {Q : Act → World → Prop} {pre : Nat → Nat → Bool} {a : Act} {k : Nat} {o : Oper} {l : List (Nat × Oper × Spec)} {Fs : List (Nat × (World → Prop))}
/-- A call of a method's value. -/
theorem lx_callm (hw : Region.wanted o (yielded ops a.tmps) = true) (x : Operand) (xs : List Operand) (ts : Array TypeId) (ho : o.op = .call { callee := .value x, args := xs.toArray, argTypes := ts }) (f : FuncId) (fst : List Value) (hx : a.eval x = .func (.func f) fst.toArray #[]) (v : Value) (args : List Value) (he : xs.map a.eval = args)
    (hi : P.inits.idxOf? f = none) (hf : ∀ X : World, (callFunc f (fst ++ args).toArray).run P X = .ok (.enter f (fst ++ args).toArray) X)
    (hc : ∀ X, R w0 X → (∀ p F, (p, F) ∈ Fs → pre k p = true → F X) → Calls P f (fst ++ args).toArray X fun e X' => e = .returned v ∧ R X X') (h : Cert P ops R w0 Q pre l Fs (a.put o.dst v)) : Cert P ops R w0 Q pre ((k, o, none) :: l) Fs a := by
  refine ⟨?_⟩
  unfold CertR
  rw [if_pos hw]
  refine ⟨v, fun X hX hF => ?_, h.out⟩
  have hc := hc X hX hF
  have he2 : xs.toArray.map a.eval = args.toArray := by rw [List.map_toArray, he]
  have hrun : (execOp a.eval o).run P X = .ok (.enter f (fst ++ args).toArray) X := by
    unfold execOp
    rw [ho]
    have hfX := hf X
    simp only [resolve, Sem.run_bind, Sem.run_pure, Result.andThen_ok, hx, he2, Deferred.ofValue, invoke]
    go_simp
  unfold quietR
  rw [hrun]
  exact ⟨rfl, hi, hc⟩
end
/-- The parts of a statement, its seal, its name. -/
def pts (s : Sl) : List (List UInt8) := [encI 236, encI s.st, encI s.sq, encI s.dy, encI s.kd, s.bd, s.pv]
def mk48 (k : List UInt8) (s : Sl) : List UInt8 := (hmac k (msg (pts s))).take 16
def nm48 (s : Sl) : List UInt8 := (sha (inp 236 (pts s ++ [s.sl]))).take 16
theorem mk_put (k : List UInt8) (s : Sl) (x : List UInt8) : mk48 k (s.put x) = mk48 k s := rfl
end Go.Proofs.YthinopepcmidmaaDoor
