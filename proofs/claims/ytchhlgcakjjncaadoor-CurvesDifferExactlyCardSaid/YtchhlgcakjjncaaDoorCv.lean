/-
  law 13: words; contracts over curves as values.
-/
import Derived.Test.YtchhlgcakjjncaaDoorCdf
import Derived.Test.YtchhlgcakjjncaaDoorPl13f
import Derived.Test.YtchhlgcakjjncaaDoorCsm
import Derived.Test.YtchhlgcakjjncaaDoorCqt
import Derived.Test.YtchhlgcakjjncaaDoorCfe
import Derived.Test.YtchhlgcakjjncaaDoorLk
set_option linter.unusedSimpArgs false
set_option linter.unusedVariables false
set_option maxRecDepth 100000
set_option maxHeartbeats 1600000
namespace Go.Proofs.YtchhlgcakjjncaaDoor
open Go.RowKit
theorem info_int1 : (Tryd.prog.info? 3).map (·.size) = some 1 := by kernel_rfl
/-- A slice that lies whole in a block of its own. -/
def Bsl (T : TypeId) (cs : List Value) (n : Nat) (v : Value) (X : World) : Prop := ∃ g, v = .slice (some ⟨g, 0, none⟩) n n ∧ Blk X g T cs
theorem Bsl.lasts (T : TypeId) (cs : List Value) (n : Nat) : Lasts (Bsl T cs n) := fun _ _ _ ⟨g, h1, h2⟩ hS => ⟨g, h1, h2.bel hS⟩
theorem Bsl.mk {P : Program} {f : Operand → Value} {o : Oper} (T : TypeId) (cs : List Value) (n : Nat) {X : World} (hr : (execOp f o).run P X = .ok (.value (.slice (some ⟨X.heap.size, 0, none⟩) n n)) (X.alloc (.cells cs.toArray T))) : ∃ v X', (execOp f o).run P X = .ok (.value v) X' ∧ Bsl T cs n v X' ∧ Since X X' :=
  ⟨_, _, hr, ⟨_, rfl, Blk.new rfl⟩, since_alloc X _⟩
theorem Blk.rdP {X : World} {g : Nat} {T : TypeId} {l : List Pt} (h : Blk X g T (fl ptc l)) (n : Nat) (hn : l.length = n) (hm : n ≤ maxLen) : Rd X 4 (.slice (some ⟨g, 0, none⟩) n n) n (fl ptc l) :=
  ⟨by rw [fl_len (fun x _ => ptc_len x), hn], _, _, rfl, Nat.le_refl _, hm, (fun h => by cases h), fun _ => ⟨g, 0, rfl, h.lt, fun j u hj => by rw [Nat.zero_add]; exact h.cell hj⟩⟩
theorem run_eq_pt (w : World) (x y : Pt) : (binOp .eql 54 (.agg (ptc x).toArray) (.agg (ptc y).toArray)).run Tryd.prog w = .ok (.bool (decide (x = y))) w := by
  obtain ⟨s, n, p, q⟩ := x
  obtain ⟨s', n', p', q'⟩ := y
  unfold ptc
  go_simp
  by_cases e0 : s = s' <;> by_cases e1 : n = n' <;> by_cases e2 : p = p' <;> by_cases e3 : q = q' <;> simp [e0, e1, e2, e3]
theorem exec_eqp {f : Operand → Value} {o : Oper} (a b : Operand) (ho : o.op = .binOp .eql 54 a b 54) (x y : Pt) (hx : f a = .agg (ptc x).toArray) (hy : f b = .agg (ptc y).toArray) (c : Bool) (hc : decide (x = y) = c) (X : World) : (execOp f o).run Tryd.prog X = .ok (.value (.bool c)) X :=
  exec_cmp_agg .eql _ _ a b ho _ _ hx hy eqm_pt _ X ((run_eq_pt X x y).trans (by rw [hc]))
theorem shL_len (l : List Pt) (d : Int) : (shL l d).length ≤ l.length := by
  unfold shL
  split
  · rw [List.length_map]; exact Nat.le_refl _
  · exact Nat.zero_le _
theorem scL_len (l : List Pt) (t : Tr) : (scL l t).length ≤ l.length := by
  unfold scL
  split
  · rw [List.length_map]; exact Nat.le_refl _
  · exact Nat.zero_le _
/-- A curve as a value. -/
def Cvl (l : List Pt) (v : Value) (X : World) : Prop := ∃ A n c, v = .agg #[.slice A n c] ∧ Rd X 4 (.slice A n c) n (fl ptc l) ∧ l.length = n ∧ n ≤ 9223372036854775807
theorem Cvl.lasts (l : List Pt) : Lasts (Cvl l) := fun _ _ _ ⟨A, n, c, h1, h2, h3⟩ hS => ⟨A, n, c, h1, h2.below hS, h3⟩
theorem Bsl.cvl {l : List Pt} {n : Nat} {v : Value} {X : World} (h : Bsl 54 (fl ptc l) n v X) (hn : l.length = n) (hm : n ≤ 9223372036854775807) : Cvl l (.agg #[v]) X := by
  obtain ⟨g, rfl, hB⟩ := h
  exact ⟨_, _, _, rfl, Blk.rdP hB n hn (by unfold maxLen; omega), hn, hm⟩
/-- A curve and an error. -/
def Shv (E : Int) (l : List Pt) (v : Value) (X : World) : Prop := ∃ A n c, v = .tuple #[.agg #[.slice A n c], .int .i64 E] ∧ Rd X 4 (.slice A n c) n (fl ptc l) ∧ l.length = n ∧ n ≤ 9223372036854775807
theorem Shv.lasts (E : Int) (l : List Pt) : Lasts (Shv E l) := fun _ _ _ ⟨A, n, c, h1, h2, h3⟩ hS => ⟨A, n, c, h1, h2.below hS, h3⟩
theorem Shv.ext {E : Int} {l : List Pt} {P : Program} {f : Operand → Value} {o : Oper} (x : Operand) (ho : o.op = .extract x 0) {v : Value} (hx : f x = v) {X : World} (h : Shv E l v X) : ∃ u X', (execOp f o).run P X = .ok (.value u) X' ∧ Cvl l u X' ∧ Since X X' := by
  obtain ⟨A, n, c, rfl, h1, h2, h3⟩ := h
  refine ⟨_, X, ?_, ⟨A, n, c, rfl, h1, h2, h3⟩, Below.refl _ _⟩
  unfold execOp
  simp only [ho, hx]
  go_simp
theorem Shv.err {E : Int} {l : List Pt} {P : Program} {f : Operand → Value} {o : Oper} (x : Operand) (ho : o.op = .extract x 1) {v : Value} (hx : f x = v) {X : World} (h : Shv E l v X) : (execOp f o).run P X = .ok (.value (.int .i64 E)) X := by
  obtain ⟨A, n, c, rfl, h1, h2⟩ := h
  unfold execOp
  simp only [ho, hx]
  go_simp
/-- The intervals and an error; the intervals. -/
def Dfv (E : Int) (l : List (Int × Int)) (v : Value) (X : World) : Prop := ∃ A n c, v = .tuple #[.slice A n c, .int .i64 E] ∧ Rd X 2 (.slice A n c) n (fl btc l) ∧ l.length = n
theorem Dfv.lasts (E : Int) (l : List (Int × Int)) : Lasts (Dfv E l) := fun _ _ _ ⟨A, n, c, h1, h2, h3⟩ hS => ⟨A, n, c, h1, h2.below hS, h3⟩
def Dlv (l : List (Int × Int)) (v : Value) (X : World) : Prop := ∃ A n c, v = .slice A n c ∧ Rd X 2 (.slice A n c) n (fl btc l) ∧ l.length = n
theorem Dlv.lasts (l : List (Int × Int)) : Lasts (Dlv l) := fun _ _ _ ⟨A, n, c, h1, h2, h3⟩ hS => ⟨A, n, c, h1, h2.below hS, h3⟩
theorem Dfv.ext {E : Int} {l : List (Int × Int)} {P : Program} {f : Operand → Value} {o : Oper} (x : Operand) (ho : o.op = .extract x 0) {v : Value} (hx : f x = v) {X : World} (h : Dfv E l v X) : ∃ u X', (execOp f o).run P X = .ok (.value u) X' ∧ Dlv l u X' ∧ Since X X' := by
  obtain ⟨A, n, c, rfl, h1, h2⟩ := h
  refine ⟨_, X, ?_, ⟨A, n, c, rfl, h1, h2⟩, Below.refl _ _⟩
  unfold execOp
  simp only [ho, hx]
  go_simp
theorem Dfv.err {E : Int} {l : List (Int × Int)} {P : Program} {f : Operand → Value} {o : Oper} (x : Operand) (ho : o.op = .extract x 1) {v : Value} (hx : f x = v) {X : World} (h : Dfv E l v X) : (execOp f o).run P X = .ok (.value (.int .i64 E)) X := by
  obtain ⟨A, n, c, rfl, h1, h2⟩ := h
  unfold execOp
  simp only [ho, hx]
  go_simp
theorem Rd.btIn {w : World} {b off n c : Nat} {l : List (Int × Int)} (h : Rd w 2 (.slice (some ⟨b, off, none⟩) n c) n (fl btc l)) (hl : l.length = n) {k : Nat} (hk : k < n) : b < w.heap.size ∧ Cl w b (off + k * 2) (btc (l.getD k (0, 0))) := by
  obtain ⟨b2, off2, x, he, hb, hc, _, hd⟩ := h.atF (m := 2) (fun x _ => btc_len x) (by omega) (k := k) (by omega)
  injection he with he
  injection he with e1 e2
  subst e1 e2
  refine ⟨hb, ?_⟩
  have hx : l.getD k (0, 0) = x := by
    have h1 : l[k]? = some x := by
      have := congrArg (·[0]?) hd.out
      simpa [List.getElem?_drop] using this
    rw [List.getD_eq_getElem?_getD, h1]
    rfl
  rw [hx]
  exact hc
theorem Rd.someB {w : World} {A : Option Addr} {m n c : Nat} {xs : List Value} (h : Rd w m (.slice A n c) n xs) (hn : 0 < n) : ∃ b off, A = some ⟨b, off, none⟩ := by
  obtain ⟨_, A', c', hv, _, _, _, hr⟩ := h
  injection hv with e1 _ _
  obtain ⟨b, off, hA, _⟩ := hr hn
  exact ⟨b, off, e1.trans hA⟩
theorem checkV (l : List Pt) (v : Value) (w : World) (h : Cvl l v w) (hf : fewP l 1000000) : Calls Tryd.prog 33 #[v] w fun e w' => e = .returned (.int .i64 (ck l)) ∧ Since w w' := by
  obtain ⟨A, n, c, rfl, h1, h2, h3⟩ := h
  exact checkC A n c l w h1 h2 h3 hf
theorem flowV (l : List Pt) (v : Value) (s : Int) (w : World) (h : Cvl l v w) (hf : fewP l 1000) : Calls Tryd.prog 35 #[v, .int .i64 s] w fun e w' => e = .returned (rbv (flowC0 l s)) ∧ Since w w' := by
  obtain ⟨A, n, c, rfl, h1, h2, h3⟩ := h
  exact flowC A n c l s w h1 h2 h3 hf
theorem leastV (l : List Pt) (v : Value) (n' : Bool) (p q : List UInt8) {x : Rat} (hx : rq n' p q = x) (ht : tz p q 1000000) (w : World) (h : Cvl l v w) (hf : fewP l 1000) : Calls Tryd.prog 36 #[v, rtv n' p q] w fun e w' => e = .returned (.tuple #[.int .i64 (leN l (vd n' p q) x), .int .i64 (leE l (vd n' p q) x)]) ∧ Since w w' := by
  obtain ⟨A, n, c, rfl, h1, h2, h3⟩ := h
  exact leastC A n c l n' p q hx ht w h1 h2 h3 hf
theorem shiftV (l : List Pt) (v : Value) (d : Int) (w : World) (h : Cvl l v w) (hf : fewP l 1000) : Calls Tryd.prog 38 #[v, .int .i64 d] w fun e w' => ∃ u, e = .returned u ∧ Shv (shE l d) (shL l d) u w' ∧ Since w w' := by
  obtain ⟨A, n, c, rfl, h1, h2, h3⟩ := h
  refine (shiftC A n c l d w h1 h2 h3 hf).mono fun e X ⟨A', m, c', L, he, g1, g2, g3, _, g4⟩ => ⟨_, he, ⟨A', m, c', rfl, ?_, ?_, ?_⟩, g4⟩
  · rw [← g3]; exact g1
  · rw [← g3]; exact g2
  · have := shL_len l d
    rw [← g3] at this
    omega
theorem scaleV (l : List Pt) (v : Value) (n' : Bool) (p q : List UInt8) (ht : tz p q 1000000) (w : World) (h : Cvl l v w) (hf : fewP l 1000) : Calls Tryd.prog 37 #[v, rtv n' p q] w fun e w' => ∃ u, e = .returned u ∧ Shv (scE l (n', p, q)) (scL l (n', p, q)) u w' ∧ Since w w' := by
  obtain ⟨A, n, c, rfl, h1, h2, h3⟩ := h
  refine (scaleC A n c l n' p q ht w h1 h2 h3 hf).mono fun e X ⟨A', m, c', L, he, g1, g2, g3, _, g4⟩ => ⟨_, he, ⟨A', m, c', rfl, ?_, ?_, ?_⟩, g4⟩
  · rw [← g3]; exact g1
  · rw [← g3]; exact g2
  · have := scL_len l (n', p, q)
    rw [← g3] at this
    omega
theorem differV (l m : List Pt) (u v : Value) (w : World) (h : Cvl l u w) (h' : Cvl m v w) (hf : fewP l 1000) (hf' : fewP m 1000) : Calls Tryd.prog 40 #[u, v] w fun e w' => ∃ x, e = .returned x ∧ Dfv (dfE l m) (dfL l m) x w' ∧ Since w w' := by
  obtain ⟨A, n, c, rfl, h1, h2, h3⟩ := h
  obtain ⟨A', n', c', rfl, h1', h2', h3'⟩ := h'
  refine (differC A n c l A' n' c' m w h1 h1' h2 h2' h3 h3' hf hf').mono fun e X ⟨A9, m9, c9, he, g1, g2, g4⟩ => ⟨_, he, ⟨A9, m9, c9, rfl, g1, g2⟩, g4⟩
theorem sameV (l m : List Pt) (u v : Value) (w : World) (h : Cvl l u w) (h' : Cvl m v w) : Calls Tryd.prog 39 #[u, v] w fun e w' => e = .returned (.bool (decide (l = m))) ∧ Since w w' := by
  obtain ⟨A, n, c, rfl, h1, h2, h3⟩ := h
  obtain ⟨A', n', c', rfl, h1', h2', h3'⟩ := h'
  exact sameC A n c l A' n' c' m w h1 h1' h2 h2' h3 h3'
end Go.Proofs.YtchhlgcakjjncaaDoor
