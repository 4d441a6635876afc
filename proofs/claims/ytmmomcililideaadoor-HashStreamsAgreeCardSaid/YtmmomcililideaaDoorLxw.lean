/-
  Words for drawn regions whose operations leave all that was there as it was.
-/
import Derived.Test.YtmmomcililideaaDoorLx
import Derived.Test.YtmmomcililideaaDoorQb
import Derived.Test.YtmmomcililideaaDoorConv
set_option linter.unusedSimpArgs false
set_option linter.unusedVariables false
namespace Go.Proofs.YtmmomcililideaaDoor
open Go.RowKit

/-- A law that lasts. -/
def Lasts (S : Value → World → Prop) : Prop := ∀ v X Y, S v X → Since X Y → S v Y
theorem lasts_nil : ∀ S, some S ∈ ([] : List Spec) → ∀ v X Y, S v X → Since X Y → S v Y := fun S h => by cases h
theorem lasts_none {ss : List Spec} (h : ∀ S, some S ∈ ss → ∀ v X Y, S v X → Since X Y → S v Y) : ∀ S, some S ∈ (none : Spec) :: ss → ∀ v X Y, S v X → Since X Y → S v Y := fun S hm => by
  rcases List.mem_cons.1 hm with h' | h'
  · cases h'
  · exact h S h'
theorem lasts_some {T : Value → World → Prop} {ss : List Spec} (hT : Lasts T) (h : ∀ S, some S ∈ ss → ∀ v X Y, S v X → Since X Y → S v Y) : ∀ S, some S ∈ (some T : Spec) :: ss → ∀ v X Y, S v X → Since X Y → S v Y := fun S hm => by
  rcases List.mem_cons.1 hm with h' | h'
  · injection h' with h'
    subst h'
    exact hT
  · exact h S h'
section
variable {P : Program} {l : List Oper} {ops : Array Oper} {w : World} {Q : Act → World → Prop} {pre : Nat → Nat → Bool} {a : Act} {k : Nat} {o : Oper} {rest : List (Nat × Oper × Spec)} {Fs : List (Nat × (World → Prop))}

theorem lx_region {id : Nat} {Q' : Exit → Act → World → Prop} (ss : List Spec) (hm : P.follows .mixedOrders = true) (hB : lxB l = true)
    (hst : ∀ S, some S ∈ ss → ∀ v X Y, S v X → Since X Y → S v Y) (h : Cert P l.toArray Since w (wpList P l.toArray Q' []) (inB (clo l)) (its 0 l ss) [] a) : (Code.region id l.toArray true).wp P Q' a w :=
  cert_region ss hm hB (show Since w w.drew from (Below.refl w.heap.size w).drew) (fun _ _ h h' => h.next h') hst h
theorem lx_region_tail {id : Nat} {Q' : Exit → Act → World → Prop} {z : Oper} (ss : List Spec) (hm : P.follows .mixedOrders = true) (hB : lxB l = true) (hT : tailB l = true) (hz : l.drop (l.length - 1) = [z])
    (hst : ∀ S, some S ∈ ss → ∀ v X Y, S v X → Since X Y → S v Y) (h : Cert P l.toArray Since w (wpList P l.toArray Q' [z]) (inB (clo l)) (its 0 l.dropLast ss) [] a) : (Code.region id l.toArray true).wp P Q' a w :=
  cert_region_tail ss hm hB hT hz (show Since w w.drew from (Below.refl w.heap.size w).drew) (fun _ _ h h' => h.next h') hst h

theorem lx_plain {id : Nat} {Q' : Exit → Act → World → Prop} (ss : List Spec) (hst : ∀ S, some S ∈ ss → ∀ v X Y, S v X → Since X Y → S v Y)
    (h : Cert P l.toArray Since w (wpList P l.toArray Q' []) (fun _ _ => true) (its 0 l ss) [] a) : (Code.region id l.toArray false).wp P Q' a w :=
  cert_plain l [] ss (List.append_nil l).symm (show Since w w from Below.refl w.heap.size w) (fun _ _ h h' => Since.next h h') hst h
/-- The first n operations; the walk goes on with what is left. -/
theorem lx_plain_to {id : Nat} {Q' : Exit → Act → World → Prop} (n : Nat) (ss : List Spec) (hst : ∀ S, some S ∈ ss → ∀ v X Y, S v X → Since X Y → S v Y)
    (h : Cert P l.toArray Since w (wpList P l.toArray Q' (l.drop n)) (fun _ _ => true) (its 0 (l.take n) ss) [] a) : (Code.region id l.toArray false).wp P Q' a w :=
  cert_plain (l.take n) (l.drop n) ss (List.take_append_drop n l).symm (show Since w w from Below.refl w.heap.size w) (fun _ _ h h' => Since.next h h') hst h

/-- A load of a whole struct or array. -/
theorem lx_load (hw : Region.wanted o (yielded ops a.tmps) = true) (ty : TypeId) (x : Operand) (ho : o.op = .load ty x) (b off : Nat) (hx : a.eval x = .pointer (some ⟨b, off, none⟩)) (d : TypeDesc) (hu : P.underlying ty = some d)
    (hd : (match d with | .struct _ | .array _ _ => true | _ => false) = true) (xs : List Value) (hb : b < w.heap.size) (hc : Cl w b off xs) (hi : (P.info? ty).map (·.size) = some xs.length)
    (h : Cert P ops Since w Q pre rest Fs (a.put o.dst (.agg xs.toArray))) : Cert P ops Since w Q pre ((k, o, none) :: rest) Fs a := by
  refine lx_val hw (.agg xs.toArray) (fun X hX _ => ?_) h
  unfold execOp
  have hcX : Cl X b off xs := hc.below hX hb
  simp only [ho, hx, Instr.loadAt, Instr.sureAddr, Sem.run_bind, Sem.run_pure, Result.andThen_ok, run_loadVar_cl ty d b off xs hcX hu hd hi]
/-- Arithmetic and comparisons. -/
theorem lx_bin (hw : Region.wanted o (yielded ops a.tmps) = true) (op : BinOp) (t t' : TypeId) (x y : Operand) (ho : o.op = .binOp op t x y t') (u v r : Value) (hx : a.eval x = u) (hy : a.eval y = v) (hg : ∀ X : World, (Go.eqGuard op t x y u v).run P X = .ok () X)
    (hr : ∀ X : World, (binOp op t u v).run P X = .ok r X) (h : Cert P ops Since w Q pre rest Fs (a.put o.dst r)) : Cert P ops Since w Q pre ((k, o, none) :: rest) Fs a := by
  refine lx_val hw r (fun X _ _ => ?_) h
  unfold execOp
  simp only [ho, hx, hy, Sem.run_bind, hg X, Result.andThen_ok, hr X, Sem.run_pure]
/-- '[]byte(s)': a slice that reads as the string's bytes. -/
def Bts (l : List UInt8) (v : Value) (X : World) : Prop := ∃ A c, v = .slice A l.length c ∧ Rd X 1 (.slice A l.length c) l.length (l.map B8)
theorem Bts.lasts (l : List UInt8) : Lasts (Bts l) := by
  rintro v X Y ⟨A, c, hv, hr⟩ hS
  exact ⟨A, c, hv, hr.below hS⟩
theorem lx_bytes (hw : Region.wanted o (yielded ops a.tmps) = true) (src dst e : TypeId) (x : Operand) (ho : o.op = .convert src dst x) (m : List UInt8) (hx : a.eval x = .string ⟨m.toArray⟩) (hs : P.underlying src = some .string) (hd : P.underlying dst = some (.slice e)) (he : P.underlying e = some (.int .u8)) (hl : m.length ≤ 140737488355328)
    (h : ∀ v, Cert P ops Since w Q pre rest ((k, Bts m v) :: Fs) (a.put o.dst v)) : Cert P ops Since w Q pre ((k, o, some (Bts m)) :: rest) Fs a := by
  refine lx_new hw (fun X hX _ => ?_) h
  obtain ⟨c, w1, h1, h2, h3⟩ := conv_bytes (P := P) X src dst e hs hd he m hl
  refine ⟨_, w1, ?_, ⟨_, c, rfl, h2⟩, h3⟩
  unfold execOp
  simp only [ho, hx, Sem.run_bind, h1, Result.andThen_ok, Sem.run_pure]
end

section
variable {P : Program}
/-- '==' of two bools that are the same. -/
theorem exec_eqb {f : Operand → Value} {o : Oper} (t t' : TypeId) (hu : P.underlying t = some .bool) (x y : Operand) (ho : o.op = .binOp .eql t x y t') (b : Bool) (hx : f x = .bool b) (hy : f y = .bool b) (w : World) : (execOp f o).run P w = .ok (.value (.bool true)) w := by
  have hr := run_eql_bool (P := P) (w := w) t b b hu
  rw [beq_self_eq_true] at hr
  unfold execOp
  simp only [ho, hx, hy]
  go_simp
/-- '==' of two strings. -/
theorem exec_eqs {f : Operand → Value} {o : Oper} (t t' : TypeId) (x y : Operand) (ho : o.op = .binOp .eql t x y t') (l m : List UInt8) (hx : f x = .string ⟨l.toArray⟩) (hy : f y = .string ⟨m.toArray⟩) (w : World) : (execOp f o).run P w = .ok (.value (.bool (l == m))) w := by
  have h : (l == m) = (decide (l = m)) := by
    rw [Bool.eq_iff_iff]
    simp
  rw [h]
  unfold execOp
  simp only [ho, hx, hy]
  go_simp
/-- '!=' of two strings. -/
theorem exec_nes {f : Operand → Value} {o : Oper} (t t' : TypeId) (x y : Operand) (ho : o.op = .binOp .neq t x y t') (l m : List UInt8) (hx : f x = .string ⟨l.toArray⟩) (hy : f y = .string ⟨m.toArray⟩) (w : World) : (execOp f o).run P w = .ok (.value (.bool (l != m))) w := by
  have h : (l != m) = (!decide (l = m)) := by
    rw [Bool.eq_iff_iff]
    simp
  rw [h]
  unfold execOp
  simp only [ho, hx, hy]
  go_simp
  rw [Bool.eq_iff_iff]
  simp
/-- 'string(b)'. -/
theorem exec_str {f : Operand → Value} {o : Oper} (src dst e : TypeId) (hs : P.underlying src = some (.slice e)) (he : P.underlying e = some (.int .u8)) (hd : P.underlying dst = some .string) (x : Operand) (ho : o.op = .convert src dst x)
    {v : Value} {n : Nat} {bs : List UInt8} (hx : f x = v) {w : World} (hr : Rd w 1 v n (bs.map B8)) : (execOp f o).run P w = .ok (.value (.string ⟨bs.toArray⟩)) w := by
  have h := run_str (P := P) (w := w) src dst e hs he hd hr
  unfold execOp
  simp only [ho, hx, Sem.run_bind, h, Result.andThen_ok, Sem.run_pure]
theorem mk_take (l : List UInt8) (n : Nat) : (⟨l.toArray⟩ : ByteArray).extract 0 n = ⟨(l.take n).toArray⟩ := by
  apply ByteArray.ext
  rw [ByteArray.data_extract]
  simp
/-- 's[:k]'. -/
theorem exec_cut {f : Operand → Value} {o : Oper} (t : TypeId) (hu : P.underlying t = some .string) (x hi : Operand) (ho : o.op = .slice t x none (some hi) none) (l : List UInt8) (k : Nat) (hx : f x = .string ⟨l.toArray⟩) {z : Int} (hh : f hi = .int .i64 z) (hz : z = (k : Int)) (hk : k ≤ l.length) (w : World) :
    (execOp f o).run P w = .ok (.value (.string ⟨(l.take k).toArray⟩)) w := by
  have h := mk_take l k
  subst hz
  unfold execOp
  simp only [ho, hx, hh, Option.map]
  go_simp
end
end Go.Proofs.YtmmomcililideaaDoor
