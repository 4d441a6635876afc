/-
  Reference of layer 48: contracts over values.
-/
import Derived.Test.YthinopepcmidmaaDoorRf48
import Derived.Test.YthinopepcmidmaaDoorRg48
import Derived.Test.YthinopepcmidmaaDoorRh48
import Derived.Test.YthinopepcmidmaaDoorRi48
set_option linter.unusedSimpArgs false
set_option linter.unusedVariables false
set_option maxRecDepth 100000
set_option maxHeartbeats 1600000
namespace Go.Proofs.YthinopepcmidmaaDoor
open Go.RowKit
theorem rckV (r : List (List UInt8)) (vr : Value)  (w : World) (hr : Sts r vr w)  : Calls Tryd.prog 14 #[.agg #[vr]] w fun e w' => e = .returned (.int .i64 (rckE r)) ∧ Since w w' := by
  obtain ⟨A, c, rfl, h⟩ := hr
  exact rckC A _ c r w h rfl (rd_max h)
theorem rslV (r : List (List UInt8)) (vr : Value) (s : Sl) (w : World) (hr : Sts r vr w) (hs : SlOk s) (hK : KK0 w) : Calls Tryd.prog 12 #[.agg #[vr], .agg (slc s).toArray] w fun e w' => e = .returned (.agg (mdc (slS mk48 r s) (slE r s)).toArray) ∧ Since w w' := by
  obtain ⟨A, c, rfl, h⟩ := hr
  exact rslC A _ c r w h rfl (rd_max h) s hs hK
theorem rrgV (r : List (List UInt8)) (vr : Value) (s : Sl) (w : World) (hr : Sts r vr w) (hs : SlOk s) (hK : KK0 w) : Calls Tryd.prog 16 #[.agg #[vr], .agg (slc s).toArray] w fun e w' => e = .returned (.bool (rgt mk48 r s)) ∧ Since w w' := by
  obtain ⟨A, c, rfl, h⟩ := hr
  exact rrgC A _ c r w h rfl (rd_max h) s hs hK
theorem rlgV (r : List (List UInt8)) (vr : Value) (l : List Sl) (vl : Value) (w : World) (hr : Sts r vr w) (hl : Slv l vl w) (hok : ∀ s ∈ l, SlOk s) (hK : KK0 w) : Calls Tryd.prog 25 #[.agg #[vr], vl] w fun e w' => e = .returned (.int .i64 (lgE mk48 nm48 r l)) ∧ Since w w' := by
  obtain ⟨A, c, rfl, h⟩ := hr
  obtain ⟨A', c', rfl, h'⟩ := hl
  exact rlgC A _ c r w h rfl (rd_max h) A' _ c' l h' rfl (rd_max h') hok hK
theorem rnxV (r : List (List UInt8)) (vr : Value) (l : List Sl) (vl : Value) (s : Sl) (w : World) (hr : Sts r vr w) (hl : Slv l vl w) (hok : ∀ s ∈ l, SlOk s) (hs : SlOk s) (hK : KK0 w) : Calls Tryd.prog 21 #[.agg #[vr], vl, .agg (slc s).toArray] w fun e w' => e = .returned (.agg (mdc (nxS mk48 nm48 r l s) (nxE mk48 nm48 r l s)).toArray) ∧ Since w w' := by
  obtain ⟨A, c, rfl, h⟩ := hr
  obtain ⟨A', c', rfl, h'⟩ := hl
  exact rnxC A _ c r w h rfl (rd_max h) A' _ c' l h' rfl (rd_max h') hok s hs hK
theorem rcoV (r : List (List UInt8)) (vr : Value) (l : List Sl) (vl : Value) (l2 : List Sl) (vl2 : Value) (w : World) (hr : Sts r vr w) (hl : Slv l vl w) (hok : ∀ s ∈ l, SlOk s) (hl2 : Slv l2 vl2 w) (hok2 : ∀ s ∈ l2, SlOk s) (hK : KK0 w) : Calls Tryd.prog 23 #[.agg #[vr], vl, vl2] w fun e w' => e = .returned (.agg #[.int .i64 (coN mk48 nm48 r l l2), .int .i64 (coE mk48 nm48 r l l2)]) ∧ Since w w' := by
  obtain ⟨A, c, rfl, h⟩ := hr
  obtain ⟨A', c', rfl, h'⟩ := hl
  obtain ⟨A2, c2, rfl, h2⟩ := hl2
  exact rcoC A _ c r w h rfl (rd_max h) A' _ c' l h' rfl (rd_max h') hok A2 _ c2 l2 h2 rfl (rd_max h2) hok2 hK
theorem rctV (r : List (List UInt8)) (vr : Value) (s s2 : Sl) (w : World) (hr : Sts r vr w) (hs : SlOk s) (hs2 : SlOk s2) (hK : KK0 w) : Calls Tryd.prog 27 #[.agg #[vr], .agg (slc s).toArray, .agg (slc s2).toArray] w fun e w' => e = .returned (.int .i64 (ctr mk48 nm48 r s s2)) ∧ Since w w' := by
  obtain ⟨A, c, rfl, h⟩ := hr
  exact rctC A _ c r w h rfl (rd_max h) s s2 hs hs2 hK
theorem rfwV (r : List (List UInt8)) (vr : Value) (l : List Sl) (vl : Value) (most : Int) (hmo : 0 ≤ most ∧ most ≤ 4000) (w : World) (hr : Sts r vr w) (hl : Slv l vl w) (hok : ∀ s ∈ l, SlOk s) : Calls Tryd.prog 9 #[.agg #[vr], vl, .int .i64 most] w fun e w' => ∃ v, e = .returned v ∧ Bv (FewP l most) v w' ∧ Since w w' := by
  obtain ⟨A, c, rfl, h⟩ := hr
  obtain ⟨A', c', rfl, h'⟩ := hl
  exact rfwC A _ c r w h rfl (rd_max h) A' _ c' l h' rfl (rd_max h') hok most hmo
theorem exec_eqbb {f : Operand → Value} {o : Oper} (x y : Operand) (t t' : TypeId) (ho : o.op = .binOp .eql t x y t') (b : Bool) (ht : t = 4) (hx : f x = .bool b) (hy : f y = .bool b) (X : World) : (execOp f o).run Tryd.prog X = .ok (.value (.bool true)) X := by
  subst ht
  cases b
  · unfold execOp
    simp only [ho]
    go_simp
  · unfold execOp
    simp only [ho]
    go_simp
end Go.Proofs.YthinopepcmidmaaDoor
