/-
  Layer 48: contracts over values.
-/
import Derived.Test.YthinopepcmidmaaDoorSj48
import Derived.Test.YthinopepcmidmaaDoorSk48
set_option linter.unusedSimpArgs false
set_option linter.unusedVariables false
set_option maxRecDepth 100000
set_option maxHeartbeats 1600000
namespace Go.Proofs.YthinopepcmidmaaDoor
open Go.RowKit
/-- A slice of statements that reads as a list. -/
def Slv (l : List Sl) (v : Value) (X : World) : Prop := ∃ A c, v = .slice A l.length c ∧ Rd X 37 (.slice A l.length c) l.length (fl slc l)
theorem Slv.lasts (l : List Sl) : Lasts (Slv l) := by
  rintro v X Y ⟨A, c, hv, hr⟩ hS
  exact ⟨A, c, hv, hr.below hS⟩
theorem Slv.nil (X : World) : Slv [] (.slice none 0 0) X := ⟨none, 0, rfl, Rd.nil_ X 37⟩
theorem rd_max {X : World} {m n c : Nat} {A : Option Addr} {xs : List Value} (h : Rd X m (.slice A n c) n xs) : n ≤ 9223372036854775807 := by
  obtain ⟨A9, c9, e9, h8, h9⟩ := h.form
  unfold maxLen at h9
  omega
theorem sckV (r : List (List UInt8)) (vr : Value) (w : World) (hr : Sts r vr w) : Calls Tryd.prog 13 #[.agg #[vr]] w fun e w' => e = .returned (.int .i64 (rckE r)) ∧ Since w w' := by
  obtain ⟨A, c, rfl, h⟩ := hr
  exact sckC A _ c r w h rfl (rd_max h)
theorem srgV (r : List (List UInt8)) (vr : Value) (s : Sl) (w : World) (hr : Sts r vr w) (hs : SlOk s) (hK : KK w) : Calls Tryd.prog 15 #[.agg #[vr], .agg (slc s).toArray] w fun e w' => e = .returned (.bool (rgt mk48 r s)) ∧ Since w w' := by
  obtain ⟨A, c, rfl, h⟩ := hr
  exact srgC A _ c r w h rfl (rd_max h) s hs hK
theorem slgV (r : List (List UInt8)) (vr : Value) (l : List Sl) (vl : Value) (w : World) (hr : Sts r vr w) (hl : Slv l vl w) (hok : ∀ s ∈ l, SlOk s) (hK : KK w) : Calls Tryd.prog 24 #[.agg #[vr], vl] w fun e w' => e = .returned (.int .i64 (lgE mk48 nm48 r l)) ∧ Since w w' := by
  obtain ⟨A, c, rfl, h⟩ := hr
  obtain ⟨A', c', rfl, h'⟩ := hl
  exact slgC A _ c r w h rfl (rd_max h) A' _ c' l h' rfl (rd_max h') hok hK
theorem snxV (r : List (List UInt8)) (vr : Value) (l : List Sl) (vl : Value) (s : Sl) (w : World) (hr : Sts r vr w) (hl : Slv l vl w) (hok : ∀ s ∈ l, SlOk s) (hs : SlOk s) (hK : KK w) : Calls Tryd.prog 20 #[.agg #[vr], vl, .agg (slc s).toArray] w fun e w' => e = .returned (.tuple #[.agg (slc (nxS mk48 nm48 r l s)).toArray, .int .i64 (nxE mk48 nm48 r l s)]) ∧ Since w w' := by
  obtain ⟨A, c, rfl, h⟩ := hr
  obtain ⟨A', c', rfl, h'⟩ := hl
  exact snxC A _ c r w h rfl (rd_max h) A' _ c' l h' rfl (rd_max h') hok s hs hK
theorem scoV (r : List (List UInt8)) (vr : Value) (l : List Sl) (vl : Value) (l2 : List Sl) (vl2 : Value) (w : World) (hr : Sts r vr w) (hl : Slv l vl w) (hok : ∀ s ∈ l, SlOk s) (hl2 : Slv l2 vl2 w) (hok2 : ∀ s ∈ l2, SlOk s) (hK : KK w) : Calls Tryd.prog 22 #[.agg #[vr], vl, vl2] w fun e w' => e = .returned (.tuple #[.int .i64 (coN mk48 nm48 r l l2), .int .i64 (coE mk48 nm48 r l l2)]) ∧ Since w w' := by
  obtain ⟨A, c, rfl, h⟩ := hr
  obtain ⟨A', c', rfl, h'⟩ := hl
  obtain ⟨A2, c2, rfl, h2⟩ := hl2
  exact scoC A _ c r w h rfl (rd_max h) A' _ c' l h' rfl (rd_max h') hok A2 _ c2 l2 h2 rfl (rd_max h2) hok2 hK
theorem sctV (r : List (List UInt8)) (vr : Value) (s s2 : Sl) (w : World) (hr : Sts r vr w) (hs : SlOk s) (hs2 : SlOk s2) (hK : KK w) : Calls Tryd.prog 26 #[.agg #[vr], .agg (slc s).toArray, .agg (slc s2).toArray] w fun e w' => e = .returned (.int .i64 (ctr mk48 nm48 r s s2)) ∧ Since w w' := by
  obtain ⟨A, c, rfl, h⟩ := hr
  exact sctC A _ c r w h rfl (rd_max h) s s2 hs hs2 hK
section
variable {f : Operand → Value} {o : Oper}
theorem exec_bq4 (x0 x2 x3 x4 : Operand) (ho : o.op = .build 28 #[(0, x0), (2, x2), (3, x3), (4, x4)]) (a b c : Int) (l : List UInt8) (h0 : f x0 = .int .i64 a) (h2 : f x2 = .int .i64 b) (h3 : f x3 = .int .i64 c) (h4 : f x4 = .string ⟨l.toArray⟩) (X : World) :
    (execOp f o).run Tryd.prog X = .ok (.value (.agg (slc ⟨a, 0, b, c, l, z16b, z16b⟩).toArray)) X := by
  have hz := zeroSl
  unfold execOp
  simp only [ho]
  go_simp
  rfl
theorem exec_bq3 (x0 x2 x3 : Operand) (ho : o.op = .build 28 #[(0, x0), (2, x2), (3, x3)]) (a b c : Int) (h0 : f x0 = .int .i64 a) (h2 : f x2 = .int .i64 b) (h3 : f x3 = .int .i64 c) (X : World) :
    (execOp f o).run Tryd.prog X = .ok (.value (.agg (slc ⟨a, 0, b, c, [], z16b, z16b⟩).toArray)) X := by
  have hz := zeroSl
  unfold execOp
  simp only [ho]
  go_simp
  rfl
theorem len16 {l : List UInt8} (h : l.length = 16) : ∃ a0 a1 a2 a3 a4 a5 a6 a7 a8 a9 a10 a11 a12 a13 a14 a15, l = [a0, a1, a2, a3, a4, a5, a6, a7, a8, a9, a10, a11, a12, a13, a14, a15] := by
  match l, h with
  | [a0, a1, a2, a3, a4, a5, a6, a7, a8, a9, a10, a11, a12, a13, a14, a15], _ => exact ⟨a0, a1, a2, a3, a4, a5, a6, a7, a8, a9, a10, a11, a12, a13, a14, a15, rfl⟩
theorem exec_bsl1 (x : Operand) (ho : o.op = .buildSlice 30 1 #[(0, x)]) (a : Sl) (ha : SlOk a) (hx : f x = .agg (slc a).toArray) (X : World) :
    ∃ v X', (execOp f o).run Tryd.prog X = .ok (.value v) X' ∧ Slv [a] v X' ∧ Since X X' := by
  refine ⟨.slice (some ⟨X.heap.size, 0, none⟩) 1 1, X.alloc (.cells (slc a).toArray 28), ?_, ⟨_, _, rfl, ?_⟩, since_alloc X _⟩
  · unfold execOp
    simp only [ho]
    obtain ⟨sx, qx, dx, kx, bx, px, zx⟩ := a
    obtain ⟨px0, px1, px2, px3, px4, px5, px6, px7, px8, px9, px10, px11, px12, px13, px14, px15, rfl⟩ := len16 (show px.length = 16 from ha.pv)
    obtain ⟨zx0, zx1, zx2, zx3, zx4, zx5, zx6, zx7, zx8, zx9, zx10, zx11, zx12, zx13, zx14, zx15, rfl⟩ := len16 (show zx.length = 16 from ha.sl)
    simp only [slc, List.map_cons, List.map_nil, List.cons_append, List.nil_append] at hx ⊢
    go_simp
  · rw [show fl slc [a] = slc a from by simp [fl]]
    exact Rd.newM rfl (by rw [ha.len]; rfl) (by show 1 ≤ maxLen; decide) rfl
theorem exec_bsl2 (x y : Operand) (ho : o.op = .buildSlice 30 2 #[(0, x), (1, y)]) (a b : Sl) (ha : SlOk a) (hb : SlOk b) (hx : f x = .agg (slc a).toArray) (hy : f y = .agg (slc b).toArray) (X : World) :
    ∃ v X', (execOp f o).run Tryd.prog X = .ok (.value v) X' ∧ Slv [a, b] v X' ∧ Since X X' := by
  refine ⟨.slice (some ⟨X.heap.size, 0, none⟩) 2 2, X.alloc (.cells (slc a ++ slc b).toArray 28), ?_, ⟨_, _, rfl, ?_⟩, since_alloc X _⟩
  · unfold execOp
    simp only [ho]
    obtain ⟨sx, qx, dx, kx, bx, px, zx⟩ := a
    obtain ⟨px0, px1, px2, px3, px4, px5, px6, px7, px8, px9, px10, px11, px12, px13, px14, px15, rfl⟩ := len16 (show px.length = 16 from ha.pv)
    obtain ⟨zx0, zx1, zx2, zx3, zx4, zx5, zx6, zx7, zx8, zx9, zx10, zx11, zx12, zx13, zx14, zx15, rfl⟩ := len16 (show zx.length = 16 from ha.sl)
    obtain ⟨sy, qy, dy, ky, bdy, py, zy⟩ := b
    obtain ⟨py0, py1, py2, py3, py4, py5, py6, py7, py8, py9, py10, py11, py12, py13, py14, py15, rfl⟩ := len16 (show py.length = 16 from hb.pv)
    obtain ⟨zy0, zy1, zy2, zy3, zy4, zy5, zy6, zy7, zy8, zy9, zy10, zy11, zy12, zy13, zy14, zy15, rfl⟩ := len16 (show zy.length = 16 from hb.sl)
    simp only [slc, List.map_cons, List.map_nil, List.cons_append, List.nil_append] at hx hy ⊢
    go_simp
  · rw [show fl slc [a, b] = slc a ++ slc b from by simp [fl]]
    exact Rd.newM rfl (by rw [List.length_append, ha.len, hb.len]; rfl) (by show 2 ≤ maxLen; decide) rfl
theorem exec_sts4 (x y : Operand) (ho : o.op = .store 9 x y) (g j : Nat) {l : List UInt8} (hx : f x = .pointer (some ⟨g, j, none⟩)) (hy : f y = .string ⟨l.toArray⟩) (u : Value) (X : World) (hc : X.cell? ⟨g, j, none⟩ = some u) (hf : X.frozen? ⟨g, j, none⟩ = false) :
    (execOp f o).run Tryd.prog X = .ok .skip (X.setCell ⟨g, j, none⟩ (.string ⟨l.toArray⟩)) := by
  unfold execOp
  simp only [ho, hx, hy]
  go_simp
end
end Go.Proofs.YthinopepcmidmaaDoor
