/-
  HashKeysOfOneBlock's last row: its operations in whatever order.
-/
import Derived.Test.YtmmomcililideaaDoorKeys
set_option linter.unusedSimpArgs false
set_option linter.unusedVariables false
namespace Go.Proofs.YtmmomcililideaaDoor
open Go.RowKit

theorem wp_val {P : Program} {o : Oper} {a : Act} {X : World} {K : Act → World → Prop} {Q : Exit → Act → World → Prop} {v : Value} (hr : (execOp a.eval o).run P X = .ok (.value v) X) (h : K (a.put o.dst v) X) : Oper.wp P o a X K Q := by
  unfold Oper.wp
  rw [hr]
  exact h
theorem run_cat (x y : List UInt8) (h : x.length + y.length ≤ 4611686018427387904) (X : World) : (binOp .add 9 (.string ⟨x.toArray⟩) (.string ⟨y.toArray⟩)).run Tryd.prog X = .ok (.string ⟨(x ++ y).toArray⟩) X := by
  rw [binOp_string_add, run_string_add_sum, ByteArray.mk_append_mk]
  rw [ByteArray.size_mk', ByteArray.size_mk']
  simp only [List.size_toArray]
  omega
theorem wp_bin {P : Program} {o : Oper} {a : Act} {X : World} {K : Act → World → Prop} {Q : Exit → Act → World → Prop} (op : BinOp) (t t' : TypeId) (x y : Operand) (ho : o.op = .binOp op t x y t') (u v r : Value) (hx : a.eval x = u) (hy : a.eval y = v) (hg : ∀ X : World, (Go.eqGuard op t x y u v).run P X = .ok () X)
    (hr : ∀ X : World, (binOp op t u v).run P X = .ok r X) (h : K (a.put o.dst r) X) : Oper.wp P o a X K Q := by
  refine wp_val (v := r) ?_ h
  unfold execOp
  simp only [ho, hx, hy, Sem.run_bind, hg X, Result.andThen_ok, hr X, Sem.run_pure]
/-- n bytes 0. -/
def zerosL (n : Nat) : List UInt8 := List.replicate n 0
theorem zerosL_len (n : Nat) : (zerosL n).length = n := List.length_replicate
theorem run_load32 {X : World} {g : Nat} {H : List UInt8} (hB : Blk X g 24 (H.map B8)) (hl : H.length = 32) : (loadVar 24 ⟨g, 0, none⟩).run Tryd.prog X = .ok (.agg (H.map B8).toArray) X :=
  run_loadVar_cl (P := Tryd.prog) 24 _ g 0 (H.map B8) hB.cl Tryd.underlying24 rfl (by rw [List.length_map, hl]; exact size_o32)
theorem make8 (n : Nat) (hn : n ≤ 4096) (X : World) : (Instr.makeSlice 22 (.int .i64 (n : Int)) (.int .i64 (n : Int))).run Tryd.prog X = .ok (.slice (some ⟨X.heap.size, 0, none⟩) n n) (X.alloc (.cells ((zerosL n).map B8).toArray 5)) := by
  obtain ⟨i, hi', hz0, hsz, hby⟩ := info_parts info_u8
  have h := run_make (P := Tryd.prog) X 22 5 i _ Tryd.underlying22 hi' hz0 .i64 .i64 (n : Int) (n : Int) (by omega) (Int.le_refl _) (by rw [hby]; omega) (by omega)
  rw [h, hsz]
  have e : madeCells (Value.int .u8 0).cells ((n : Int).toNat * 1) = ((zerosL n).map B8).toArray := by
    apply Array.ext
    · simp [madeCells, zerosL]
    · intro k h1 h2
      simp [madeCells, Value.cells, B8, zerosL]
      rw [Nat.mod_one]
      rfl
  simp only [Int.toNat_natCast] at e ⊢
  rw [e]
/-- The operations of a region, found in a function's own code. -/
def kyBOpsAt (n : Nat) : Code → Option (Array Oper)
  | .region i o _ => if i = n then some o else none
  | .seq a b => match kyBOpsAt n a with
    | some o => some o
    | none => kyBOpsAt n b
  | .cond _ a b => match kyBOpsAt n a with
    | some o => some o
    | none => kyBOpsAt n b
  | .block _ c => kyBOpsAt n c
  | .loop c => kyBOpsAt n c
  | .scope c => kyBOpsAt n c
  | _ => none
noncomputable def kyBOps : Array Oper := match Tryd.f8.body with
  | some c => (kyBOpsAt 9 c).getD #[]
  | none => #[]
def KyBQ (Q : Exit → Act → World → Prop) (key m H : List UInt8) (n g1 : Nat) (w : World) (x2 x3 x4 x5 x6 x9 x11 x12 x13 x14 x15 x16 x17 x18 x19 x20 x21 x22 x23 x24 x25 x26 x27 x28 x29 x30 x31 x32 x33 x34 x35 x36 x37 x38 x39 x40 x41 x42 x43 x44 x45 x46 x47 x48 x49 x50 x51 x52 x53 x54 x55 x56 : Value) : Prop := ∀ (g2 : Nat) (X : World), Below w.heap.size w X → Q .normal ⟨#[.string ⟨key.toArray⟩, .string ⟨m.toArray⟩, x2, x3, x4, x5, .bool true, .bool true, .pointer (some ⟨g1, 0, none⟩), x9, .int .i64 (n : Int), x11, x12, x13, x14, x15, x16, x17, x18, x19, x20, x21, x22, x23, x24, x25, x26, x27, x28, x29, x30, x31, x32, x33, x34, x35, x36, x37, x38, x39, x40, x41, x42, x43, x44, .bool true, .bool true, .agg (H.map B8).toArray, .string ⟨key.toArray⟩, .int .i64 (n : Int), .slice (some ⟨g2, 0, none⟩) n n, .string ⟨(zerosL n).toArray⟩, .string ⟨(key ++ zerosL n).toArray⟩, .string ⟨m.toArray⟩, .agg (H.map B8).toArray, .bool true, .bool true], []⟩ X
set_option maxRecDepth 100000 in
theorem kyB_1111111111110 {Q : Exit → Act → World → Prop} {key m H : List UInt8} {n g1 : Nat} {w : World} {x2 x3 x4 x5 x6 x9 x11 x12 x13 x14 x15 x16 x17 x18 x19 x20 x21 x22 x23 x24 x25 x26 x27 x28 x29 x30 x31 x32 x33 x34 x35 x36 x37 x38 x39 x40 x41 x42 x43 x44 x45 x46 x47 x48 x49 x50 x51 x52 x53 x54 x55 x56 : Value} (hQ : KyBQ Q key m H n g1 w x2 x3 x4 x5 x6 x9 x11 x12 x13 x14 x15 x16 x17 x18 x19 x20 x21 x22 x23 x24 x25 x26 x27 x28 x29 x30 x31 x32 x33 x34 x35 x36 x37 x38 x39 x40 x41 x42 x43 x44 x45 x46 x47 x48 x49 x50 x51 x52 x53 x54 x55 x56) (hKK : ∀ X, Below w.heap.size w X → KK X) (hkl : key.length + n ≤ 64) (hml : m.length ≤ 400) (HL : H.length = 32) (HQ : hmac (key ++ zerosL n) m = H) {X : World} (hB : Blk X g1 24 (H.map B8)) (b : Below w.heap.size w X) (g2 : Nat) :
    wpAny Tryd.prog .any kyBOps Q 1 #[true, true, true, true, true, true, true, true, true, true, true, true, false] ⟨#[.string ⟨key.toArray⟩, .string ⟨m.toArray⟩, x2, x3, x4, x5, x6, .bool true, .pointer (some ⟨g1, 0, none⟩), x9, .int .i64 (n : Int), x11, x12, x13, x14, x15, x16, x17, x18, x19, x20, x21, x22, x23, x24, x25, x26, x27, x28, x29, x30, x31, x32, x33, x34, x35, x36, x37, x38, x39, x40, x41, x42, x43, x44, .bool true, .bool true, .agg (H.map B8).toArray, .string ⟨key.toArray⟩, .int .i64 (n : Int), .slice (some ⟨g2, 0, none⟩) n n, .string ⟨(zerosL n).toArray⟩, .string ⟨(key ++ zerosL n).toArray⟩, .string ⟨m.toArray⟩, .agg (H.map B8).toArray, .bool true, .bool true], []⟩ X := by
  refine wpAny_ready (rs := [12]) (by kernel_rfl) (by simp) ?_
  refine AllReady.cons (o := ⟨some 6, .assign _, _, _, _, _⟩) (by rfl) (fun K hK => ?_) ?_
  · go_simp
    refine hK _ _ ?_
    refine wpAny_done (by kernel_rfl) ?_ _
    exact hQ g2 _ b
  exact AllReady.nil
set_option maxRecDepth 100000 in
theorem kyB_1111111111100 {Q : Exit → Act → World → Prop} {key m H : List UInt8} {n g1 : Nat} {w : World} {x2 x3 x4 x5 x6 x9 x11 x12 x13 x14 x15 x16 x17 x18 x19 x20 x21 x22 x23 x24 x25 x26 x27 x28 x29 x30 x31 x32 x33 x34 x35 x36 x37 x38 x39 x40 x41 x42 x43 x44 x45 x46 x47 x48 x49 x50 x51 x52 x53 x54 x55 x56 : Value} (hQ : KyBQ Q key m H n g1 w x2 x3 x4 x5 x6 x9 x11 x12 x13 x14 x15 x16 x17 x18 x19 x20 x21 x22 x23 x24 x25 x26 x27 x28 x29 x30 x31 x32 x33 x34 x35 x36 x37 x38 x39 x40 x41 x42 x43 x44 x45 x46 x47 x48 x49 x50 x51 x52 x53 x54 x55 x56) (hKK : ∀ X, Below w.heap.size w X → KK X) (hkl : key.length + n ≤ 64) (hml : m.length ≤ 400) (HL : H.length = 32) (HQ : hmac (key ++ zerosL n) m = H) {X : World} (hB : Blk X g1 24 (H.map B8)) (b : Below w.heap.size w X) (g2 : Nat) :
    wpAny Tryd.prog .any kyBOps Q 2 #[true, true, true, true, true, true, true, true, true, true, true, false, false] ⟨#[.string ⟨key.toArray⟩, .string ⟨m.toArray⟩, x2, x3, x4, x5, x6, .bool true, .pointer (some ⟨g1, 0, none⟩), x9, .int .i64 (n : Int), x11, x12, x13, x14, x15, x16, x17, x18, x19, x20, x21, x22, x23, x24, x25, x26, x27, x28, x29, x30, x31, x32, x33, x34, x35, x36, x37, x38, x39, x40, x41, x42, x43, x44, .bool true, .bool true, .agg (H.map B8).toArray, .string ⟨key.toArray⟩, .int .i64 (n : Int), .slice (some ⟨g2, 0, none⟩) n n, .string ⟨(zerosL n).toArray⟩, .string ⟨(key ++ zerosL n).toArray⟩, .string ⟨m.toArray⟩, .agg (H.map B8).toArray, .bool true, x56], []⟩ X := by
  refine wpAny_ready (rs := [11]) (by kernel_rfl) (by simp) ?_
  refine AllReady.cons (o := ⟨some 56, .pick _ _ _, _, _, _, _⟩) (by rfl) (fun K hK => ?_) ?_
  · go_simp
    refine hK _ _ ?_
    exact kyB_1111111111110 hQ hKK hkl hml HL HQ hB b g2
  exact AllReady.nil
set_option maxRecDepth 100000 in
theorem kyB_1111111111000 {Q : Exit → Act → World → Prop} {key m H : List UInt8} {n g1 : Nat} {w : World} {x2 x3 x4 x5 x6 x9 x11 x12 x13 x14 x15 x16 x17 x18 x19 x20 x21 x22 x23 x24 x25 x26 x27 x28 x29 x30 x31 x32 x33 x34 x35 x36 x37 x38 x39 x40 x41 x42 x43 x44 x45 x46 x47 x48 x49 x50 x51 x52 x53 x54 x55 x56 : Value} (hQ : KyBQ Q key m H n g1 w x2 x3 x4 x5 x6 x9 x11 x12 x13 x14 x15 x16 x17 x18 x19 x20 x21 x22 x23 x24 x25 x26 x27 x28 x29 x30 x31 x32 x33 x34 x35 x36 x37 x38 x39 x40 x41 x42 x43 x44 x45 x46 x47 x48 x49 x50 x51 x52 x53 x54 x55 x56) (hKK : ∀ X, Below w.heap.size w X → KK X) (hkl : key.length + n ≤ 64) (hml : m.length ≤ 400) (HL : H.length = 32) (HQ : hmac (key ++ zerosL n) m = H) {X : World} (hB : Blk X g1 24 (H.map B8)) (b : Below w.heap.size w X) (g2 : Nat) :
    wpAny Tryd.prog .any kyBOps Q 3 #[true, true, true, true, true, true, true, true, true, true, false, false, false] ⟨#[.string ⟨key.toArray⟩, .string ⟨m.toArray⟩, x2, x3, x4, x5, x6, .bool true, .pointer (some ⟨g1, 0, none⟩), x9, .int .i64 (n : Int), x11, x12, x13, x14, x15, x16, x17, x18, x19, x20, x21, x22, x23, x24, x25, x26, x27, x28, x29, x30, x31, x32, x33, x34, x35, x36, x37, x38, x39, x40, x41, x42, x43, x44, .bool true, .bool true, .agg (H.map B8).toArray, .string ⟨key.toArray⟩, .int .i64 (n : Int), .slice (some ⟨g2, 0, none⟩) n n, .string ⟨(zerosL n).toArray⟩, .string ⟨(key ++ zerosL n).toArray⟩, .string ⟨m.toArray⟩, .agg (H.map B8).toArray, x55, x56], []⟩ X := by
  refine wpAny_ready (rs := [10]) (by kernel_rfl) (by simp) ?_
  refine AllReady.cons (o := ⟨some 55, .binOp _ _ _ _ _, _, _, _, _⟩) (by rfl) (fun K hK => ?_) ?_
  · rw [if_pos (by rfl)]
    refine wp_val (exec_cmp_agg .eql 24 24 (.tmp 47) (.tmp 54) (by rfl) (H.map B8).toArray (H.map B8).toArray (by rfl) (by rfl) eqm32 (.bool true) _ ((eql32 _ H H HL HL).trans (by rw [beq_self_eq_true]))) ?_
    refine hK _ _ ?_
    exact kyB_1111111111100 hQ hKK hkl hml HL HQ hB b g2
  exact AllReady.nil
set_option maxRecDepth 100000 in
theorem kyB_1111111110000 {Q : Exit → Act → World → Prop} {key m H : List UInt8} {n g1 : Nat} {w : World} {x2 x3 x4 x5 x6 x9 x11 x12 x13 x14 x15 x16 x17 x18 x19 x20 x21 x22 x23 x24 x25 x26 x27 x28 x29 x30 x31 x32 x33 x34 x35 x36 x37 x38 x39 x40 x41 x42 x43 x44 x45 x46 x47 x48 x49 x50 x51 x52 x53 x54 x55 x56 : Value} (hQ : KyBQ Q key m H n g1 w x2 x3 x4 x5 x6 x9 x11 x12 x13 x14 x15 x16 x17 x18 x19 x20 x21 x22 x23 x24 x25 x26 x27 x28 x29 x30 x31 x32 x33 x34 x35 x36 x37 x38 x39 x40 x41 x42 x43 x44 x45 x46 x47 x48 x49 x50 x51 x52 x53 x54 x55 x56) (hKK : ∀ X, Below w.heap.size w X → KK X) (hkl : key.length + n ≤ 64) (hml : m.length ≤ 400) (HL : H.length = 32) (HQ : hmac (key ++ zerosL n) m = H) {X : World} (hB : Blk X g1 24 (H.map B8)) (b : Below w.heap.size w X) (g2 : Nat) :
    wpAny Tryd.prog .any kyBOps Q 4 #[true, true, true, true, true, true, true, true, true, false, false, false, false] ⟨#[.string ⟨key.toArray⟩, .string ⟨m.toArray⟩, x2, x3, x4, x5, x6, .bool true, .pointer (some ⟨g1, 0, none⟩), x9, .int .i64 (n : Int), x11, x12, x13, x14, x15, x16, x17, x18, x19, x20, x21, x22, x23, x24, x25, x26, x27, x28, x29, x30, x31, x32, x33, x34, x35, x36, x37, x38, x39, x40, x41, x42, x43, x44, .bool true, .bool true, .agg (H.map B8).toArray, .string ⟨key.toArray⟩, .int .i64 (n : Int), .slice (some ⟨g2, 0, none⟩) n n, .string ⟨(zerosL n).toArray⟩, .string ⟨(key ++ zerosL n).toArray⟩, .string ⟨m.toArray⟩, x54, x55, x56], []⟩ X := by
  refine wpAny_ready (rs := [9]) (by kernel_rfl) (by simp) ?_
  refine AllReady.cons (o := ⟨some 54, .call _, _, _, _, _⟩) (by rfl) (fun K hK => ?_) ?_
  · rw [if_pos (by rfl)]
    go_simp
    refine (hmacC (key ++ zerosL n) m _ (by rw [List.length_append, zerosL_len]; omega) (by omega) (hKK _ b)).mono ?_
    rintro e w1 ⟨rfl, hb1⟩
    rw [HQ]
    refine hK _ _ ?_
    exact kyB_1111111111000 hQ hKK hkl hml HL HQ (hB.bel hb1) (bel_next b hb1) g2
  exact AllReady.nil
set_option maxRecDepth 100000 in
theorem kyB_1101111111000 {Q : Exit → Act → World → Prop} {key m H : List UInt8} {n g1 : Nat} {w : World} {x2 x3 x4 x5 x6 x9 x11 x12 x13 x14 x15 x16 x17 x18 x19 x20 x21 x22 x23 x24 x25 x26 x27 x28 x29 x30 x31 x32 x33 x34 x35 x36 x37 x38 x39 x40 x41 x42 x43 x44 x45 x46 x47 x48 x49 x50 x51 x52 x53 x54 x55 x56 : Value} (hQ : KyBQ Q key m H n g1 w x2 x3 x4 x5 x6 x9 x11 x12 x13 x14 x15 x16 x17 x18 x19 x20 x21 x22 x23 x24 x25 x26 x27 x28 x29 x30 x31 x32 x33 x34 x35 x36 x37 x38 x39 x40 x41 x42 x43 x44 x45 x46 x47 x48 x49 x50 x51 x52 x53 x54 x55 x56) (hKK : ∀ X, Below w.heap.size w X → KK X) (hkl : key.length + n ≤ 64) (hml : m.length ≤ 400) (HL : H.length = 32) (HQ : hmac (key ++ zerosL n) m = H) {X : World} (hB : Blk X g1 24 (H.map B8)) (b : Below w.heap.size w X) (g2 : Nat) :
    wpAny Tryd.prog .any kyBOps Q 4 #[true, true, false, true, true, true, true, true, true, true, false, false, false] ⟨#[.string ⟨key.toArray⟩, .string ⟨m.toArray⟩, x2, x3, x4, x5, x6, .bool true, .pointer (some ⟨g1, 0, none⟩), x9, .int .i64 (n : Int), x11, x12, x13, x14, x15, x16, x17, x18, x19, x20, x21, x22, x23, x24, x25, x26, x27, x28, x29, x30, x31, x32, x33, x34, x35, x36, x37, x38, x39, x40, x41, x42, x43, x44, .bool true, .bool true, x47, .string ⟨key.toArray⟩, .int .i64 (n : Int), .slice (some ⟨g2, 0, none⟩) n n, .string ⟨(zerosL n).toArray⟩, .string ⟨(key ++ zerosL n).toArray⟩, .string ⟨m.toArray⟩, .agg (H.map B8).toArray, x55, x56], []⟩ X := by
  refine wpAny_ready (rs := [2]) (by kernel_rfl) (by simp) ?_
  refine AllReady.cons (o := ⟨some 47, .load _ _, _, _, _, _⟩) (by rfl) (fun K hK => ?_) ?_
  · rw [if_pos (by rfl)]
    refine wp_load_agg (x := .tmp 8) (ty := 24) (by rfl) (by rfl) (run_load32 hB HL) ?_
    refine hK _ _ ?_
    exact kyB_1111111111000 hQ hKK hkl hml HL HQ hB b g2
  exact AllReady.nil
set_option maxRecDepth 100000 in
theorem kyB_1111111010000 {Q : Exit → Act → World → Prop} {key m H : List UInt8} {n g1 : Nat} {w : World} {x2 x3 x4 x5 x6 x9 x11 x12 x13 x14 x15 x16 x17 x18 x19 x20 x21 x22 x23 x24 x25 x26 x27 x28 x29 x30 x31 x32 x33 x34 x35 x36 x37 x38 x39 x40 x41 x42 x43 x44 x45 x46 x47 x48 x49 x50 x51 x52 x53 x54 x55 x56 : Value} (hQ : KyBQ Q key m H n g1 w x2 x3 x4 x5 x6 x9 x11 x12 x13 x14 x15 x16 x17 x18 x19 x20 x21 x22 x23 x24 x25 x26 x27 x28 x29 x30 x31 x32 x33 x34 x35 x36 x37 x38 x39 x40 x41 x42 x43 x44 x45 x46 x47 x48 x49 x50 x51 x52 x53 x54 x55 x56) (hKK : ∀ X, Below w.heap.size w X → KK X) (hkl : key.length + n ≤ 64) (hml : m.length ≤ 400) (HL : H.length = 32) (HQ : hmac (key ++ zerosL n) m = H) {X : World} (hB : Blk X g1 24 (H.map B8)) (b : Below w.heap.size w X) (g2 : Nat) :
    wpAny Tryd.prog .any kyBOps Q 5 #[true, true, true, true, true, true, true, false, true, false, false, false, false] ⟨#[.string ⟨key.toArray⟩, .string ⟨m.toArray⟩, x2, x3, x4, x5, x6, .bool true, .pointer (some ⟨g1, 0, none⟩), x9, .int .i64 (n : Int), x11, x12, x13, x14, x15, x16, x17, x18, x19, x20, x21, x22, x23, x24, x25, x26, x27, x28, x29, x30, x31, x32, x33, x34, x35, x36, x37, x38, x39, x40, x41, x42, x43, x44, .bool true, .bool true, .agg (H.map B8).toArray, .string ⟨key.toArray⟩, .int .i64 (n : Int), .slice (some ⟨g2, 0, none⟩) n n, .string ⟨(zerosL n).toArray⟩, x52, .string ⟨m.toArray⟩, x54, x55, x56], []⟩ X := by
  refine wpAny_ready (rs := [7]) (by kernel_rfl) (by simp) ?_
  refine AllReady.cons (o := ⟨some 52, .binOp _ _ _ _ _, _, _, _, _⟩) (by rfl) (fun K hK => ?_) ?_
  · rw [if_pos (by rfl)]
    refine wp_bin .add 9 _ (.tmp 48) (.tmp 51) (by rfl) (.string ⟨key.toArray⟩) (.string ⟨(zerosL n).toArray⟩) (.string ⟨(key ++ zerosL n).toArray⟩) (by rfl) (by rfl) (fun _ => rfl) (run_cat key (zerosL n) (by rw [zerosL_len]; omega)) ?_
    refine hK _ _ ?_
    exact kyB_1111111110000 hQ hKK hkl hml HL HQ hB b g2
  exact AllReady.nil
set_option maxRecDepth 100000 in
theorem kyB_1101111110000 {Q : Exit → Act → World → Prop} {key m H : List UInt8} {n g1 : Nat} {w : World} {x2 x3 x4 x5 x6 x9 x11 x12 x13 x14 x15 x16 x17 x18 x19 x20 x21 x22 x23 x24 x25 x26 x27 x28 x29 x30 x31 x32 x33 x34 x35 x36 x37 x38 x39 x40 x41 x42 x43 x44 x45 x46 x47 x48 x49 x50 x51 x52 x53 x54 x55 x56 : Value} (hQ : KyBQ Q key m H n g1 w x2 x3 x4 x5 x6 x9 x11 x12 x13 x14 x15 x16 x17 x18 x19 x20 x21 x22 x23 x24 x25 x26 x27 x28 x29 x30 x31 x32 x33 x34 x35 x36 x37 x38 x39 x40 x41 x42 x43 x44 x45 x46 x47 x48 x49 x50 x51 x52 x53 x54 x55 x56) (hKK : ∀ X, Below w.heap.size w X → KK X) (hkl : key.length + n ≤ 64) (hml : m.length ≤ 400) (HL : H.length = 32) (HQ : hmac (key ++ zerosL n) m = H) {X : World} (hB : Blk X g1 24 (H.map B8)) (b : Below w.heap.size w X) (g2 : Nat) :
    wpAny Tryd.prog .any kyBOps Q 5 #[true, true, false, true, true, true, true, true, true, false, false, false, false] ⟨#[.string ⟨key.toArray⟩, .string ⟨m.toArray⟩, x2, x3, x4, x5, x6, .bool true, .pointer (some ⟨g1, 0, none⟩), x9, .int .i64 (n : Int), x11, x12, x13, x14, x15, x16, x17, x18, x19, x20, x21, x22, x23, x24, x25, x26, x27, x28, x29, x30, x31, x32, x33, x34, x35, x36, x37, x38, x39, x40, x41, x42, x43, x44, .bool true, .bool true, x47, .string ⟨key.toArray⟩, .int .i64 (n : Int), .slice (some ⟨g2, 0, none⟩) n n, .string ⟨(zerosL n).toArray⟩, .string ⟨(key ++ zerosL n).toArray⟩, .string ⟨m.toArray⟩, x54, x55, x56], []⟩ X := by
  refine wpAny_ready (rs := [2, 9]) (by kernel_rfl) (by simp) ?_
  refine AllReady.cons (o := ⟨some 47, .load _ _, _, _, _, _⟩) (by rfl) (fun K hK => ?_) ?_
  · rw [if_pos (by rfl)]
    refine wp_load_agg (x := .tmp 8) (ty := 24) (by rfl) (by rfl) (run_load32 hB HL) ?_
    refine hK _ _ ?_
    exact kyB_1111111110000 hQ hKK hkl hml HL HQ hB b g2
  refine AllReady.cons (o := ⟨some 54, .call _, _, _, _, _⟩) (by rfl) (fun K hK => ?_) ?_
  · rw [if_pos (by rfl)]
    go_simp
    refine (hmacC (key ++ zerosL n) m _ (by rw [List.length_append, zerosL_len]; omega) (by omega) (hKK _ b)).mono ?_
    rintro e w1 ⟨rfl, hb1⟩
    rw [HQ]
    refine hK _ _ ?_
    exact kyB_1101111111000 hQ hKK hkl hml HL HQ (hB.bel hb1) (bel_next b hb1) g2
  exact AllReady.nil
set_option maxRecDepth 100000 in
theorem kyB_1111110010000 {Q : Exit → Act → World → Prop} {key m H : List UInt8} {n g1 : Nat} {w : World} {x2 x3 x4 x5 x6 x9 x11 x12 x13 x14 x15 x16 x17 x18 x19 x20 x21 x22 x23 x24 x25 x26 x27 x28 x29 x30 x31 x32 x33 x34 x35 x36 x37 x38 x39 x40 x41 x42 x43 x44 x45 x46 x47 x48 x49 x50 x51 x52 x53 x54 x55 x56 : Value} (hQ : KyBQ Q key m H n g1 w x2 x3 x4 x5 x6 x9 x11 x12 x13 x14 x15 x16 x17 x18 x19 x20 x21 x22 x23 x24 x25 x26 x27 x28 x29 x30 x31 x32 x33 x34 x35 x36 x37 x38 x39 x40 x41 x42 x43 x44 x45 x46 x47 x48 x49 x50 x51 x52 x53 x54 x55 x56) (hKK : ∀ X, Below w.heap.size w X → KK X) (hkl : key.length + n ≤ 64) (hml : m.length ≤ 400) (HL : H.length = 32) (HQ : hmac (key ++ zerosL n) m = H) {X : World} (hB : Blk X g1 24 (H.map B8)) (b : Below w.heap.size w X) (g2 : Nat) (hZ : Blk X g2 5 ((zerosL n).map B8)) :
    wpAny Tryd.prog .any kyBOps Q 6 #[true, true, true, true, true, true, false, false, true, false, false, false, false] ⟨#[.string ⟨key.toArray⟩, .string ⟨m.toArray⟩, x2, x3, x4, x5, x6, .bool true, .pointer (some ⟨g1, 0, none⟩), x9, .int .i64 (n : Int), x11, x12, x13, x14, x15, x16, x17, x18, x19, x20, x21, x22, x23, x24, x25, x26, x27, x28, x29, x30, x31, x32, x33, x34, x35, x36, x37, x38, x39, x40, x41, x42, x43, x44, .bool true, .bool true, .agg (H.map B8).toArray, .string ⟨key.toArray⟩, .int .i64 (n : Int), .slice (some ⟨g2, 0, none⟩) n n, x51, x52, .string ⟨m.toArray⟩, x54, x55, x56], []⟩ X := by
  refine wpAny_ready (rs := [6]) (by kernel_rfl) (by simp) ?_
  refine AllReady.cons (o := ⟨some 51, .convert _ _ _, _, _, _, _⟩) (by rfl) (fun K hK => ?_) ?_
  · rw [if_pos (by rfl)]
    have hs1 := run_str 22 9 5 Tryd.underlying22 Tryd.underlying5 Tryd.underlying9 (Rd.of_cl (n := n) (c := n) hZ.cl hZ.lt (by rw [List.length_map, zerosL_len]) (Nat.le_refl _) (by unfold maxLen; omega))
    go_simp
    refine hK _ _ ?_
    exact kyB_1111111010000 hQ hKK hkl hml HL HQ hB b g2
  exact AllReady.nil
set_option maxRecDepth 100000 in
theorem kyB_1101111010000 {Q : Exit → Act → World → Prop} {key m H : List UInt8} {n g1 : Nat} {w : World} {x2 x3 x4 x5 x6 x9 x11 x12 x13 x14 x15 x16 x17 x18 x19 x20 x21 x22 x23 x24 x25 x26 x27 x28 x29 x30 x31 x32 x33 x34 x35 x36 x37 x38 x39 x40 x41 x42 x43 x44 x45 x46 x47 x48 x49 x50 x51 x52 x53 x54 x55 x56 : Value} (hQ : KyBQ Q key m H n g1 w x2 x3 x4 x5 x6 x9 x11 x12 x13 x14 x15 x16 x17 x18 x19 x20 x21 x22 x23 x24 x25 x26 x27 x28 x29 x30 x31 x32 x33 x34 x35 x36 x37 x38 x39 x40 x41 x42 x43 x44 x45 x46 x47 x48 x49 x50 x51 x52 x53 x54 x55 x56) (hKK : ∀ X, Below w.heap.size w X → KK X) (hkl : key.length + n ≤ 64) (hml : m.length ≤ 400) (HL : H.length = 32) (HQ : hmac (key ++ zerosL n) m = H) {X : World} (hB : Blk X g1 24 (H.map B8)) (b : Below w.heap.size w X) (g2 : Nat) :
    wpAny Tryd.prog .any kyBOps Q 6 #[true, true, false, true, true, true, true, false, true, false, false, false, false] ⟨#[.string ⟨key.toArray⟩, .string ⟨m.toArray⟩, x2, x3, x4, x5, x6, .bool true, .pointer (some ⟨g1, 0, none⟩), x9, .int .i64 (n : Int), x11, x12, x13, x14, x15, x16, x17, x18, x19, x20, x21, x22, x23, x24, x25, x26, x27, x28, x29, x30, x31, x32, x33, x34, x35, x36, x37, x38, x39, x40, x41, x42, x43, x44, .bool true, .bool true, x47, .string ⟨key.toArray⟩, .int .i64 (n : Int), .slice (some ⟨g2, 0, none⟩) n n, .string ⟨(zerosL n).toArray⟩, x52, .string ⟨m.toArray⟩, x54, x55, x56], []⟩ X := by
  refine wpAny_ready (rs := [2, 7]) (by kernel_rfl) (by simp) ?_
  refine AllReady.cons (o := ⟨some 47, .load _ _, _, _, _, _⟩) (by rfl) (fun K hK => ?_) ?_
  · rw [if_pos (by rfl)]
    refine wp_load_agg (x := .tmp 8) (ty := 24) (by rfl) (by rfl) (run_load32 hB HL) ?_
    refine hK _ _ ?_
    exact kyB_1111111010000 hQ hKK hkl hml HL HQ hB b g2
  refine AllReady.cons (o := ⟨some 52, .binOp _ _ _ _ _, _, _, _, _⟩) (by rfl) (fun K hK => ?_) ?_
  · rw [if_pos (by rfl)]
    refine wp_bin .add 9 _ (.tmp 48) (.tmp 51) (by rfl) (.string ⟨key.toArray⟩) (.string ⟨(zerosL n).toArray⟩) (.string ⟨(key ++ zerosL n).toArray⟩) (by rfl) (by rfl) (fun _ => rfl) (run_cat key (zerosL n) (by rw [zerosL_len]; omega)) ?_
    refine hK _ _ ?_
    exact kyB_1101111110000 hQ hKK hkl hml HL HQ hB b g2
  exact AllReady.nil
set_option maxRecDepth 100000 in
theorem kyB_1111100010000 {Q : Exit → Act → World → Prop} {key m H : List UInt8} {n g1 : Nat} {w : World} {x2 x3 x4 x5 x6 x9 x11 x12 x13 x14 x15 x16 x17 x18 x19 x20 x21 x22 x23 x24 x25 x26 x27 x28 x29 x30 x31 x32 x33 x34 x35 x36 x37 x38 x39 x40 x41 x42 x43 x44 x45 x46 x47 x48 x49 x50 x51 x52 x53 x54 x55 x56 : Value} (hQ : KyBQ Q key m H n g1 w x2 x3 x4 x5 x6 x9 x11 x12 x13 x14 x15 x16 x17 x18 x19 x20 x21 x22 x23 x24 x25 x26 x27 x28 x29 x30 x31 x32 x33 x34 x35 x36 x37 x38 x39 x40 x41 x42 x43 x44 x45 x46 x47 x48 x49 x50 x51 x52 x53 x54 x55 x56) (hKK : ∀ X, Below w.heap.size w X → KK X) (hkl : key.length + n ≤ 64) (hml : m.length ≤ 400) (HL : H.length = 32) (HQ : hmac (key ++ zerosL n) m = H) {X : World} (hB : Blk X g1 24 (H.map B8)) (b : Below w.heap.size w X) :
    wpAny Tryd.prog .any kyBOps Q 7 #[true, true, true, true, true, false, false, false, true, false, false, false, false] ⟨#[.string ⟨key.toArray⟩, .string ⟨m.toArray⟩, x2, x3, x4, x5, x6, .bool true, .pointer (some ⟨g1, 0, none⟩), x9, .int .i64 (n : Int), x11, x12, x13, x14, x15, x16, x17, x18, x19, x20, x21, x22, x23, x24, x25, x26, x27, x28, x29, x30, x31, x32, x33, x34, x35, x36, x37, x38, x39, x40, x41, x42, x43, x44, .bool true, .bool true, .agg (H.map B8).toArray, .string ⟨key.toArray⟩, .int .i64 (n : Int), x50, x51, x52, .string ⟨m.toArray⟩, x54, x55, x56], []⟩ X := by
  refine wpAny_ready (rs := [5]) (by kernel_rfl) (by simp) ?_
  refine AllReady.cons (o := ⟨some 50, .makeSlice _ _ _, _, _, _, _⟩) (by rfl) (fun K hK => ?_) ?_
  · rw [if_pos (by rfl)]
    have hmk := make8 n (by omega)
    go_simp
    refine hK _ _ ?_
    exact kyB_1111110010000 hQ hKK hkl hml HL HQ (hB.alloc _) (bel_alloc b _) _ (Blk.new rfl)
  exact AllReady.nil
set_option maxRecDepth 100000 in
theorem kyB_1101110010000 {Q : Exit → Act → World → Prop} {key m H : List UInt8} {n g1 : Nat} {w : World} {x2 x3 x4 x5 x6 x9 x11 x12 x13 x14 x15 x16 x17 x18 x19 x20 x21 x22 x23 x24 x25 x26 x27 x28 x29 x30 x31 x32 x33 x34 x35 x36 x37 x38 x39 x40 x41 x42 x43 x44 x45 x46 x47 x48 x49 x50 x51 x52 x53 x54 x55 x56 : Value} (hQ : KyBQ Q key m H n g1 w x2 x3 x4 x5 x6 x9 x11 x12 x13 x14 x15 x16 x17 x18 x19 x20 x21 x22 x23 x24 x25 x26 x27 x28 x29 x30 x31 x32 x33 x34 x35 x36 x37 x38 x39 x40 x41 x42 x43 x44 x45 x46 x47 x48 x49 x50 x51 x52 x53 x54 x55 x56) (hKK : ∀ X, Below w.heap.size w X → KK X) (hkl : key.length + n ≤ 64) (hml : m.length ≤ 400) (HL : H.length = 32) (HQ : hmac (key ++ zerosL n) m = H) {X : World} (hB : Blk X g1 24 (H.map B8)) (b : Below w.heap.size w X) (g2 : Nat) (hZ : Blk X g2 5 ((zerosL n).map B8)) :
    wpAny Tryd.prog .any kyBOps Q 7 #[true, true, false, true, true, true, false, false, true, false, false, false, false] ⟨#[.string ⟨key.toArray⟩, .string ⟨m.toArray⟩, x2, x3, x4, x5, x6, .bool true, .pointer (some ⟨g1, 0, none⟩), x9, .int .i64 (n : Int), x11, x12, x13, x14, x15, x16, x17, x18, x19, x20, x21, x22, x23, x24, x25, x26, x27, x28, x29, x30, x31, x32, x33, x34, x35, x36, x37, x38, x39, x40, x41, x42, x43, x44, .bool true, .bool true, x47, .string ⟨key.toArray⟩, .int .i64 (n : Int), .slice (some ⟨g2, 0, none⟩) n n, x51, x52, .string ⟨m.toArray⟩, x54, x55, x56], []⟩ X := by
  refine wpAny_ready (rs := [2, 6]) (by kernel_rfl) (by simp) ?_
  refine AllReady.cons (o := ⟨some 47, .load _ _, _, _, _, _⟩) (by rfl) (fun K hK => ?_) ?_
  · rw [if_pos (by rfl)]
    refine wp_load_agg (x := .tmp 8) (ty := 24) (by rfl) (by rfl) (run_load32 hB HL) ?_
    refine hK _ _ ?_
    exact kyB_1111110010000 hQ hKK hkl hml HL HQ hB b g2 hZ
  refine AllReady.cons (o := ⟨some 51, .convert _ _ _, _, _, _, _⟩) (by rfl) (fun K hK => ?_) ?_
  · rw [if_pos (by rfl)]
    have hs1 := run_str 22 9 5 Tryd.underlying22 Tryd.underlying5 Tryd.underlying9 (Rd.of_cl (n := n) (c := n) hZ.cl hZ.lt (by rw [List.length_map, zerosL_len]) (Nat.le_refl _) (by unfold maxLen; omega))
    go_simp
    refine hK _ _ ?_
    exact kyB_1101111010000 hQ hKK hkl hml HL HQ hB b g2
  exact AllReady.nil
set_option maxRecDepth 100000 in
theorem kyB_1101100010000 {Q : Exit → Act → World → Prop} {key m H : List UInt8} {n g1 : Nat} {w : World} {x2 x3 x4 x5 x6 x9 x11 x12 x13 x14 x15 x16 x17 x18 x19 x20 x21 x22 x23 x24 x25 x26 x27 x28 x29 x30 x31 x32 x33 x34 x35 x36 x37 x38 x39 x40 x41 x42 x43 x44 x45 x46 x47 x48 x49 x50 x51 x52 x53 x54 x55 x56 : Value} (hQ : KyBQ Q key m H n g1 w x2 x3 x4 x5 x6 x9 x11 x12 x13 x14 x15 x16 x17 x18 x19 x20 x21 x22 x23 x24 x25 x26 x27 x28 x29 x30 x31 x32 x33 x34 x35 x36 x37 x38 x39 x40 x41 x42 x43 x44 x45 x46 x47 x48 x49 x50 x51 x52 x53 x54 x55 x56) (hKK : ∀ X, Below w.heap.size w X → KK X) (hkl : key.length + n ≤ 64) (hml : m.length ≤ 400) (HL : H.length = 32) (HQ : hmac (key ++ zerosL n) m = H) {X : World} (hB : Blk X g1 24 (H.map B8)) (b : Below w.heap.size w X) :
    wpAny Tryd.prog .any kyBOps Q 8 #[true, true, false, true, true, false, false, false, true, false, false, false, false] ⟨#[.string ⟨key.toArray⟩, .string ⟨m.toArray⟩, x2, x3, x4, x5, x6, .bool true, .pointer (some ⟨g1, 0, none⟩), x9, .int .i64 (n : Int), x11, x12, x13, x14, x15, x16, x17, x18, x19, x20, x21, x22, x23, x24, x25, x26, x27, x28, x29, x30, x31, x32, x33, x34, x35, x36, x37, x38, x39, x40, x41, x42, x43, x44, .bool true, .bool true, x47, .string ⟨key.toArray⟩, .int .i64 (n : Int), x50, x51, x52, .string ⟨m.toArray⟩, x54, x55, x56], []⟩ X := by
  refine wpAny_ready (rs := [2, 5]) (by kernel_rfl) (by simp) ?_
  refine AllReady.cons (o := ⟨some 47, .load _ _, _, _, _, _⟩) (by rfl) (fun K hK => ?_) ?_
  · rw [if_pos (by rfl)]
    refine wp_load_agg (x := .tmp 8) (ty := 24) (by rfl) (by rfl) (run_load32 hB HL) ?_
    refine hK _ _ ?_
    exact kyB_1111100010000 hQ hKK hkl hml HL HQ hB b
  refine AllReady.cons (o := ⟨some 50, .makeSlice _ _ _, _, _, _, _⟩) (by rfl) (fun K hK => ?_) ?_
  · rw [if_pos (by rfl)]
    have hmk := make8 n (by omega)
    go_simp
    refine hK _ _ ?_
    exact kyB_1101110010000 hQ hKK hkl hml HL HQ (hB.alloc _) (bel_alloc b _) _ (Blk.new rfl)
  exact AllReady.nil
end Go.Proofs.YtmmomcililideaaDoor
