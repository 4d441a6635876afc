/-
  HashSumMatchesSpec's last row: its operations in whatever order; the walk.
-/
import Derived.Test.YtmmomcililideaaDoorKeys2
import Derived.Test.YtmmomcililideaaDoorWk02l
set_option linter.unusedSimpArgs false
set_option linter.unusedVariables false
namespace Go.Proofs.YtmmomcililideaaDoor
open Go.RowKit

/-- The operations of a region, found in a function's own code. -/
def suBOpsAt (n : Nat) : Code → Option (Array Oper)
  | .region i o _ => if i = n then some o else none
  | .seq a b => match suBOpsAt n a with
    | some o => some o
    | none => suBOpsAt n b
  | .cond _ a b => match suBOpsAt n a with
    | some o => some o
    | none => suBOpsAt n b
  | .block _ c => suBOpsAt n c
  | .loop c => suBOpsAt n c
  | .scope c => suBOpsAt n c
  | _ => none
noncomputable def suBOps : Array Oper := match Tryd.f3.body with
  | some c => (suBOpsAt 6 c).getD #[]
  | none => #[]
def SuBQ (Q : Exit → Act → World → Prop) (l H : List UInt8) (A : Option Addr) (n c g1 : Nat) (w : World) (x1 x2 x6 x7 x8 x9 x10 x11 x12 x13 x14 x15 x16 x17 x18 x19 x20 x21 x22 x23 x24 x25 x26 x27 x28 : Value) : Prop := ∀ (g19 c19 : Nat) (X : World), Below w.heap.size w X → Q .normal ⟨#[.slice A n c, x1, .bool true, .bool true, .string ⟨l.toArray⟩, .pointer (some ⟨g1, 0, none⟩), x6, x7, x8, x9, x10, x11, x12, x13, x14, .bool true, .bool true, .agg (H.map B8).toArray, .string ⟨l.toArray⟩, .slice (some ⟨g19, 0, none⟩) l.length c19, .agg (H.map B8).toArray, .bool true, .bool true, .bool true, .slice A n c, .string ⟨l.toArray⟩, .string ⟨l.toArray⟩, .bool true, .bool true], []⟩ X
set_option maxRecDepth 100000 in
theorem suB_111111111111110 {Q : Exit → Act → World → Prop} {l H : List UInt8} {A : Option Addr} {n c g1 : Nat} {w : World} {x1 x2 x6 x7 x8 x9 x10 x11 x12 x13 x14 x15 x16 x17 x18 x19 x20 x21 x22 x23 x24 x25 x26 x27 x28 : Value} (hQ : SuBQ Q l H A n c g1 w x1 x2 x6 x7 x8 x9 x10 x11 x12 x13 x14 x15 x16 x17 x18 x19 x20 x21 x22 x23 x24 x25 x26 x27 x28) (hKK : ∀ X, Below w.heap.size w X → KK0 X) (hll : l.length ≤ 600) (HL : H.length = 32) (HQ : sha l = H) {X : World} (hB : Blk X g1 24 (H.map B8)) (hR : Rd X 1 (.slice A n c) n (l.map B8)) (b : Below w.heap.size w X) (g19 : Nat) (c19 : Nat) :
    wpAny Tryd.prog .any suBOps Q 1 #[true, true, true, true, true, true, true, true, true, true, true, true, true, true, false] ⟨#[.slice A n c, x1, x2, .bool true, .string ⟨l.toArray⟩, .pointer (some ⟨g1, 0, none⟩), x6, x7, x8, x9, x10, x11, x12, x13, x14, .bool true, .bool true, .agg (H.map B8).toArray, .string ⟨l.toArray⟩, .slice (some ⟨g19, 0, none⟩) l.length c19, .agg (H.map B8).toArray, .bool true, .bool true, .bool true, .slice A n c, .string ⟨l.toArray⟩, .string ⟨l.toArray⟩, .bool true, .bool true], []⟩ X := by
  refine wpAny_ready (rs := [14]) (by kernel_rfl) (by simp) ?_
  refine AllReady.cons (o := ⟨some 2, .assign _, _, _, _, _⟩) (by rfl) (fun K hK => ?_) ?_
  · go_simp
    refine hK _ _ ?_
    refine wpAny_done (by kernel_rfl) ?_ _
    exact hQ g19 c19 _ b
  exact AllReady.nil
set_option maxRecDepth 100000 in
theorem suB_111111111111100 {Q : Exit → Act → World → Prop} {l H : List UInt8} {A : Option Addr} {n c g1 : Nat} {w : World} {x1 x2 x6 x7 x8 x9 x10 x11 x12 x13 x14 x15 x16 x17 x18 x19 x20 x21 x22 x23 x24 x25 x26 x27 x28 : Value} (hQ : SuBQ Q l H A n c g1 w x1 x2 x6 x7 x8 x9 x10 x11 x12 x13 x14 x15 x16 x17 x18 x19 x20 x21 x22 x23 x24 x25 x26 x27 x28) (hKK : ∀ X, Below w.heap.size w X → KK0 X) (hll : l.length ≤ 600) (HL : H.length = 32) (HQ : sha l = H) {X : World} (hB : Blk X g1 24 (H.map B8)) (hR : Rd X 1 (.slice A n c) n (l.map B8)) (b : Below w.heap.size w X) (g19 : Nat) (c19 : Nat) :
    wpAny Tryd.prog .any suBOps Q 2 #[true, true, true, true, true, true, true, true, true, true, true, true, true, false, false] ⟨#[.slice A n c, x1, x2, .bool true, .string ⟨l.toArray⟩, .pointer (some ⟨g1, 0, none⟩), x6, x7, x8, x9, x10, x11, x12, x13, x14, .bool true, .bool true, .agg (H.map B8).toArray, .string ⟨l.toArray⟩, .slice (some ⟨g19, 0, none⟩) l.length c19, .agg (H.map B8).toArray, .bool true, .bool true, .bool true, .slice A n c, .string ⟨l.toArray⟩, .string ⟨l.toArray⟩, .bool true, x28], []⟩ X := by
  refine wpAny_ready (rs := [13]) (by kernel_rfl) (by simp) ?_
  refine AllReady.cons (o := ⟨some 28, .pick _ _ _, _, _, _, _⟩) (by rfl) (fun K hK => ?_) ?_
  · go_simp
    refine hK _ _ ?_
    exact suB_111111111111110 hQ hKK hll HL HQ hB hR b g19 c19
  exact AllReady.nil
set_option maxRecDepth 100000 in
theorem suB_111111111111000 {Q : Exit → Act → World → Prop} {l H : List UInt8} {A : Option Addr} {n c g1 : Nat} {w : World} {x1 x2 x6 x7 x8 x9 x10 x11 x12 x13 x14 x15 x16 x17 x18 x19 x20 x21 x22 x23 x24 x25 x26 x27 x28 : Value} (hQ : SuBQ Q l H A n c g1 w x1 x2 x6 x7 x8 x9 x10 x11 x12 x13 x14 x15 x16 x17 x18 x19 x20 x21 x22 x23 x24 x25 x26 x27 x28) (hKK : ∀ X, Below w.heap.size w X → KK0 X) (hll : l.length ≤ 600) (HL : H.length = 32) (HQ : sha l = H) {X : World} (hB : Blk X g1 24 (H.map B8)) (hR : Rd X 1 (.slice A n c) n (l.map B8)) (b : Below w.heap.size w X) (g19 : Nat) (c19 : Nat) :
    wpAny Tryd.prog .any suBOps Q 3 #[true, true, true, true, true, true, true, true, true, true, true, true, false, false, false] ⟨#[.slice A n c, x1, x2, .bool true, .string ⟨l.toArray⟩, .pointer (some ⟨g1, 0, none⟩), x6, x7, x8, x9, x10, x11, x12, x13, x14, .bool true, .bool true, .agg (H.map B8).toArray, .string ⟨l.toArray⟩, .slice (some ⟨g19, 0, none⟩) l.length c19, .agg (H.map B8).toArray, .bool true, .bool true, .bool true, .slice A n c, .string ⟨l.toArray⟩, .string ⟨l.toArray⟩, x27, x28], []⟩ X := by
  refine wpAny_ready (rs := [12]) (by kernel_rfl) (by simp) ?_
  refine AllReady.cons (o := ⟨some 27, .binOp _ _ _ _ _, _, _, _, _⟩) (by rfl) (fun K hK => ?_) ?_
  · rw [if_pos (by rfl)]
    go_simp
    refine hK _ _ ?_
    exact suB_111111111111100 hQ hKK hll HL HQ hB hR b g19 c19
  exact AllReady.nil
set_option maxRecDepth 100000 in
theorem suB_111111111110000 {Q : Exit → Act → World → Prop} {l H : List UInt8} {A : Option Addr} {n c g1 : Nat} {w : World} {x1 x2 x6 x7 x8 x9 x10 x11 x12 x13 x14 x15 x16 x17 x18 x19 x20 x21 x22 x23 x24 x25 x26 x27 x28 : Value} (hQ : SuBQ Q l H A n c g1 w x1 x2 x6 x7 x8 x9 x10 x11 x12 x13 x14 x15 x16 x17 x18 x19 x20 x21 x22 x23 x24 x25 x26 x27 x28) (hKK : ∀ X, Below w.heap.size w X → KK0 X) (hll : l.length ≤ 600) (HL : H.length = 32) (HQ : sha l = H) {X : World} (hB : Blk X g1 24 (H.map B8)) (hR : Rd X 1 (.slice A n c) n (l.map B8)) (b : Below w.heap.size w X) (g19 : Nat) (c19 : Nat) :
    wpAny Tryd.prog .any suBOps Q 4 #[true, true, true, true, true, true, true, true, true, true, true, false, false, false, false] ⟨#[.slice A n c, x1, x2, .bool true, .string ⟨l.toArray⟩, .pointer (some ⟨g1, 0, none⟩), x6, x7, x8, x9, x10, x11, x12, x13, x14, .bool true, .bool true, .agg (H.map B8).toArray, .string ⟨l.toArray⟩, .slice (some ⟨g19, 0, none⟩) l.length c19, .agg (H.map B8).toArray, .bool true, .bool true, .bool true, .slice A n c, .string ⟨l.toArray⟩, x26, x27, x28], []⟩ X := by
  refine wpAny_ready (rs := [11]) (by kernel_rfl) (by simp) ?_
  refine AllReady.cons (o := ⟨some 26, .move _, _, _, _, _⟩) (by rfl) (fun K hK => ?_) ?_
  · rw [if_pos (by rfl)]
    go_simp
    refine hK _ _ ?_
    exact suB_111111111111000 hQ hKK hll HL HQ hB hR b g19 c19
  exact AllReady.nil
set_option maxRecDepth 100000 in
theorem suB_111111111101000 {Q : Exit → Act → World → Prop} {l H : List UInt8} {A : Option Addr} {n c g1 : Nat} {w : World} {x1 x2 x6 x7 x8 x9 x10 x11 x12 x13 x14 x15 x16 x17 x18 x19 x20 x21 x22 x23 x24 x25 x26 x27 x28 : Value} (hQ : SuBQ Q l H A n c g1 w x1 x2 x6 x7 x8 x9 x10 x11 x12 x13 x14 x15 x16 x17 x18 x19 x20 x21 x22 x23 x24 x25 x26 x27 x28) (hKK : ∀ X, Below w.heap.size w X → KK0 X) (hll : l.length ≤ 600) (HL : H.length = 32) (HQ : sha l = H) {X : World} (hB : Blk X g1 24 (H.map B8)) (hR : Rd X 1 (.slice A n c) n (l.map B8)) (b : Below w.heap.size w X) (g19 : Nat) (c19 : Nat) :
    wpAny Tryd.prog .any suBOps Q 4 #[true, true, true, true, true, true, true, true, true, true, false, true, false, false, false] ⟨#[.slice A n c, x1, x2, .bool true, .string ⟨l.toArray⟩, .pointer (some ⟨g1, 0, none⟩), x6, x7, x8, x9, x10, x11, x12, x13, x14, .bool true, .bool true, .agg (H.map B8).toArray, .string ⟨l.toArray⟩, .slice (some ⟨g19, 0, none⟩) l.length c19, .agg (H.map B8).toArray, .bool true, .bool true, .bool true, .slice A n c, x25, .string ⟨l.toArray⟩, x27, x28], []⟩ X := by
  refine wpAny_ready (rs := [10]) (by kernel_rfl) (by simp) ?_
  refine AllReady.cons (o := ⟨some 25, .convert _ _ _, _, _, _, _⟩) (by rfl) (fun K hK => ?_) ?_
  · rw [if_pos (by rfl)]
    have hs1 := run_str 22 9 5 Tryd.underlying22 Tryd.underlying5 Tryd.underlying9 hR
    go_simp
    refine hK _ _ ?_
    exact suB_111111111111000 hQ hKK hll HL HQ hB hR b g19 c19
  exact AllReady.nil
set_option maxRecDepth 100000 in
theorem suB_111111111100000 {Q : Exit → Act → World → Prop} {l H : List UInt8} {A : Option Addr} {n c g1 : Nat} {w : World} {x1 x2 x6 x7 x8 x9 x10 x11 x12 x13 x14 x15 x16 x17 x18 x19 x20 x21 x22 x23 x24 x25 x26 x27 x28 : Value} (hQ : SuBQ Q l H A n c g1 w x1 x2 x6 x7 x8 x9 x10 x11 x12 x13 x14 x15 x16 x17 x18 x19 x20 x21 x22 x23 x24 x25 x26 x27 x28) (hKK : ∀ X, Below w.heap.size w X → KK0 X) (hll : l.length ≤ 600) (HL : H.length = 32) (HQ : sha l = H) {X : World} (hB : Blk X g1 24 (H.map B8)) (hR : Rd X 1 (.slice A n c) n (l.map B8)) (b : Below w.heap.size w X) (g19 : Nat) (c19 : Nat) :
    wpAny Tryd.prog .any suBOps Q 5 #[true, true, true, true, true, true, true, true, true, true, false, false, false, false, false] ⟨#[.slice A n c, x1, x2, .bool true, .string ⟨l.toArray⟩, .pointer (some ⟨g1, 0, none⟩), x6, x7, x8, x9, x10, x11, x12, x13, x14, .bool true, .bool true, .agg (H.map B8).toArray, .string ⟨l.toArray⟩, .slice (some ⟨g19, 0, none⟩) l.length c19, .agg (H.map B8).toArray, .bool true, .bool true, .bool true, .slice A n c, x25, x26, x27, x28], []⟩ X := by
  refine wpAny_ready (rs := [10, 11]) (by kernel_rfl) (by simp) ?_
  refine AllReady.cons (o := ⟨some 25, .convert _ _ _, _, _, _, _⟩) (by rfl) (fun K hK => ?_) ?_
  · rw [if_pos (by rfl)]
    have hs1 := run_str 22 9 5 Tryd.underlying22 Tryd.underlying5 Tryd.underlying9 hR
    go_simp
    refine hK _ _ ?_
    exact suB_111111111110000 hQ hKK hll HL HQ hB hR b g19 c19
  refine AllReady.cons (o := ⟨some 26, .move _, _, _, _, _⟩) (by rfl) (fun K hK => ?_) ?_
  · rw [if_pos (by rfl)]
    go_simp
    refine hK _ _ ?_
    exact suB_111111111101000 hQ hKK hll HL HQ hB hR b g19 c19
  exact AllReady.nil
set_option maxRecDepth 100000 in
theorem suB_111111111001000 {Q : Exit → Act → World → Prop} {l H : List UInt8} {A : Option Addr} {n c g1 : Nat} {w : World} {x1 x2 x6 x7 x8 x9 x10 x11 x12 x13 x14 x15 x16 x17 x18 x19 x20 x21 x22 x23 x24 x25 x26 x27 x28 : Value} (hQ : SuBQ Q l H A n c g1 w x1 x2 x6 x7 x8 x9 x10 x11 x12 x13 x14 x15 x16 x17 x18 x19 x20 x21 x22 x23 x24 x25 x26 x27 x28) (hKK : ∀ X, Below w.heap.size w X → KK0 X) (hll : l.length ≤ 600) (HL : H.length = 32) (HQ : sha l = H) {X : World} (hB : Blk X g1 24 (H.map B8)) (hR : Rd X 1 (.slice A n c) n (l.map B8)) (b : Below w.heap.size w X) (g19 : Nat) (c19 : Nat) :
    wpAny Tryd.prog .any suBOps Q 5 #[true, true, true, true, true, true, true, true, true, false, false, true, false, false, false] ⟨#[.slice A n c, x1, x2, .bool true, .string ⟨l.toArray⟩, .pointer (some ⟨g1, 0, none⟩), x6, x7, x8, x9, x10, x11, x12, x13, x14, .bool true, .bool true, .agg (H.map B8).toArray, .string ⟨l.toArray⟩, .slice (some ⟨g19, 0, none⟩) l.length c19, .agg (H.map B8).toArray, .bool true, .bool true, .bool true, x24, x25, .string ⟨l.toArray⟩, x27, x28], []⟩ X := by
  refine wpAny_ready (rs := [9]) (by kernel_rfl) (by simp) ?_
  refine AllReady.cons (o := ⟨some 24, .move _, _, _, _, _⟩) (by rfl) (fun K hK => ?_) ?_
  · rw [if_pos (by rfl)]
    go_simp
    refine hK _ _ ?_
    exact suB_111111111101000 hQ hKK hll HL HQ hB hR b g19 c19
  exact AllReady.nil
set_option maxRecDepth 100000 in
theorem suB_111111111000000 {Q : Exit → Act → World → Prop} {l H : List UInt8} {A : Option Addr} {n c g1 : Nat} {w : World} {x1 x2 x6 x7 x8 x9 x10 x11 x12 x13 x14 x15 x16 x17 x18 x19 x20 x21 x22 x23 x24 x25 x26 x27 x28 : Value} (hQ : SuBQ Q l H A n c g1 w x1 x2 x6 x7 x8 x9 x10 x11 x12 x13 x14 x15 x16 x17 x18 x19 x20 x21 x22 x23 x24 x25 x26 x27 x28) (hKK : ∀ X, Below w.heap.size w X → KK0 X) (hll : l.length ≤ 600) (HL : H.length = 32) (HQ : sha l = H) {X : World} (hB : Blk X g1 24 (H.map B8)) (hR : Rd X 1 (.slice A n c) n (l.map B8)) (b : Below w.heap.size w X) (g19 : Nat) (c19 : Nat) :
    wpAny Tryd.prog .any suBOps Q 6 #[true, true, true, true, true, true, true, true, true, false, false, false, false, false, false] ⟨#[.slice A n c, x1, x2, .bool true, .string ⟨l.toArray⟩, .pointer (some ⟨g1, 0, none⟩), x6, x7, x8, x9, x10, x11, x12, x13, x14, .bool true, .bool true, .agg (H.map B8).toArray, .string ⟨l.toArray⟩, .slice (some ⟨g19, 0, none⟩) l.length c19, .agg (H.map B8).toArray, .bool true, .bool true, .bool true, x24, x25, x26, x27, x28], []⟩ X := by
  refine wpAny_ready (rs := [9, 11]) (by kernel_rfl) (by simp) ?_
  refine AllReady.cons (o := ⟨some 24, .move _, _, _, _, _⟩) (by rfl) (fun K hK => ?_) ?_
  · rw [if_pos (by rfl)]
    go_simp
    refine hK _ _ ?_
    exact suB_111111111100000 hQ hKK hll HL HQ hB hR b g19 c19
  refine AllReady.cons (o := ⟨some 26, .move _, _, _, _, _⟩) (by rfl) (fun K hK => ?_) ?_
  · rw [if_pos (by rfl)]
    go_simp
    refine hK _ _ ?_
    exact suB_111111111001000 hQ hKK hll HL HQ hB hR b g19 c19
  exact AllReady.nil
set_option maxRecDepth 100000 in
theorem suB_111111110000000 {Q : Exit → Act → World → Prop} {l H : List UInt8} {A : Option Addr} {n c g1 : Nat} {w : World} {x1 x2 x6 x7 x8 x9 x10 x11 x12 x13 x14 x15 x16 x17 x18 x19 x20 x21 x22 x23 x24 x25 x26 x27 x28 : Value} (hQ : SuBQ Q l H A n c g1 w x1 x2 x6 x7 x8 x9 x10 x11 x12 x13 x14 x15 x16 x17 x18 x19 x20 x21 x22 x23 x24 x25 x26 x27 x28) (hKK : ∀ X, Below w.heap.size w X → KK0 X) (hll : l.length ≤ 600) (HL : H.length = 32) (HQ : sha l = H) {X : World} (hB : Blk X g1 24 (H.map B8)) (hR : Rd X 1 (.slice A n c) n (l.map B8)) (b : Below w.heap.size w X) (g19 : Nat) (c19 : Nat) :
    wpAny Tryd.prog .any suBOps Q 7 #[true, true, true, true, true, true, true, true, false, false, false, false, false, false, false] ⟨#[.slice A n c, x1, x2, .bool true, .string ⟨l.toArray⟩, .pointer (some ⟨g1, 0, none⟩), x6, x7, x8, x9, x10, x11, x12, x13, x14, .bool true, .bool true, .agg (H.map B8).toArray, .string ⟨l.toArray⟩, .slice (some ⟨g19, 0, none⟩) l.length c19, .agg (H.map B8).toArray, .bool true, .bool true, x23, x24, x25, x26, x27, x28], []⟩ X := by
  refine wpAny_ready (rs := [8]) (by kernel_rfl) (by simp) ?_
  refine AllReady.cons (o := ⟨some 23, .move _, _, _, _, _⟩) (by rfl) (fun K hK => ?_) ?_
  · go_simp
    refine hK _ _ ?_
    exact suB_111111111000000 hQ hKK hll HL HQ hB hR b g19 c19
  exact AllReady.nil
set_option maxRecDepth 100000 in
theorem suB_111111100000000 {Q : Exit → Act → World → Prop} {l H : List UInt8} {A : Option Addr} {n c g1 : Nat} {w : World} {x1 x2 x6 x7 x8 x9 x10 x11 x12 x13 x14 x15 x16 x17 x18 x19 x20 x21 x22 x23 x24 x25 x26 x27 x28 : Value} (hQ : SuBQ Q l H A n c g1 w x1 x2 x6 x7 x8 x9 x10 x11 x12 x13 x14 x15 x16 x17 x18 x19 x20 x21 x22 x23 x24 x25 x26 x27 x28) (hKK : ∀ X, Below w.heap.size w X → KK0 X) (hll : l.length ≤ 600) (HL : H.length = 32) (HQ : sha l = H) {X : World} (hB : Blk X g1 24 (H.map B8)) (hR : Rd X 1 (.slice A n c) n (l.map B8)) (b : Below w.heap.size w X) (g19 : Nat) (c19 : Nat) :
    wpAny Tryd.prog .any suBOps Q 8 #[true, true, true, true, true, true, true, false, false, false, false, false, false, false, false] ⟨#[.slice A n c, x1, x2, .bool true, .string ⟨l.toArray⟩, .pointer (some ⟨g1, 0, none⟩), x6, x7, x8, x9, x10, x11, x12, x13, x14, .bool true, .bool true, .agg (H.map B8).toArray, .string ⟨l.toArray⟩, .slice (some ⟨g19, 0, none⟩) l.length c19, .agg (H.map B8).toArray, .bool true, x22, x23, x24, x25, x26, x27, x28], []⟩ X := by
  refine wpAny_ready (rs := [7]) (by kernel_rfl) (by simp) ?_
  refine AllReady.cons (o := ⟨some 22, .pick _ _ _, _, _, _, _⟩) (by rfl) (fun K hK => ?_) ?_
  · go_simp
    refine hK _ _ ?_
    exact suB_111111110000000 hQ hKK hll HL HQ hB hR b g19 c19
  exact AllReady.nil
set_option maxRecDepth 100000 in
theorem suB_111111000000000 {Q : Exit → Act → World → Prop} {l H : List UInt8} {A : Option Addr} {n c g1 : Nat} {w : World} {x1 x2 x6 x7 x8 x9 x10 x11 x12 x13 x14 x15 x16 x17 x18 x19 x20 x21 x22 x23 x24 x25 x26 x27 x28 : Value} (hQ : SuBQ Q l H A n c g1 w x1 x2 x6 x7 x8 x9 x10 x11 x12 x13 x14 x15 x16 x17 x18 x19 x20 x21 x22 x23 x24 x25 x26 x27 x28) (hKK : ∀ X, Below w.heap.size w X → KK0 X) (hll : l.length ≤ 600) (HL : H.length = 32) (HQ : sha l = H) {X : World} (hB : Blk X g1 24 (H.map B8)) (hR : Rd X 1 (.slice A n c) n (l.map B8)) (b : Below w.heap.size w X) (g19 : Nat) (c19 : Nat) :
    wpAny Tryd.prog .any suBOps Q 9 #[true, true, true, true, true, true, false, false, false, false, false, false, false, false, false] ⟨#[.slice A n c, x1, x2, .bool true, .string ⟨l.toArray⟩, .pointer (some ⟨g1, 0, none⟩), x6, x7, x8, x9, x10, x11, x12, x13, x14, .bool true, .bool true, .agg (H.map B8).toArray, .string ⟨l.toArray⟩, .slice (some ⟨g19, 0, none⟩) l.length c19, .agg (H.map B8).toArray, x21, x22, x23, x24, x25, x26, x27, x28], []⟩ X := by
  refine wpAny_ready (rs := [6]) (by kernel_rfl) (by simp) ?_
  refine AllReady.cons (o := ⟨some 21, .binOp _ _ _ _ _, _, _, _, _⟩) (by rfl) (fun K hK => ?_) ?_
  · rw [if_pos (by rfl)]
    refine wp_val (exec_cmp_agg .eql 24 24 (.tmp 17) (.tmp 20) (by rfl) (H.map B8).toArray (H.map B8).toArray (by rfl) (by rfl) eqm32 (.bool true) _ ((eql32 _ H H HL HL).trans (by rw [beq_self_eq_true]))) ?_
    refine hK _ _ ?_
    exact suB_111111100000000 hQ hKK hll HL HQ hB hR b g19 c19
  exact AllReady.nil
set_option maxRecDepth 100000 in
theorem suB_111110000000000 {Q : Exit → Act → World → Prop} {l H : List UInt8} {A : Option Addr} {n c g1 : Nat} {w : World} {x1 x2 x6 x7 x8 x9 x10 x11 x12 x13 x14 x15 x16 x17 x18 x19 x20 x21 x22 x23 x24 x25 x26 x27 x28 : Value} (hQ : SuBQ Q l H A n c g1 w x1 x2 x6 x7 x8 x9 x10 x11 x12 x13 x14 x15 x16 x17 x18 x19 x20 x21 x22 x23 x24 x25 x26 x27 x28) (hKK : ∀ X, Below w.heap.size w X → KK0 X) (hll : l.length ≤ 600) (HL : H.length = 32) (HQ : sha l = H) {X : World} (hB : Blk X g1 24 (H.map B8)) (hR : Rd X 1 (.slice A n c) n (l.map B8)) (b : Below w.heap.size w X) (g19 : Nat) (c19 : Nat) (hRc : Rd X 1 (.slice (some ⟨g19, 0, none⟩) l.length c19) l.length (l.map B8)) :
    wpAny Tryd.prog .any suBOps Q 10 #[true, true, true, true, true, false, false, false, false, false, false, false, false, false, false] ⟨#[.slice A n c, x1, x2, .bool true, .string ⟨l.toArray⟩, .pointer (some ⟨g1, 0, none⟩), x6, x7, x8, x9, x10, x11, x12, x13, x14, .bool true, .bool true, .agg (H.map B8).toArray, .string ⟨l.toArray⟩, .slice (some ⟨g19, 0, none⟩) l.length c19, x20, x21, x22, x23, x24, x25, x26, x27, x28], []⟩ X := by
  refine wpAny_ready (rs := [5]) (by kernel_rfl) (by simp) ?_
  refine AllReady.cons (o := ⟨some 20, .call _, _, _, _, _⟩) (by rfl) (fun K hK => ?_) ?_
  · rw [if_pos (by rfl)]
    go_simp
    refine (rsumC _ _ _ l _ hRc (by omega) (hKK _ b)).mono ?_
    rintro e w1 ⟨rfl, hb1⟩
    rw [HQ]
    refine hK _ _ ?_
    exact suB_111111000000000 hQ hKK hll HL HQ (hB.bel hb1) (hR.below hb1) (bel_next b hb1) g19 c19
  exact AllReady.nil
set_option maxRecDepth 100000 in
theorem suB_110111000000000 {Q : Exit → Act → World → Prop} {l H : List UInt8} {A : Option Addr} {n c g1 : Nat} {w : World} {x1 x2 x6 x7 x8 x9 x10 x11 x12 x13 x14 x15 x16 x17 x18 x19 x20 x21 x22 x23 x24 x25 x26 x27 x28 : Value} (hQ : SuBQ Q l H A n c g1 w x1 x2 x6 x7 x8 x9 x10 x11 x12 x13 x14 x15 x16 x17 x18 x19 x20 x21 x22 x23 x24 x25 x26 x27 x28) (hKK : ∀ X, Below w.heap.size w X → KK0 X) (hll : l.length ≤ 600) (HL : H.length = 32) (HQ : sha l = H) {X : World} (hB : Blk X g1 24 (H.map B8)) (hR : Rd X 1 (.slice A n c) n (l.map B8)) (b : Below w.heap.size w X) (g19 : Nat) (c19 : Nat) :
    wpAny Tryd.prog .any suBOps Q 10 #[true, true, false, true, true, true, false, false, false, false, false, false, false, false, false] ⟨#[.slice A n c, x1, x2, .bool true, .string ⟨l.toArray⟩, .pointer (some ⟨g1, 0, none⟩), x6, x7, x8, x9, x10, x11, x12, x13, x14, .bool true, .bool true, x17, .string ⟨l.toArray⟩, .slice (some ⟨g19, 0, none⟩) l.length c19, .agg (H.map B8).toArray, x21, x22, x23, x24, x25, x26, x27, x28], []⟩ X := by
  refine wpAny_ready (rs := [2]) (by kernel_rfl) (by simp) ?_
  refine AllReady.cons (o := ⟨some 17, .load _ _, _, _, _, _⟩) (by rfl) (fun K hK => ?_) ?_
  · rw [if_pos (by rfl)]
    refine wp_load_agg (x := .tmp 5) (ty := 24) (by rfl) (by rfl) (run_load32 hB HL) ?_
    refine hK _ _ ?_
    exact suB_111111000000000 hQ hKK hll HL HQ hB hR b g19 c19
  exact AllReady.nil
set_option maxRecDepth 100000 in
theorem suB_111100000000000 {Q : Exit → Act → World → Prop} {l H : List UInt8} {A : Option Addr} {n c g1 : Nat} {w : World} {x1 x2 x6 x7 x8 x9 x10 x11 x12 x13 x14 x15 x16 x17 x18 x19 x20 x21 x22 x23 x24 x25 x26 x27 x28 : Value} (hQ : SuBQ Q l H A n c g1 w x1 x2 x6 x7 x8 x9 x10 x11 x12 x13 x14 x15 x16 x17 x18 x19 x20 x21 x22 x23 x24 x25 x26 x27 x28) (hKK : ∀ X, Below w.heap.size w X → KK0 X) (hll : l.length ≤ 600) (HL : H.length = 32) (HQ : sha l = H) {X : World} (hB : Blk X g1 24 (H.map B8)) (hR : Rd X 1 (.slice A n c) n (l.map B8)) (b : Below w.heap.size w X) :
    wpAny Tryd.prog .any suBOps Q 11 #[true, true, true, true, false, false, false, false, false, false, false, false, false, false, false] ⟨#[.slice A n c, x1, x2, .bool true, .string ⟨l.toArray⟩, .pointer (some ⟨g1, 0, none⟩), x6, x7, x8, x9, x10, x11, x12, x13, x14, .bool true, .bool true, .agg (H.map B8).toArray, .string ⟨l.toArray⟩, x19, x20, x21, x22, x23, x24, x25, x26, x27, x28], []⟩ X := by
  refine wpAny_ready (rs := [4]) (by kernel_rfl) (by simp) ?_
  refine AllReady.cons (o := ⟨some 19, .convert _ _ _, _, _, _, _⟩) (by rfl) (fun K hK => ?_) ?_
  · rw [if_pos (by rfl)]
    obtain ⟨c19, w3, hcv, hRc, hbc⟩ := conv_bytes (P := Tryd.prog) X 9 22 5 Tryd.underlying9 Tryd.underlying22 Tryd.underlying5 l (by omega)
    go_simp
    refine hK _ _ ?_
    exact suB_111110000000000 hQ hKK hll HL HQ (hB.bel hbc) (hR.below hbc) (bel_next b hbc) _ c19 hRc
  exact AllReady.nil
set_option maxRecDepth 100000 in
theorem suB_110110000000000 {Q : Exit → Act → World → Prop} {l H : List UInt8} {A : Option Addr} {n c g1 : Nat} {w : World} {x1 x2 x6 x7 x8 x9 x10 x11 x12 x13 x14 x15 x16 x17 x18 x19 x20 x21 x22 x23 x24 x25 x26 x27 x28 : Value} (hQ : SuBQ Q l H A n c g1 w x1 x2 x6 x7 x8 x9 x10 x11 x12 x13 x14 x15 x16 x17 x18 x19 x20 x21 x22 x23 x24 x25 x26 x27 x28) (hKK : ∀ X, Below w.heap.size w X → KK0 X) (hll : l.length ≤ 600) (HL : H.length = 32) (HQ : sha l = H) {X : World} (hB : Blk X g1 24 (H.map B8)) (hR : Rd X 1 (.slice A n c) n (l.map B8)) (b : Below w.heap.size w X) (g19 : Nat) (c19 : Nat) (hRc : Rd X 1 (.slice (some ⟨g19, 0, none⟩) l.length c19) l.length (l.map B8)) :
    wpAny Tryd.prog .any suBOps Q 11 #[true, true, false, true, true, false, false, false, false, false, false, false, false, false, false] ⟨#[.slice A n c, x1, x2, .bool true, .string ⟨l.toArray⟩, .pointer (some ⟨g1, 0, none⟩), x6, x7, x8, x9, x10, x11, x12, x13, x14, .bool true, .bool true, x17, .string ⟨l.toArray⟩, .slice (some ⟨g19, 0, none⟩) l.length c19, x20, x21, x22, x23, x24, x25, x26, x27, x28], []⟩ X := by
  refine wpAny_ready (rs := [2, 5]) (by kernel_rfl) (by simp) ?_
  refine AllReady.cons (o := ⟨some 17, .load _ _, _, _, _, _⟩) (by rfl) (fun K hK => ?_) ?_
  · rw [if_pos (by rfl)]
    refine wp_load_agg (x := .tmp 5) (ty := 24) (by rfl) (by rfl) (run_load32 hB HL) ?_
    refine hK _ _ ?_
    exact suB_111110000000000 hQ hKK hll HL HQ hB hR b g19 c19 hRc
  refine AllReady.cons (o := ⟨some 20, .call _, _, _, _, _⟩) (by rfl) (fun K hK => ?_) ?_
  · rw [if_pos (by rfl)]
    go_simp
    refine (rsumC _ _ _ l _ hRc (by omega) (hKK _ b)).mono ?_
    rintro e w1 ⟨rfl, hb1⟩
    rw [HQ]
    refine hK _ _ ?_
    exact suB_110111000000000 hQ hKK hll HL HQ (hB.bel hb1) (hR.below hb1) (bel_next b hb1) g19 c19
  exact AllReady.nil
set_option maxRecDepth 100000 in
theorem suB_110100000000000 {Q : Exit → Act → World → Prop} {l H : List UInt8} {A : Option Addr} {n c g1 : Nat} {w : World} {x1 x2 x6 x7 x8 x9 x10 x11 x12 x13 x14 x15 x16 x17 x18 x19 x20 x21 x22 x23 x24 x25 x26 x27 x28 : Value} (hQ : SuBQ Q l H A n c g1 w x1 x2 x6 x7 x8 x9 x10 x11 x12 x13 x14 x15 x16 x17 x18 x19 x20 x21 x22 x23 x24 x25 x26 x27 x28) (hKK : ∀ X, Below w.heap.size w X → KK0 X) (hll : l.length ≤ 600) (HL : H.length = 32) (HQ : sha l = H) {X : World} (hB : Blk X g1 24 (H.map B8)) (hR : Rd X 1 (.slice A n c) n (l.map B8)) (b : Below w.heap.size w X) :
    wpAny Tryd.prog .any suBOps Q 12 #[true, true, false, true, false, false, false, false, false, false, false, false, false, false, false] ⟨#[.slice A n c, x1, x2, .bool true, .string ⟨l.toArray⟩, .pointer (some ⟨g1, 0, none⟩), x6, x7, x8, x9, x10, x11, x12, x13, x14, .bool true, .bool true, x17, .string ⟨l.toArray⟩, x19, x20, x21, x22, x23, x24, x25, x26, x27, x28], []⟩ X := by
  refine wpAny_ready (rs := [2, 4]) (by kernel_rfl) (by simp) ?_
  refine AllReady.cons (o := ⟨some 17, .load _ _, _, _, _, _⟩) (by rfl) (fun K hK => ?_) ?_
  · rw [if_pos (by rfl)]
    refine wp_load_agg (x := .tmp 5) (ty := 24) (by rfl) (by rfl) (run_load32 hB HL) ?_
    refine hK _ _ ?_
    exact suB_111100000000000 hQ hKK hll HL HQ hB hR b
  refine AllReady.cons (o := ⟨some 19, .convert _ _ _, _, _, _, _⟩) (by rfl) (fun K hK => ?_) ?_
  · rw [if_pos (by rfl)]
    obtain ⟨c19, w3, hcv, hRc, hbc⟩ := conv_bytes (P := Tryd.prog) X 9 22 5 Tryd.underlying9 Tryd.underlying22 Tryd.underlying5 l (by omega)
    go_simp
    refine hK _ _ ?_
    exact suB_110110000000000 hQ hKK hll HL HQ (hB.bel hbc) (hR.below hbc) (bel_next b hbc) _ c19 hRc
  exact AllReady.nil

set_option maxRecDepth 100000 in
set_option maxHeartbeats 1600000 in
theorem sumW (A : Option Addr) (n c : Nat) (l : List UInt8) (w : World) (hn : n ≤ 140737488355328) (hr : Rd w 1 (.slice A n c) n (l.map B8)) (hK : KK w) (hK0 : KK0 w) :
    Calls Tryd.prog 3 #[.slice A n c] w fun e w' => e = .returned (.bool true) ∧ Below w.heap.size w w' := by
  have hln := hr.n_eq
  by_cases h6 : 600 < n
  · clear hln
    go_enter Tryd.func3, Tryd.ntmps3
    go_wp2_with fail
    refine (sanityC _ hK).mono ?_
    rintro e w1 ⟨rfl, hb1⟩
    go_wp2
    go_ret
    exact ⟨rfl, hb1⟩
  · have hll : l.length ≤ 600 := by omega
    clear hln
    have hz2 := zero32
    have hl := sha_len l
    obtain ⟨H, hH⟩ : ∃ h, h = sha l := ⟨_, rfl⟩
    rw [← hH] at hl
    have HH : Hid (∀ _ : Unit, sha l = H) := fun _ => hH.symm
    have HL := Lib.hid hl
    clear hH hl
    have hKK : ∀ X, Below w.heap.size w X → KK X := fun X h => hK.below h hK.1
    have hKK0 : ∀ X, Below w.heap.size w X → KK0 X := fun X h => hK0.below h hK0.1
    have HKK := Lib.hid hKK
    have HKK0 := Lib.hid hKK0
    clear hKK hKK0
    go_enter Tryd.func3, Tryd.ntmps3
    go_wp2_with fail
    refine (sanityC _ hK).mono ?_
    rintro e w1 ⟨rfl, hb1⟩
    have hr1 := hr.below hb1
    have hs1 := run_str 22 9 5 Tryd.underlying22 Tryd.underlying5 Tryd.underlying9 hr1
    go_wp2_with fail
    refine (hashC _ _ _ l _ hr1 (by omega) (HKK.out _ hb1)).mono ?_
    rintro e w2 ⟨rfl, hb2⟩
    rw [HH.out ()]
    have c2 := bel_next hb1 hb2
    have hr2 := hr1.below hb2
    clear hb1 hb2 hs1 hr1 hr
    go_wp2_with ((with_reducible show wpList _ _ _ (⟨none, .store 24 _ _, _, _, _, _⟩ :: _) _ _); refine op_store_new w2 _ _ rfl 24 (.tmp 5) (.tmp 14) rfl rfl (H.map B8).toArray rfl (by simp [HL.out, o32_len]) (by simpa using B8s_one H) (by simp [HL.out, size_o32]) ?_)
    have B1 : Blk (w2.alloc (.cells (H.map B8).toArray 24)) w2.heap.size 24 (H.map B8) := Blk.new rfl
    have c3 := bel_alloc c2 (.cells (H.map B8).toArray 24)
    have hr3 := hr2.alloc (.cells (H.map B8).toArray 24)
    generalize w2.alloc (.cells (H.map B8).toArray 24) = W2 at B1 c3 hr3 ⊢
    generalize w2.heap.size = g1 at B1 ⊢
    clear c2 hr2
    refine wp_region_any (by kernel_rfl) ?_
    change wpAny _ _ _ _ _ _ _ (World.drew _)
    refine wpAny_take (i := 0) (v := ?_) rfl (by kernel_rfl) (by kernel_rfl) (by kernel_rfl) (fun _ _ _ h => h) (Or.inl ⟨by rfl, ?_⟩) ?_
    rotate_left
    · intro w; go_simp; rfl
    refine wpAny_take (i := 1) (v := ?_) rfl (by kernel_rfl) (by kernel_rfl) (by kernel_rfl) (fun _ _ _ h => h) (Or.inl ⟨by rfl, ?_⟩) ?_
    rotate_left
    · intro w; go_simp; rfl
    refine wpAny_take (i := 3) (v := ?_) rfl (by kernel_rfl) (by kernel_rfl) (by kernel_rfl) (fun _ _ _ h => h) (Or.inl ⟨by rfl, ?_⟩) ?_
    rotate_left
    · intro w; go_simp; rfl
    refine suB_110100000000000 (l := l) (H := H) (A := A) (n := n) (c := c) (g1 := g1) (w := w) (x15 := undef) (x16 := undef) (x18 := undef) ?_ HKK0.out hll HL.out (HH.out ()) B1.drew hr3.drew c3.drew
    intro g19 c19 X hX
    go_wp2
    go_ret
    exact ⟨rfl, hX⟩
end Go.Proofs.YtmmomcililideaaDoor
