/-
  The first row of hash.Of: its operations in whatever order.
-/
import Derived.Test.YthinopepcmidmaaDoorWk02o
set_option linter.unusedSimpArgs false
set_option linter.unusedVariables false
set_option maxRecDepth 100000
set_option maxHeartbeats 1600000
namespace Go.Proofs.YthinopepcmidmaaDoor
open Go.RowKit
theorem Blk.bel {w w' : World} {g : Nat} {t : TypeId} {xs : List Value} (h : Blk w g t xs) (hb : Below w.heap.size w w') : Blk w' g t xs := h.below hb h.lt
theorem bel_alloc {w X : World} (h : Below w.heap.size w X) (o : Obj) : Below w.heap.size w (X.alloc o) := h.alloc h.size o
theorem bel_next {w X w' : World} (h : Below w.heap.size w X) (hb : Below X.heap.size X w') : Below w.heap.size w w' := h.trans (hb.mono h.size)
/-- A stream's cells. -/
theorem isStr_open {m : List UInt8} {v : Value} (h : IsStr m v) : ∃ S : List Value, v = .agg S.toArray ∧ S.length = 73 ∧ ∀ u ∈ S, u.oneCell' = true := by
  obtain ⟨blk, hT, rfl⟩ := h
  exact ⟨_, rfl, strm_len hT.1, strm_one _ _ _⟩
/-- Block g holds a stream of zeros. -/
def Is73 (X : World) (g : Nat) : Prop := Blk X g 83 z73
theorem is73_new (X : World) : Is73 (X.alloc (.cells z73.toArray 83)) X.heap.size := Blk.new rfl
theorem is73_alloc {X : World} {g : Nat} (h : Is73 X g) (o : Obj) : Is73 (X.alloc o) g := Blk.alloc h o
theorem is73_bel {X w1 : World} {g : Nat} (h : Is73 X g) (hb : Below X.heap.size X w1) : Is73 w1 g := Blk.bel h hb
theorem is73_store {S : List Value} (hSl : S.length = 73) (hS1 : ∀ u ∈ S, u.oneCell' = true) {X : World} {g : Nat} (h : Is73 X g) : (storeCells ⟨g, 0, none⟩ S).run Tryd.prog X = .ok () (X.setRow g S.toArray) :=
  run_store_ys (xs := z73) h S (hSl.trans z73_len.symm) hS1
theorem conv_tag (tag : Int) (X : World) (g : Nat) (h : X.cell? ⟨g, 0, none⟩ = some (.int .u8 (IntKind.u8.wrap tag))) :
    (convert 69 9 (.slice (some ⟨g, 0, none⟩) 1 1)).run Tryd.prog X = .ok (.string ⟨([tagB tag] : List UInt8).toArray⟩) X := by
  have hb := World.block_lt_of_cell? _ _ h
  refine run_str 69 9 5 Tryd.underlying69 Tryd.underlying5 Tryd.underlying9 (Rd.of_cl (xs := [tagB tag].map B8) ?_ hb rfl (Nat.le_refl _) (by unfold maxLen; omega))
  intro j u hj
  match j, hj with
  | 0, hj =>
    simp at hj
    subst hj
    rw [Nat.zero_add, h, ← tagB_of, IntKind.wrap_u8']
theorem cell_bel {X w1 : World} {g : Nat} {v : Value} (h : X.cell? ⟨g, 0, none⟩ = some v) (hb : Below X.heap.size X w1) : w1.cell? ⟨g, 0, none⟩ = some v := (hb.cell (p := ⟨g, 0, none⟩) (World.block_lt_of_cell? _ _ h)).trans h
theorem cell_alloc {X : World} {g : Nat} {v : Value} (h : X.cell? ⟨g, 0, none⟩ = some v) (o : Obj) : (X.alloc o).cell? ⟨g, 0, none⟩ = some v := (World.cell?_alloc_lt X o ⟨g, 0, none⟩ (World.block_lt_of_cell? _ _ h)).trans h
/-- The operations of a region, found in a function's own code. -/
def ofOpsAt (n : Nat) : Code → Option (Array Oper)
  | .region i o _ => if i = n then some o else none
  | .seq a b => match ofOpsAt n a with
    | some o => some o
    | none => ofOpsAt n b
  | .cond _ a b => match ofOpsAt n a with
    | some o => some o
    | none => ofOpsAt n b
  | .block _ c => ofOpsAt n c
  | .loop c => ofOpsAt n c
  | .scope c => ofOpsAt n c
  | _ => none
noncomputable def ofOps : Array Oper := match Tryd.f36.body with
  | some c => (ofOpsAt 1 c).getD #[]
  | none => #[]
/-- What lies in memory behind the first row. -/
def OfS (m : List UInt8) (w : World) (v : Value) (wx : World) : Prop := ∃ g S, v = .pointer (some ⟨g, 0, none⟩) ∧ IsStr m (.agg S.toArray) ∧ S.length = 73 ∧ Blk wx g 83 S ∧ Blk wx w.heap.size 26 z16 ∧ Below w.heap.size w wx ∧ w.heap.size < g
/-- What is asked behind the region. -/
def OfQ (Q : Exit → Act → World → Prop) (tag : Int) (A : Option Addr) (n c : Nat) (w : World) : Prop := ∀ (g5 g12 : Nat) (v1 : Value) (S : List Value) (X : World), OfS [tagB tag] w (.pointer (some ⟨g5, 0, none⟩)) X → Q .normal ⟨#[.int .i64 tag, .slice A n c, undef, undef, .pointer (some ⟨w.heap.size, 0, none⟩), .pointer (some ⟨g5, 0, none⟩), undef, undef, undef, v1, .int .i64 tag, .int .u8 (IntKind.u8.wrap tag), .slice (some ⟨g12, 0, none⟩) 1 1, .string ⟨([tagB tag] : List UInt8).toArray⟩, .agg S.toArray, undef, undef, undef, undef, undef, undef, undef, undef, undef, undef, undef, undef, undef, undef, undef, undef, undef], []⟩ X
theorem ofR_2111 {Q : Exit → Act → World → Prop} {tag : Int} {A : Option Addr} {n c : Nat} {w : World} (hQ : OfQ Q tag A n c w) (hKK : ∀ X, Below w.heap.size w X → KK X) {X : World} (g12 : Nat) (v1 : Value) (g5 : Nat) (hz : Is73 X g5) (hg5 : w.heap.size < g5) (S : List Value) (hS : IsStr [tagB tag] (.agg S.toArray)) (hSl : S.length = 73) (hS1 : ∀ u ∈ S, u.oneCell' = true) (R : Blk X w.heap.size 26 z16) (b : Below w.heap.size w X) :
    wpAny Tryd.prog .any ofOps Q 1 #[true, true, true, true, true, true, true, false] ⟨#[.int .i64 tag, .slice A n c, undef, undef, .pointer (some ⟨w.heap.size, 0, none⟩), .pointer (some ⟨g5, 0, none⟩), undef, undef, undef, v1, .int .i64 tag, .int .u8 (IntKind.u8.wrap tag), .slice (some ⟨g12, 0, none⟩) 1 1, .string ⟨([tagB tag] : List UInt8).toArray⟩, .agg S.toArray, undef, undef, undef, undef, undef, undef, undef, undef, undef, undef, undef, undef, undef, undef, undef, undef, undef], []⟩ X := by
  refine wpAny_ready (rs := [7]) (by kernel_rfl) (by simp) ?_
  refine AllReady.cons (o := ⟨none, .store _ _ _, _, _, _, _⟩) (by rfl) (fun K hK => ?_) ?_
  · have hst := is73_store hSl hS1 hz
    go_simp
    refine hK _ _ ?_
    refine wpAny_done (by kernel_rfl) ?_ _
    exact hQ g5 g12 v1 S _ ⟨g5, S, rfl, hS, hSl, Blk.row hz S, R.row_other (by omega) _, bel_row b (by omega) b.size _, hg5⟩
  exact AllReady.nil
theorem ofR_2101 {Q : Exit → Act → World → Prop} {tag : Int} {A : Option Addr} {n c : Nat} {w : World} (hQ : OfQ Q tag A n c w) (hKK : ∀ X, Below w.heap.size w X → KK X) {X : World} (g12 : Nat) (v1 : Value) (S : List Value) (hS : IsStr [tagB tag] (.agg S.toArray)) (hSl : S.length = 73) (hS1 : ∀ u ∈ S, u.oneCell' = true) (R : Blk X w.heap.size 26 z16) (b : Below w.heap.size w X) :
    wpAny Tryd.prog .any ofOps Q 2 #[true, true, true, true, true, true, false, false] ⟨#[.int .i64 tag, .slice A n c, undef, undef, .pointer (some ⟨w.heap.size, 0, none⟩), undef, undef, undef, undef, v1, .int .i64 tag, .int .u8 (IntKind.u8.wrap tag), .slice (some ⟨g12, 0, none⟩) 1 1, .string ⟨([tagB tag] : List UInt8).toArray⟩, .agg S.toArray, undef, undef, undef, undef, undef, undef, undef, undef, undef, undef, undef, undef, undef, undef, undef, undef, undef], []⟩ X := by
  refine wpAny_ready (rs := [6]) (by kernel_rfl) (by simp) ?_
  refine AllReady.cons (o := ⟨some 5, .alloc _, _, _, _, _⟩) (by rfl) (fun K hK => ?_) ?_
  · have hz3 : ∀ w : World, (zeroValue 83).run Tryd.prog w = .ok (.agg z73.toArray) w := zeroSt
    go_simp
    refine hK _ _ ?_
    exact ofR_2111 hQ hKK g12 v1 _ (is73_new X) (by have := R.lt; omega) S hS hSl hS1 (R.alloc _) (bel_alloc b _)
  exact AllReady.nil
theorem ofR_2110 {Q : Exit → Act → World → Prop} {tag : Int} {A : Option Addr} {n c : Nat} {w : World} (hQ : OfQ Q tag A n c w) (hKK : ∀ X, Below w.heap.size w X → KK X) {X : World} (g12 : Nat) (v1 : Value) (hI1 : IsStr [] v1) (g5 : Nat) (hz : Is73 X g5) (hg5 : w.heap.size < g5) (R : Blk X w.heap.size 26 z16) (b : Below w.heap.size w X) :
    wpAny Tryd.prog .any ofOps Q 2 #[true, true, true, true, true, false, true, false] ⟨#[.int .i64 tag, .slice A n c, undef, undef, .pointer (some ⟨w.heap.size, 0, none⟩), .pointer (some ⟨g5, 0, none⟩), undef, undef, undef, v1, .int .i64 tag, .int .u8 (IntKind.u8.wrap tag), .slice (some ⟨g12, 0, none⟩) 1 1, .string ⟨([tagB tag] : List UInt8).toArray⟩, undef, undef, undef, undef, undef, undef, undef, undef, undef, undef, undef, undef, undef, undef, undef, undef, undef, undef], []⟩ X := by
  refine wpAny_ready (rs := [5]) (by kernel_rfl) (by simp) ?_
  refine AllReady.cons (o := ⟨some 14, .call _, _, _, _, _⟩) (by rfl) (fun K hK => ?_) ?_
  · go_simp
    have hlen : ([] : List UInt8).length + [tagB tag].length ≤ 1152921504606846976 := by simp
    refine (addC [] [tagB tag] v1 _ hI1 hlen (hKK _ b)).mono ?_
    rintro e w2 ⟨v2, rfl, hI2, hb2⟩
    obtain ⟨S, rfl, hSl, hS1⟩ := isStr_open hI2
    refine hK _ _ ?_
    exact ofR_2111 hQ hKK g12 v1 g5 (is73_bel hz hb2) hg5 S hI2 hSl hS1 (R.bel hb2) (bel_next b hb2)
  exact AllReady.nil
theorem ofR_1110 {Q : Exit → Act → World → Prop} {tag : Int} {A : Option Addr} {n c : Nat} {w : World} (hQ : OfQ Q tag A n c w) (hKK : ∀ X, Below w.heap.size w X → KK X) {X : World} (g12 : Nat) (hc : X.cell? ⟨g12, 0, none⟩ = some (.int .u8 (IntKind.u8.wrap tag))) (v1 : Value) (hI1 : IsStr [] v1) (g5 : Nat) (hz : Is73 X g5) (hg5 : w.heap.size < g5) (R : Blk X w.heap.size 26 z16) (b : Below w.heap.size w X) :
    wpAny Tryd.prog .any ofOps Q 3 #[true, true, true, true, false, false, true, false] ⟨#[.int .i64 tag, .slice A n c, undef, undef, .pointer (some ⟨w.heap.size, 0, none⟩), .pointer (some ⟨g5, 0, none⟩), undef, undef, undef, v1, .int .i64 tag, .int .u8 (IntKind.u8.wrap tag), .slice (some ⟨g12, 0, none⟩) 1 1, undef, undef, undef, undef, undef, undef, undef, undef, undef, undef, undef, undef, undef, undef, undef, undef, undef, undef, undef], []⟩ X := by
  refine wpAny_ready (rs := [4]) (by kernel_rfl) (by simp) ?_
  refine AllReady.cons (o := ⟨some 13, .convert _ _ _, _, _, _, _⟩) (by rfl) (fun K hK => ?_) ?_
  · have hcv := conv_tag tag X g12 hc
    go_simp
    refine hK _ _ ?_
    exact ofR_2110 hQ hKK g12 v1 hI1 g5 hz hg5 R b
  exact AllReady.nil
theorem ofR_2010 {Q : Exit → Act → World → Prop} {tag : Int} {A : Option Addr} {n c : Nat} {w : World} (hQ : OfQ Q tag A n c w) (hKK : ∀ X, Below w.heap.size w X → KK X) {X : World} (g12 : Nat) (g5 : Nat) (hz : Is73 X g5) (hg5 : w.heap.size < g5) (R : Blk X w.heap.size 26 z16) (b : Below w.heap.size w X) :
    wpAny Tryd.prog .any ofOps Q 3 #[false, true, true, true, true, false, true, false] ⟨#[.int .i64 tag, .slice A n c, undef, undef, .pointer (some ⟨w.heap.size, 0, none⟩), .pointer (some ⟨g5, 0, none⟩), undef, undef, undef, undef, .int .i64 tag, .int .u8 (IntKind.u8.wrap tag), .slice (some ⟨g12, 0, none⟩) 1 1, .string ⟨([tagB tag] : List UInt8).toArray⟩, undef, undef, undef, undef, undef, undef, undef, undef, undef, undef, undef, undef, undef, undef, undef, undef, undef, undef], []⟩ X := by
  refine wpAny_ready (rs := [0]) (by kernel_rfl) (by simp) ?_
  refine AllReady.cons (o := ⟨some 9, .call _, _, _, _, _⟩) (by rfl) (fun K hK => ?_) ?_
  · go_simp
    refine (beginC _).mono ?_
    rintro e w1 ⟨v1, rfl, hI1, hb1⟩
    refine hK _ _ ?_
    exact ofR_2110 hQ hKK g12 v1 hI1 g5 (is73_bel hz hb1) hg5 (R.bel hb1) (bel_next b hb1)
  exact AllReady.nil
theorem ofR_2100 {Q : Exit → Act → World → Prop} {tag : Int} {A : Option Addr} {n c : Nat} {w : World} (hQ : OfQ Q tag A n c w) (hKK : ∀ X, Below w.heap.size w X → KK X) {X : World} (g12 : Nat) (v1 : Value) (hI1 : IsStr [] v1) (R : Blk X w.heap.size 26 z16) (b : Below w.heap.size w X) :
    wpAny Tryd.prog .any ofOps Q 3 #[true, true, true, true, true, false, false, false] ⟨#[.int .i64 tag, .slice A n c, undef, undef, .pointer (some ⟨w.heap.size, 0, none⟩), undef, undef, undef, undef, v1, .int .i64 tag, .int .u8 (IntKind.u8.wrap tag), .slice (some ⟨g12, 0, none⟩) 1 1, .string ⟨([tagB tag] : List UInt8).toArray⟩, undef, undef, undef, undef, undef, undef, undef, undef, undef, undef, undef, undef, undef, undef, undef, undef, undef, undef], []⟩ X := by
  refine wpAny_ready (rs := [5, 6]) (by kernel_rfl) (by simp) ?_
  refine AllReady.cons (o := ⟨some 14, .call _, _, _, _, _⟩) (by rfl) (fun K hK => ?_) ?_
  · go_simp
    have hlen : ([] : List UInt8).length + [tagB tag].length ≤ 1152921504606846976 := by simp
    refine (addC [] [tagB tag] v1 _ hI1 hlen (hKK _ b)).mono ?_
    rintro e w2 ⟨v2, rfl, hI2, hb2⟩
    obtain ⟨S, rfl, hSl, hS1⟩ := isStr_open hI2
    refine hK _ _ ?_
    exact ofR_2101 hQ hKK g12 v1 S hI2 hSl hS1 (R.bel hb2) (bel_next b hb2)
  refine AllReady.cons (o := ⟨some 5, .alloc _, _, _, _, _⟩) (by rfl) (fun K hK => ?_) ?_
  · have hz3 : ∀ w : World, (zeroValue 83).run Tryd.prog w = .ok (.agg z73.toArray) w := zeroSt
    go_simp
    refine hK _ _ ?_
    exact ofR_2110 hQ hKK g12 v1 hI1 _ (is73_new X) (by have := R.lt; omega) (R.alloc _) (bel_alloc b _)
  exact AllReady.nil
theorem ofR_0110 {Q : Exit → Act → World → Prop} {tag : Int} {A : Option Addr} {n c : Nat} {w : World} (hQ : OfQ Q tag A n c w) (hKK : ∀ X, Below w.heap.size w X → KK X) {X : World} (v1 : Value) (hI1 : IsStr [] v1) (g5 : Nat) (hz : Is73 X g5) (hg5 : w.heap.size < g5) (R : Blk X w.heap.size 26 z16) (b : Below w.heap.size w X) :
    wpAny Tryd.prog .any ofOps Q 4 #[true, true, true, false, false, false, true, false] ⟨#[.int .i64 tag, .slice A n c, undef, undef, .pointer (some ⟨w.heap.size, 0, none⟩), .pointer (some ⟨g5, 0, none⟩), undef, undef, undef, v1, .int .i64 tag, .int .u8 (IntKind.u8.wrap tag), undef, undef, undef, undef, undef, undef, undef, undef, undef, undef, undef, undef, undef, undef, undef, undef, undef, undef, undef, undef], []⟩ X := by
  refine wpAny_ready (rs := [3]) (by kernel_rfl) (by simp) ?_
  refine AllReady.cons (o := ⟨some 12, .buildSlice _ _ _, _, _, _, _⟩) (by rfl) (fun K hK => ?_) ?_
  · go_simp
    refine hK _ _ ?_
    exact ofR_1110 hQ hKK _ (by simp) v1 hI1 g5 (is73_alloc hz _) hg5 (R.alloc _) (bel_alloc b _)
  exact AllReady.nil
theorem ofR_1010 {Q : Exit → Act → World → Prop} {tag : Int} {A : Option Addr} {n c : Nat} {w : World} (hQ : OfQ Q tag A n c w) (hKK : ∀ X, Below w.heap.size w X → KK X) {X : World} (g12 : Nat) (hc : X.cell? ⟨g12, 0, none⟩ = some (.int .u8 (IntKind.u8.wrap tag))) (g5 : Nat) (hz : Is73 X g5) (hg5 : w.heap.size < g5) (R : Blk X w.heap.size 26 z16) (b : Below w.heap.size w X) :
    wpAny Tryd.prog .any ofOps Q 4 #[false, true, true, true, false, false, true, false] ⟨#[.int .i64 tag, .slice A n c, undef, undef, .pointer (some ⟨w.heap.size, 0, none⟩), .pointer (some ⟨g5, 0, none⟩), undef, undef, undef, undef, .int .i64 tag, .int .u8 (IntKind.u8.wrap tag), .slice (some ⟨g12, 0, none⟩) 1 1, undef, undef, undef, undef, undef, undef, undef, undef, undef, undef, undef, undef, undef, undef, undef, undef, undef, undef, undef], []⟩ X := by
  refine wpAny_ready (rs := [0, 4]) (by kernel_rfl) (by simp) ?_
  refine AllReady.cons (o := ⟨some 9, .call _, _, _, _, _⟩) (by rfl) (fun K hK => ?_) ?_
  · go_simp
    refine (beginC _).mono ?_
    rintro e w1 ⟨v1, rfl, hI1, hb1⟩
    refine hK _ _ ?_
    exact ofR_1110 hQ hKK g12 (cell_bel hc hb1) v1 hI1 g5 (is73_bel hz hb1) hg5 (R.bel hb1) (bel_next b hb1)
  refine AllReady.cons (o := ⟨some 13, .convert _ _ _, _, _, _, _⟩) (by rfl) (fun K hK => ?_) ?_
  · have hcv := conv_tag tag X g12 hc
    go_simp
    refine hK _ _ ?_
    exact ofR_2010 hQ hKK g12 g5 hz hg5 R b
  exact AllReady.nil
theorem ofR_1100 {Q : Exit → Act → World → Prop} {tag : Int} {A : Option Addr} {n c : Nat} {w : World} (hQ : OfQ Q tag A n c w) (hKK : ∀ X, Below w.heap.size w X → KK X) {X : World} (g12 : Nat) (hc : X.cell? ⟨g12, 0, none⟩ = some (.int .u8 (IntKind.u8.wrap tag))) (v1 : Value) (hI1 : IsStr [] v1) (R : Blk X w.heap.size 26 z16) (b : Below w.heap.size w X) :
    wpAny Tryd.prog .any ofOps Q 4 #[true, true, true, true, false, false, false, false] ⟨#[.int .i64 tag, .slice A n c, undef, undef, .pointer (some ⟨w.heap.size, 0, none⟩), undef, undef, undef, undef, v1, .int .i64 tag, .int .u8 (IntKind.u8.wrap tag), .slice (some ⟨g12, 0, none⟩) 1 1, undef, undef, undef, undef, undef, undef, undef, undef, undef, undef, undef, undef, undef, undef, undef, undef, undef, undef, undef], []⟩ X := by
  refine wpAny_ready (rs := [4, 6]) (by kernel_rfl) (by simp) ?_
  refine AllReady.cons (o := ⟨some 13, .convert _ _ _, _, _, _, _⟩) (by rfl) (fun K hK => ?_) ?_
  · have hcv := conv_tag tag X g12 hc
    go_simp
    refine hK _ _ ?_
    exact ofR_2100 hQ hKK g12 v1 hI1 R b
  refine AllReady.cons (o := ⟨some 5, .alloc _, _, _, _, _⟩) (by rfl) (fun K hK => ?_) ?_
  · have hz3 : ∀ w : World, (zeroValue 83).run Tryd.prog w = .ok (.agg z73.toArray) w := zeroSt
    go_simp
    refine hK _ _ ?_
    exact ofR_1110 hQ hKK g12 (cell_alloc hc _) v1 hI1 _ (is73_new X) (by have := R.lt; omega) (R.alloc _) (bel_alloc b _)
  exact AllReady.nil
theorem ofR_2000 {Q : Exit → Act → World → Prop} {tag : Int} {A : Option Addr} {n c : Nat} {w : World} (hQ : OfQ Q tag A n c w) (hKK : ∀ X, Below w.heap.size w X → KK X) {X : World} (g12 : Nat) (R : Blk X w.heap.size 26 z16) (b : Below w.heap.size w X) :
    wpAny Tryd.prog .any ofOps Q 4 #[false, true, true, true, true, false, false, false] ⟨#[.int .i64 tag, .slice A n c, undef, undef, .pointer (some ⟨w.heap.size, 0, none⟩), undef, undef, undef, undef, undef, .int .i64 tag, .int .u8 (IntKind.u8.wrap tag), .slice (some ⟨g12, 0, none⟩) 1 1, .string ⟨([tagB tag] : List UInt8).toArray⟩, undef, undef, undef, undef, undef, undef, undef, undef, undef, undef, undef, undef, undef, undef, undef, undef, undef, undef], []⟩ X := by
  refine wpAny_ready (rs := [0, 6]) (by kernel_rfl) (by simp) ?_
  refine AllReady.cons (o := ⟨some 9, .call _, _, _, _, _⟩) (by rfl) (fun K hK => ?_) ?_
  · go_simp
    refine (beginC _).mono ?_
    rintro e w1 ⟨v1, rfl, hI1, hb1⟩
    refine hK _ _ ?_
    exact ofR_2100 hQ hKK g12 v1 hI1 (R.bel hb1) (bel_next b hb1)
  refine AllReady.cons (o := ⟨some 5, .alloc _, _, _, _, _⟩) (by rfl) (fun K hK => ?_) ?_
  · have hz3 : ∀ w : World, (zeroValue 83).run Tryd.prog w = .ok (.agg z73.toArray) w := zeroSt
    go_simp
    refine hK _ _ ?_
    exact ofR_2010 hQ hKK g12 _ (is73_new X) (by have := R.lt; omega) (R.alloc _) (bel_alloc b _)
  exact AllReady.nil
theorem ofR_0010 {Q : Exit → Act → World → Prop} {tag : Int} {A : Option Addr} {n c : Nat} {w : World} (hQ : OfQ Q tag A n c w) (hKK : ∀ X, Below w.heap.size w X → KK X) {X : World} (g5 : Nat) (hz : Is73 X g5) (hg5 : w.heap.size < g5) (R : Blk X w.heap.size 26 z16) (b : Below w.heap.size w X) :
    wpAny Tryd.prog .any ofOps Q 5 #[false, true, true, false, false, false, true, false] ⟨#[.int .i64 tag, .slice A n c, undef, undef, .pointer (some ⟨w.heap.size, 0, none⟩), .pointer (some ⟨g5, 0, none⟩), undef, undef, undef, undef, .int .i64 tag, .int .u8 (IntKind.u8.wrap tag), undef, undef, undef, undef, undef, undef, undef, undef, undef, undef, undef, undef, undef, undef, undef, undef, undef, undef, undef, undef], []⟩ X := by
  refine wpAny_ready (rs := [0, 3]) (by kernel_rfl) (by simp) ?_
  refine AllReady.cons (o := ⟨some 9, .call _, _, _, _, _⟩) (by rfl) (fun K hK => ?_) ?_
  · go_simp
    refine (beginC _).mono ?_
    rintro e w1 ⟨v1, rfl, hI1, hb1⟩
    refine hK _ _ ?_
    exact ofR_0110 hQ hKK v1 hI1 g5 (is73_bel hz hb1) hg5 (R.bel hb1) (bel_next b hb1)
  refine AllReady.cons (o := ⟨some 12, .buildSlice _ _ _, _, _, _, _⟩) (by rfl) (fun K hK => ?_) ?_
  · go_simp
    refine hK _ _ ?_
    exact ofR_1010 hQ hKK _ (by simp) g5 (is73_alloc hz _) hg5 (R.alloc _) (bel_alloc b _)
  exact AllReady.nil
theorem ofR_0100 {Q : Exit → Act → World → Prop} {tag : Int} {A : Option Addr} {n c : Nat} {w : World} (hQ : OfQ Q tag A n c w) (hKK : ∀ X, Below w.heap.size w X → KK X) {X : World} (v1 : Value) (hI1 : IsStr [] v1) (R : Blk X w.heap.size 26 z16) (b : Below w.heap.size w X) :
    wpAny Tryd.prog .any ofOps Q 5 #[true, true, true, false, false, false, false, false] ⟨#[.int .i64 tag, .slice A n c, undef, undef, .pointer (some ⟨w.heap.size, 0, none⟩), undef, undef, undef, undef, v1, .int .i64 tag, .int .u8 (IntKind.u8.wrap tag), undef, undef, undef, undef, undef, undef, undef, undef, undef, undef, undef, undef, undef, undef, undef, undef, undef, undef, undef, undef], []⟩ X := by
  refine wpAny_ready (rs := [3, 6]) (by kernel_rfl) (by simp) ?_
  refine AllReady.cons (o := ⟨some 12, .buildSlice _ _ _, _, _, _, _⟩) (by rfl) (fun K hK => ?_) ?_
  · go_simp
    refine hK _ _ ?_
    exact ofR_1100 hQ hKK _ (by simp) v1 hI1 (R.alloc _) (bel_alloc b _)
  refine AllReady.cons (o := ⟨some 5, .alloc _, _, _, _, _⟩) (by rfl) (fun K hK => ?_) ?_
  · have hz3 : ∀ w : World, (zeroValue 83).run Tryd.prog w = .ok (.agg z73.toArray) w := zeroSt
    go_simp
    refine hK _ _ ?_
    exact ofR_0110 hQ hKK v1 hI1 _ (is73_new X) (by have := R.lt; omega) (R.alloc _) (bel_alloc b _)
  exact AllReady.nil
theorem ofR_1000 {Q : Exit → Act → World → Prop} {tag : Int} {A : Option Addr} {n c : Nat} {w : World} (hQ : OfQ Q tag A n c w) (hKK : ∀ X, Below w.heap.size w X → KK X) {X : World} (g12 : Nat) (hc : X.cell? ⟨g12, 0, none⟩ = some (.int .u8 (IntKind.u8.wrap tag))) (R : Blk X w.heap.size 26 z16) (b : Below w.heap.size w X) :
    wpAny Tryd.prog .any ofOps Q 5 #[false, true, true, true, false, false, false, false] ⟨#[.int .i64 tag, .slice A n c, undef, undef, .pointer (some ⟨w.heap.size, 0, none⟩), undef, undef, undef, undef, undef, .int .i64 tag, .int .u8 (IntKind.u8.wrap tag), .slice (some ⟨g12, 0, none⟩) 1 1, undef, undef, undef, undef, undef, undef, undef, undef, undef, undef, undef, undef, undef, undef, undef, undef, undef, undef, undef], []⟩ X := by
  refine wpAny_ready (rs := [0, 4, 6]) (by kernel_rfl) (by simp) ?_
  refine AllReady.cons (o := ⟨some 9, .call _, _, _, _, _⟩) (by rfl) (fun K hK => ?_) ?_
  · go_simp
    refine (beginC _).mono ?_
    rintro e w1 ⟨v1, rfl, hI1, hb1⟩
    refine hK _ _ ?_
    exact ofR_1100 hQ hKK g12 (cell_bel hc hb1) v1 hI1 (R.bel hb1) (bel_next b hb1)
  refine AllReady.cons (o := ⟨some 13, .convert _ _ _, _, _, _, _⟩) (by rfl) (fun K hK => ?_) ?_
  · have hcv := conv_tag tag X g12 hc
    go_simp
    refine hK _ _ ?_
    exact ofR_2000 hQ hKK g12 R b
  refine AllReady.cons (o := ⟨some 5, .alloc _, _, _, _, _⟩) (by rfl) (fun K hK => ?_) ?_
  · have hz3 : ∀ w : World, (zeroValue 83).run Tryd.prog w = .ok (.agg z73.toArray) w := zeroSt
    go_simp
    refine hK _ _ ?_
    exact ofR_1010 hQ hKK g12 (cell_alloc hc _) _ (is73_new X) (by have := R.lt; omega) (R.alloc _) (bel_alloc b _)
  exact AllReady.nil
theorem ofR_0000 {Q : Exit → Act → World → Prop} {tag : Int} {A : Option Addr} {n c : Nat} {w : World} (hQ : OfQ Q tag A n c w) (hKK : ∀ X, Below w.heap.size w X → KK X) {X : World}  (R : Blk X w.heap.size 26 z16) (b : Below w.heap.size w X) :
    wpAny Tryd.prog .any ofOps Q 6 #[false, true, true, false, false, false, false, false] ⟨#[.int .i64 tag, .slice A n c, undef, undef, .pointer (some ⟨w.heap.size, 0, none⟩), undef, undef, undef, undef, undef, .int .i64 tag, .int .u8 (IntKind.u8.wrap tag), undef, undef, undef, undef, undef, undef, undef, undef, undef, undef, undef, undef, undef, undef, undef, undef, undef, undef, undef, undef], []⟩ X := by
  refine wpAny_ready (rs := [0, 3, 6]) (by kernel_rfl) (by simp) ?_
  refine AllReady.cons (o := ⟨some 9, .call _, _, _, _, _⟩) (by rfl) (fun K hK => ?_) ?_
  · go_simp
    refine (beginC _).mono ?_
    rintro e w1 ⟨v1, rfl, hI1, hb1⟩
    refine hK _ _ ?_
    exact ofR_0100 hQ hKK v1 hI1 (R.bel hb1) (bel_next b hb1)
  refine AllReady.cons (o := ⟨some 12, .buildSlice _ _ _, _, _, _, _⟩) (by rfl) (fun K hK => ?_) ?_
  · go_simp
    refine hK _ _ ?_
    exact ofR_1000 hQ hKK _ (by simp) (R.alloc _) (bel_alloc b _)
  refine AllReady.cons (o := ⟨some 5, .alloc _, _, _, _, _⟩) (by rfl) (fun K hK => ?_) ?_
  · have hz3 : ∀ w : World, (zeroValue 83).run Tryd.prog w = .ok (.agg z73.toArray) w := zeroSt
    go_simp
    refine hK _ _ ?_
    exact ofR_0010 hQ hKK _ (is73_new X) (by have := R.lt; omega) (R.alloc _) (bel_alloc b _)
  exact AllReady.nil
end Go.Proofs.YthinopepcmidmaaDoor
