/-
  A further part in hash.Of: its row's operations in whatever order.
-/
import Derived.Test.YthinopepcmidmaaDoorWk02q
set_option linter.unusedSimpArgs false
set_option linter.unusedVariables false
set_option maxRecDepth 100000
set_option maxHeartbeats 1600000
namespace Go.Proofs.YthinopepcmidmaaDoor
open Go.RowKit
theorem run_loadAtS {X : World} {g : Nat} {S : List Value} (hB : Blk X g 83 S) (hSl : S.length = 73) : (loadVar 83 ⟨g, 0, none⟩).run Tryd.prog X = .ok (.agg S.toArray) X :=
  run_loadVar_cl (P := Tryd.prog) 83 _ g 0 S hB.cl Tryd.underlying83 rfl (by rw [hSl]; exact size_st)
theorem wp_load_agg {P : Program} {o : Oper} {a : Act} {X : World} {K : Act → World → Prop} {Q : Exit → Act → World → Prop} {ty : TypeId} {x : Operand} {ad : Addr} {v : Value} (ho : o.op = .load ty x) (hx : a.eval x = .pointer (some ad))
    (hr : (loadVar ty ad).run P X = .ok v X) (h : K (a.put o.dst v) X) : Oper.wp P o a X K Q := by
  unfold Oper.wp execOp
  simp only [ho, hx, Instr.loadAt, Instr.sureAddr, Sem.run_bind, Sem.run_pure, Result.andThen_ok, hr]
  exact h
/-- The operations of a region, found in a function's own code. -/
def ofBOpsAt (n : Nat) : Code → Option (Array Oper)
  | .region i o _ => if i = n then some o else none
  | .seq a b => match ofBOpsAt n a with
    | some o => some o
    | none => ofBOpsAt n b
  | .cond _ a b => match ofBOpsAt n a with
    | some o => some o
    | none => ofBOpsAt n b
  | .block _ c => ofBOpsAt n c
  | .loop c => ofBOpsAt n c
  | .scope c => ofBOpsAt n c
  | _ => none
noncomputable def ofBOps : Array Oper := match Tryd.f36.body with
  | some c => (ofBOpsAt 5 c).getD #[]
  | none => #[]
def OfBQ (Q : Exit → Act → World → Prop) (m s : List UInt8) (g : Nat) (w : World) (x0 x1 x2 x3 x4 x6 x8 x9 x10 x11 x12 x13 x14 x15 x16 x17 x18 x19 x20 x21 x22 x23 x24 x25 x26 x27 x28 x29 x30 x31 : Value) : Prop := ∀ (v23 : Value) (S S2 : List Value) (X : World), OfS (m ++ encS s) w (.pointer (some ⟨g, 0, none⟩)) X → Q .normal ⟨#[x0, x1, x2, x3, x4, .pointer (some ⟨g, 0, none⟩), x6, .string ⟨s.toArray⟩, x8, x9, x10, x11, x12, x13, x14, x15, x16, x17, x18, x19, x20, .agg S.toArray, .string ⟨s.toArray⟩, v23, .string ⟨(encS s).toArray⟩, .agg S2.toArray, x26, x27, x28, x29, x30, x31], []⟩ X
theorem ofB_111110 {Q : Exit → Act → World → Prop} {m s : List UInt8} {g : Nat} {S : List Value} {w : World} {x0 x1 x2 x3 x4 x6 x8 x9 x10 x11 x12 x13 x14 x15 x16 x17 x18 x19 x20 x21 x22 x23 x24 x25 x26 x27 x28 x29 x30 x31 : Value} (hQ : OfBQ Q m s g w x0 x1 x2 x3 x4 x6 x8 x9 x10 x11 x12 x13 x14 x15 x16 x17 x18 x19 x20 x21 x22 x23 x24 x25 x26 x27 x28 x29 x30 x31) (hKK : ∀ X, Below w.heap.size w X → KK X) (hsl : s.length ≤ 4294967296) (hml : m.length + (encS s).length ≤ 1152921504606846976) (hS : IsStr m (.agg S.toArray)) (hSl : S.length = 73) (hg : w.heap.size < g) {X : World} (hB : Blk X g 83 S) (R : Blk X w.heap.size 26 z16) (b : Below w.heap.size w X) (v23 : Value) (S2 : List Value) (hI2 : IsStr (m ++ encS s) (.agg S2.toArray)) (hSl2 : S2.length = 73) (hS2 : ∀ u ∈ S2, u.oneCell' = true) :
    wpAny Tryd.prog .any ofBOps Q 1 #[true, true, true, true, true, false] ⟨#[x0, x1, x2, x3, x4, .pointer (some ⟨g, 0, none⟩), x6, .string ⟨s.toArray⟩, x8, x9, x10, x11, x12, x13, x14, x15, x16, x17, x18, x19, x20, .agg S.toArray, .string ⟨s.toArray⟩, v23, .string ⟨(encS s).toArray⟩, .agg S2.toArray, x26, x27, x28, x29, x30, x31], []⟩ X := by
  refine wpAny_ready (rs := [5]) (by kernel_rfl) (by simp) ?_
  refine AllReady.cons (o := ⟨none, .store _ _ _, _, _, _, _⟩) (by rfl) (fun K hK => ?_) ?_
  · have hst := run_store_ys (P := Tryd.prog) hB S2 (hSl2.trans hSl.symm) hS2
    go_simp
    refine hK _ _ ?_
    refine wpAny_done (by kernel_rfl) ?_ _
    exact hQ v23 S S2 _ ⟨g, S2, rfl, hI2, hSl2, Blk.row hB S2, R.row_other (by omega) _, bel_row b (by omega) b.size _, hg⟩
  exact AllReady.nil
theorem ofB_111100 {Q : Exit → Act → World → Prop} {m s : List UInt8} {g : Nat} {S : List Value} {w : World} {x0 x1 x2 x3 x4 x6 x8 x9 x10 x11 x12 x13 x14 x15 x16 x17 x18 x19 x20 x21 x22 x23 x24 x25 x26 x27 x28 x29 x30 x31 : Value} (hQ : OfBQ Q m s g w x0 x1 x2 x3 x4 x6 x8 x9 x10 x11 x12 x13 x14 x15 x16 x17 x18 x19 x20 x21 x22 x23 x24 x25 x26 x27 x28 x29 x30 x31) (hKK : ∀ X, Below w.heap.size w X → KK X) (hsl : s.length ≤ 4294967296) (hml : m.length + (encS s).length ≤ 1152921504606846976) (hS : IsStr m (.agg S.toArray)) (hSl : S.length = 73) (hg : w.heap.size < g) {X : World} (hB : Blk X g 83 S) (R : Blk X w.heap.size 26 z16) (b : Below w.heap.size w X) (v23 : Value) :
    wpAny Tryd.prog .any ofBOps Q 2 #[true, true, true, true, false, false] ⟨#[x0, x1, x2, x3, x4, .pointer (some ⟨g, 0, none⟩), x6, .string ⟨s.toArray⟩, x8, x9, x10, x11, x12, x13, x14, x15, x16, x17, x18, x19, x20, .agg S.toArray, .string ⟨s.toArray⟩, v23, .string ⟨(encS s).toArray⟩, x25, x26, x27, x28, x29, x30, x31], []⟩ X := by
  refine wpAny_ready (rs := [4]) (by kernel_rfl) (by simp) ?_
  refine AllReady.cons (o := ⟨some 25, .call _, _, _, _, _⟩) (by rfl) (fun K hK => ?_) ?_
  · go_simp
    refine (addC m (encS s) _ _ hS hml (hKK _ b)).mono ?_
    rintro e w2 ⟨v2, rfl, hI2, hb2⟩
    obtain ⟨S2, rfl, hSl2, hS2⟩ := isStr_open hI2
    refine hK _ _ ?_
    exact ofB_111110 hQ hKK hsl hml hS hSl hg (hB.bel hb2) (R.bel hb2) (bel_next b hb2) v23 S2 hI2 hSl2 hS2
  exact AllReady.nil
theorem ofB_111000 {Q : Exit → Act → World → Prop} {m s : List UInt8} {g : Nat} {S : List Value} {w : World} {x0 x1 x2 x3 x4 x6 x8 x9 x10 x11 x12 x13 x14 x15 x16 x17 x18 x19 x20 x21 x22 x23 x24 x25 x26 x27 x28 x29 x30 x31 : Value} (hQ : OfBQ Q m s g w x0 x1 x2 x3 x4 x6 x8 x9 x10 x11 x12 x13 x14 x15 x16 x17 x18 x19 x20 x21 x22 x23 x24 x25 x26 x27 x28 x29 x30 x31) (hKK : ∀ X, Below w.heap.size w X → KK X) (hsl : s.length ≤ 4294967296) (hml : m.length + (encS s).length ≤ 1152921504606846976) (hS : IsStr m (.agg S.toArray)) (hSl : S.length = 73) (hg : w.heap.size < g) {X : World} (hB : Blk X g 83 S) (R : Blk X w.heap.size 26 z16) (b : Below w.heap.size w X) (v23 : Value) (hs1 : (convert 69 9 v23).run Tryd.prog X = .ok (.string ⟨(encS s).toArray⟩) X) :
    wpAny Tryd.prog .any ofBOps Q 3 #[true, true, true, false, false, false] ⟨#[x0, x1, x2, x3, x4, .pointer (some ⟨g, 0, none⟩), x6, .string ⟨s.toArray⟩, x8, x9, x10, x11, x12, x13, x14, x15, x16, x17, x18, x19, x20, .agg S.toArray, .string ⟨s.toArray⟩, v23, x24, x25, x26, x27, x28, x29, x30, x31], []⟩ X := by
  refine wpAny_ready (rs := [3]) (by kernel_rfl) (by simp) ?_
  refine AllReady.cons (o := ⟨some 24, .convert _ _ _, _, _, _, _⟩) (by rfl) (fun K hK => ?_) ?_
  · go_simp
    refine hK _ _ ?_
    exact ofB_111100 hQ hKK hsl hml hS hSl hg hB R b v23
  exact AllReady.nil
theorem ofB_011100 {Q : Exit → Act → World → Prop} {m s : List UInt8} {g : Nat} {S : List Value} {w : World} {x0 x1 x2 x3 x4 x6 x8 x9 x10 x11 x12 x13 x14 x15 x16 x17 x18 x19 x20 x21 x22 x23 x24 x25 x26 x27 x28 x29 x30 x31 : Value} (hQ : OfBQ Q m s g w x0 x1 x2 x3 x4 x6 x8 x9 x10 x11 x12 x13 x14 x15 x16 x17 x18 x19 x20 x21 x22 x23 x24 x25 x26 x27 x28 x29 x30 x31) (hKK : ∀ X, Below w.heap.size w X → KK X) (hsl : s.length ≤ 4294967296) (hml : m.length + (encS s).length ≤ 1152921504606846976) (hS : IsStr m (.agg S.toArray)) (hSl : S.length = 73) (hg : w.heap.size < g) {X : World} (hB : Blk X g 83 S) (R : Blk X w.heap.size 26 z16) (b : Below w.heap.size w X) (v23 : Value) :
    wpAny Tryd.prog .any ofBOps Q 3 #[false, true, true, true, false, false] ⟨#[x0, x1, x2, x3, x4, .pointer (some ⟨g, 0, none⟩), x6, .string ⟨s.toArray⟩, x8, x9, x10, x11, x12, x13, x14, x15, x16, x17, x18, x19, x20, x21, .string ⟨s.toArray⟩, v23, .string ⟨(encS s).toArray⟩, x25, x26, x27, x28, x29, x30, x31], []⟩ X := by
  refine wpAny_ready (rs := [0]) (by kernel_rfl) (by simp) ?_
  refine AllReady.cons (o := ⟨some 21, .load _ _, _, _, _, _⟩) (by rfl) (fun K hK => ?_) ?_
  · rw [if_pos (by rfl)]
    refine wp_load_agg (x := .tmp 5) (ty := 83) (by rfl) (by rfl) (run_loadAtS hB hSl) ?_
    refine hK _ _ ?_
    exact ofB_111100 hQ hKK hsl hml hS hSl hg hB R b v23
  exact AllReady.nil
theorem ofB_110000 {Q : Exit → Act → World → Prop} {m s : List UInt8} {g : Nat} {S : List Value} {w : World} {x0 x1 x2 x3 x4 x6 x8 x9 x10 x11 x12 x13 x14 x15 x16 x17 x18 x19 x20 x21 x22 x23 x24 x25 x26 x27 x28 x29 x30 x31 : Value} (hQ : OfBQ Q m s g w x0 x1 x2 x3 x4 x6 x8 x9 x10 x11 x12 x13 x14 x15 x16 x17 x18 x19 x20 x21 x22 x23 x24 x25 x26 x27 x28 x29 x30 x31) (hKK : ∀ X, Below w.heap.size w X → KK X) (hsl : s.length ≤ 4294967296) (hml : m.length + (encS s).length ≤ 1152921504606846976) (hS : IsStr m (.agg S.toArray)) (hSl : S.length = 73) (hg : w.heap.size < g) {X : World} (hB : Blk X g 83 S) (R : Blk X w.heap.size 26 z16) (b : Below w.heap.size w X) :
    wpAny Tryd.prog .any ofBOps Q 4 #[true, true, false, false, false, false] ⟨#[x0, x1, x2, x3, x4, .pointer (some ⟨g, 0, none⟩), x6, .string ⟨s.toArray⟩, x8, x9, x10, x11, x12, x13, x14, x15, x16, x17, x18, x19, x20, .agg S.toArray, .string ⟨s.toArray⟩, x23, x24, x25, x26, x27, x28, x29, x30, x31], []⟩ X := by
  refine wpAny_ready (rs := [2]) (by kernel_rfl) (by simp) ?_
  refine AllReady.cons (o := ⟨some 23, .call _, _, _, _, _⟩) (by rfl) (fun K hK => ?_) ?_
  · go_simp
    refine (wBytes s _ hsl).mono ?_
    rintro e w1 ⟨v23, rfl, hO1, hb1⟩
    have hs1 := run_str 69 9 5 Tryd.underlying69 Tryd.underlying5 Tryd.underlying9 (Rd.of_own hO1)
    refine hK _ _ ?_
    exact ofB_111000 hQ hKK hsl hml hS hSl hg (hB.bel hb1) (R.bel hb1) (bel_next b hb1) v23 hs1
  exact AllReady.nil
theorem ofB_011000 {Q : Exit → Act → World → Prop} {m s : List UInt8} {g : Nat} {S : List Value} {w : World} {x0 x1 x2 x3 x4 x6 x8 x9 x10 x11 x12 x13 x14 x15 x16 x17 x18 x19 x20 x21 x22 x23 x24 x25 x26 x27 x28 x29 x30 x31 : Value} (hQ : OfBQ Q m s g w x0 x1 x2 x3 x4 x6 x8 x9 x10 x11 x12 x13 x14 x15 x16 x17 x18 x19 x20 x21 x22 x23 x24 x25 x26 x27 x28 x29 x30 x31) (hKK : ∀ X, Below w.heap.size w X → KK X) (hsl : s.length ≤ 4294967296) (hml : m.length + (encS s).length ≤ 1152921504606846976) (hS : IsStr m (.agg S.toArray)) (hSl : S.length = 73) (hg : w.heap.size < g) {X : World} (hB : Blk X g 83 S) (R : Blk X w.heap.size 26 z16) (b : Below w.heap.size w X) (v23 : Value) (hs1 : (convert 69 9 v23).run Tryd.prog X = .ok (.string ⟨(encS s).toArray⟩) X) :
    wpAny Tryd.prog .any ofBOps Q 4 #[false, true, true, false, false, false] ⟨#[x0, x1, x2, x3, x4, .pointer (some ⟨g, 0, none⟩), x6, .string ⟨s.toArray⟩, x8, x9, x10, x11, x12, x13, x14, x15, x16, x17, x18, x19, x20, x21, .string ⟨s.toArray⟩, v23, x24, x25, x26, x27, x28, x29, x30, x31], []⟩ X := by
  refine wpAny_ready (rs := [0, 3]) (by kernel_rfl) (by simp) ?_
  refine AllReady.cons (o := ⟨some 21, .load _ _, _, _, _, _⟩) (by rfl) (fun K hK => ?_) ?_
  · rw [if_pos (by rfl)]
    refine wp_load_agg (x := .tmp 5) (ty := 83) (by rfl) (by rfl) (run_loadAtS hB hSl) ?_
    refine hK _ _ ?_
    exact ofB_111000 hQ hKK hsl hml hS hSl hg hB R b v23 hs1
  refine AllReady.cons (o := ⟨some 24, .convert _ _ _, _, _, _, _⟩) (by rfl) (fun K hK => ?_) ?_
  · go_simp
    refine hK _ _ ?_
    exact ofB_011100 hQ hKK hsl hml hS hSl hg hB R b v23
  exact AllReady.nil
theorem ofB_010000 {Q : Exit → Act → World → Prop} {m s : List UInt8} {g : Nat} {S : List Value} {w : World} {x0 x1 x2 x3 x4 x6 x8 x9 x10 x11 x12 x13 x14 x15 x16 x17 x18 x19 x20 x21 x22 x23 x24 x25 x26 x27 x28 x29 x30 x31 : Value} (hQ : OfBQ Q m s g w x0 x1 x2 x3 x4 x6 x8 x9 x10 x11 x12 x13 x14 x15 x16 x17 x18 x19 x20 x21 x22 x23 x24 x25 x26 x27 x28 x29 x30 x31) (hKK : ∀ X, Below w.heap.size w X → KK X) (hsl : s.length ≤ 4294967296) (hml : m.length + (encS s).length ≤ 1152921504606846976) (hS : IsStr m (.agg S.toArray)) (hSl : S.length = 73) (hg : w.heap.size < g) {X : World} (hB : Blk X g 83 S) (R : Blk X w.heap.size 26 z16) (b : Below w.heap.size w X) :
    wpAny Tryd.prog .any ofBOps Q 5 #[false, true, false, false, false, false] ⟨#[x0, x1, x2, x3, x4, .pointer (some ⟨g, 0, none⟩), x6, .string ⟨s.toArray⟩, x8, x9, x10, x11, x12, x13, x14, x15, x16, x17, x18, x19, x20, x21, .string ⟨s.toArray⟩, x23, x24, x25, x26, x27, x28, x29, x30, x31], []⟩ X := by
  refine wpAny_ready (rs := [0, 2]) (by kernel_rfl) (by simp) ?_
  refine AllReady.cons (o := ⟨some 21, .load _ _, _, _, _, _⟩) (by rfl) (fun K hK => ?_) ?_
  · rw [if_pos (by rfl)]
    refine wp_load_agg (x := .tmp 5) (ty := 83) (by rfl) (by rfl) (run_loadAtS hB hSl) ?_
    refine hK _ _ ?_
    exact ofB_110000 hQ hKK hsl hml hS hSl hg hB R b
  refine AllReady.cons (o := ⟨some 23, .call _, _, _, _, _⟩) (by rfl) (fun K hK => ?_) ?_
  · go_simp
    refine (wBytes s _ hsl).mono ?_
    rintro e w1 ⟨v23, rfl, hO1, hb1⟩
    have hs1 := run_str 69 9 5 Tryd.underlying69 Tryd.underlying5 Tryd.underlying9 (Rd.of_own hO1)
    refine hK _ _ ?_
    exact ofB_011000 hQ hKK hsl hml hS hSl hg (hB.bel hb1) (R.bel hb1) (bel_next b hb1) v23 hs1
  exact AllReady.nil
end Go.Proofs.YthinopepcmidmaaDoor
