/-
  Digests of parts, as the program reckons them.
-/
import Derived.Test.YthinopepcmidmaaDoorWk02q
set_option linter.unusedSimpArgs false
set_option linter.unusedVariables false
set_option maxRecDepth 100000
set_option maxHeartbeats 1600000
namespace Go.Proofs.YthinopepcmidmaaDoor
open Go.RowKit
theorem run_loadAtS {X : World} {g : Nat} {S : List Value} (hB : Blk X g 83 S) (hSl : S.length = 73) : (loadVar 83 ⟨g, 0, none⟩).run Tryd.prog X = .ok (.agg S.toArray) X :=
  run_loadVar_cl (P := Tryd.prog) 83 _ g 0 S hB.cl Tryd.underlying83 rfl (by rw [hSl]; exact size_st)
theorem wp_load_agg {P : Program} {o : Oper} {a : Act} {X : World} {K : Act → World → Prop} {Q : Exit → Act → World → Prop} {ty : TypeId} {x : Operand} {ad : Addr} {v : Value} (ho : o.op = .load ty x) (hx : a.eval x = .pointer (some ad))
    (hr : (loadVar ty ad).run P X = .ok v X) (h : K (a.put o.dst v) X) : Oper.wp P o a X K Q := by
  unfold Oper.wp execOp
  simp only [ho, hx, Instr.loadAt, Instr.sureAddr, Sem.run_bind, Sem.run_pure, Result.andThen_ok, hr]
  exact h
/-- The operations of a region, found in a function's own code. -/
def ofBOpsAt (n : Nat) : Code → Option (Array Oper)
  | .region i o _ => if i = n then some o else none
  | .seq a b => match ofBOpsAt n a with
    | some o => some o
    | none => ofBOpsAt n b
  | .cond _ a b => match ofBOpsAt n a with
    | some o => some o
    | none => ofBOpsAt n b
  | .block _ c => ofBOpsAt n c
  | .loop c => ofBOpsAt n c
  | .scope c => ofBOpsAt n c
  | _ => none
noncomputable def ofBOps : Array Oper := match Tryd.f36.body with
  | some c => (ofBOpsAt 5 c).getD #[]
  | none => #[]
def OfBQ (Q : Exit → Act → World → Prop) (m s : List UInt8) (g : Nat) (w : World) (x0 x1 x2 x3 x4 x6 x8 x9 x10 x11 x12 x13 x14 x15 x16 x17 x18 x19 x20 x21 x22 x23 x24 x25 x26 x27 x28 x29 x30 x31 : Value) : Prop := ∀ (v23 : Value) (S S2 : List Value) (X : World), OfS (m ++ encS s) w (.pointer (some ⟨g, 0, none⟩)) X → Q .normal ⟨#[x0, x1, x2, x3, x4, .pointer (some ⟨g, 0, none⟩), x6, .string ⟨s.toArray⟩, x8, x9, x10, x11, x12, x13, x14, x15, x16, x17, x18, x19, x20, .agg S.toArray, .string ⟨s.toArray⟩, v23, .string ⟨(encS s).toArray⟩, .agg S2.toArray, x26, x27, x28, x29, x30, x31], []⟩ X
theorem ofB_111110 {Q : Exit → Act → World → Prop} {m s : List UInt8} {g : Nat} {S : List Value} {w : World} {x0 x1 x2 x3 x4 x6 x8 x9 x10 x11 x12 x13 x14 x15 x16 x17 x18 x19 x20 x21 x22 x23 x24 x25 x26 x27 x28 x29 x30 x31 : Value} (hQ : OfBQ Q m s g w x0 x1 x2 x3 x4 x6 x8 x9 x10 x11 x12 x13 x14 x15 x16 x17 x18 x19 x20 x21 x22 x23 x24 x25 x26 x27 x28 x29 x30 x31) (hKK : ∀ X, Below w.heap.size w X → KK X) (hsl : s.length ≤ 4294967296) (hml : m.length + (encS s).length ≤ 1152921504606846976) (hS : IsStr m (.agg S.toArray)) (hSl : S.length = 73) (hg : w.heap.size < g) {X : World} (hB : Blk X g 83 S) (R : Blk X w.heap.size 26 z16) (b : Below w.heap.size w X) (v23 : Value) (S2 : List Value) (hI2 : IsStr (m ++ encS s) (.agg S2.toArray)) (hSl2 : S2.length = 73) (hS2 : ∀ u ∈ S2, u.oneCell' = true) :
    wpAny Tryd.prog .any ofBOps Q 1 #[true, true, true, true, true, false] ⟨#[x0, x1, x2, x3, x4, .pointer (some ⟨g, 0, none⟩), x6, .string ⟨s.toArray⟩, x8, x9, x10, x11, x12, x13, x14, x15, x16, x17, x18, x19, x20, .agg S.toArray, .string ⟨s.toArray⟩, v23, .string ⟨(encS s).toArray⟩, .agg S2.toArray, x26, x27, x28, x29, x30, x31], []⟩ X := by
  refine wpAny_ready (rs := [5]) (by kernel_rfl) (by simp) ?_
  refine AllReady.cons (o := ⟨none, .store _ _ _, _, _, _, _⟩) (by rfl) (fun K hK => ?_) ?_
  · have hst := run_store_ys (P := Tryd.prog) hB S2 (hSl2.trans hSl.symm) hS2
    go_simp
    refine hK _ _ ?_
    refine wpAny_done (by kernel_rfl) ?_ _
    exact hQ v23 S S2 _ ⟨g, S2, rfl, hI2, hSl2, Blk.row hB S2, R.row_other (by omega) _, bel_row b (by omega) b.size _, hg⟩
  exact AllReady.nil
theorem ofB_111100 {Q : Exit → Act → World → Prop} {m s : List UInt8} {g : Nat} {S : List Value} {w : World} {x0 x1 x2 x3 x4 x6 x8 x9 x10 x11 x12 x13 x14 x15 x16 x17 x18 x19 x20 x21 x22 x23 x24 x25 x26 x27 x28 x29 x30 x31 : Value} (hQ : OfBQ Q m s g w x0 x1 x2 x3 x4 x6 x8 x9 x10 x11 x12 x13 x14 x15 x16 x17 x18 x19 x20 x21 x22 x23 x24 x25 x26 x27 x28 x29 x30 x31) (hKK : ∀ X, Below w.heap.size w X → KK X) (hsl : s.length ≤ 4294967296) (hml : m.length + (encS s).length ≤ 1152921504606846976) (hS : IsStr m (.agg S.toArray)) (hSl : S.length = 73) (hg : w.heap.size < g) {X : World} (hB : Blk X g 83 S) (R : Blk X w.heap.size 26 z16) (b : Below w.heap.size w X) (v23 : Value) :
    wpAny Tryd.prog .any ofBOps Q 2 #[true, true, true, true, false, false] ⟨#[x0, x1, x2, x3, x4, .pointer (some ⟨g, 0, none⟩), x6, .string ⟨s.toArray⟩, x8, x9, x10, x11, x12, x13, x14, x15, x16, x17, x18, x19, x20, .agg S.toArray, .string ⟨s.toArray⟩, v23, .string ⟨(encS s).toArray⟩, x25, x26, x27, x28, x29, x30, x31], []⟩ X := by
  refine wpAny_ready (rs := [4]) (by kernel_rfl) (by simp) ?_
  refine AllReady.cons (o := ⟨some 25, .call _, _, _, _, _⟩) (by rfl) (fun K hK => ?_) ?_
  · go_simp
    refine (addC m (encS s) _ _ hS hml (hKK _ b)).mono ?_
    rintro e w2 ⟨v2, rfl, hI2, hb2⟩
    obtain ⟨S2, rfl, hSl2, hS2⟩ := isStr_open hI2
    refine hK _ _ ?_
    exact ofB_111110 hQ hKK hsl hml hS hSl hg (hB.bel hb2) (R.bel hb2) (bel_next b hb2) v23 S2 hI2 hSl2 hS2
  exact AllReady.nil
theorem ofB_111000 {Q : Exit → Act → World → Prop} {m s : List UInt8} {g : Nat} {S : List Value} {w : World} {x0 x1 x2 x3 x4 x6 x8 x9 x10 x11 x12 x13 x14 x15 x16 x17 x18 x19 x20 x21 x22 x23 x24 x25 x26 x27 x28 x29 x30 x31 : Value} (hQ : OfBQ Q m s g w x0 x1 x2 x3 x4 x6 x8 x9 x10 x11 x12 x13 x14 x15 x16 x17 x18 x19 x20 x21 x22 x23 x24 x25 x26 x27 x28 x29 x30 x31) (hKK : ∀ X, Below w.heap.size w X → KK X) (hsl : s.length ≤ 4294967296) (hml : m.length + (encS s).length ≤ 1152921504606846976) (hS : IsStr m (.agg S.toArray)) (hSl : S.length = 73) (hg : w.heap.size < g) {X : World} (hB : Blk X g 83 S) (R : Blk X w.heap.size 26 z16) (b : Below w.heap.size w X) (v23 : Value) (hs1 : (convert 69 9 v23).run Tryd.prog X = .ok (.string ⟨(encS s).toArray⟩) X) :
    wpAny Tryd.prog .any ofBOps Q 3 #[true, true, true, false, false, false] ⟨#[x0, x1, x2, x3, x4, .pointer (some ⟨g, 0, none⟩), x6, .string ⟨s.toArray⟩, x8, x9, x10, x11, x12, x13, x14, x15, x16, x17, x18, x19, x20, .agg S.toArray, .string ⟨s.toArray⟩, v23, x24, x25, x26, x27, x28, x29, x30, x31], []⟩ X := by
  refine wpAny_ready (rs := [3]) (by kernel_rfl) (by simp) ?_
  refine AllReady.cons (o := ⟨some 24, .convert _ _ _, _, _, _, _⟩) (by rfl) (fun K hK => ?_) ?_
  · go_simp
    refine hK _ _ ?_
    exact ofB_111100 hQ hKK hsl hml hS hSl hg hB R b v23
  exact AllReady.nil
theorem ofB_011100 {Q : Exit → Act → World → Prop} {m s : List UInt8} {g : Nat} {S : List Value} {w : World} {x0 x1 x2 x3 x4 x6 x8 x9 x10 x11 x12 x13 x14 x15 x16 x17 x18 x19 x20 x21 x22 x23 x24 x25 x26 x27 x28 x29 x30 x31 : Value} (hQ : OfBQ Q m s g w x0 x1 x2 x3 x4 x6 x8 x9 x10 x11 x12 x13 x14 x15 x16 x17 x18 x19 x20 x21 x22 x23 x24 x25 x26 x27 x28 x29 x30 x31) (hKK : ∀ X, Below w.heap.size w X → KK X) (hsl : s.length ≤ 4294967296) (hml : m.length + (encS s).length ≤ 1152921504606846976) (hS : IsStr m (.agg S.toArray)) (hSl : S.length = 73) (hg : w.heap.size < g) {X : World} (hB : Blk X g 83 S) (R : Blk X w.heap.size 26 z16) (b : Below w.heap.size w X) (v23 : Value) :
    wpAny Tryd.prog .any ofBOps Q 3 #[false, true, true, true, false, false] ⟨#[x0, x1, x2, x3, x4, .pointer (some ⟨g, 0, none⟩), x6, .string ⟨s.toArray⟩, x8, x9, x10, x11, x12, x13, x14, x15, x16, x17, x18, x19, x20, x21, .string ⟨s.toArray⟩, v23, .string ⟨(encS s).toArray⟩, x25, x26, x27, x28, x29, x30, x31], []⟩ X := by
  refine wpAny_ready (rs := [0]) (by kernel_rfl) (by simp) ?_
  refine AllReady.cons (o := ⟨some 21, .load _ _, _, _, _, _⟩) (by rfl) (fun K hK => ?_) ?_
  · rw [if_pos (by rfl)]
    refine wp_load_agg (x := .tmp 5) (ty := 83) (by rfl) (by rfl) (run_loadAtS hB hSl) ?_
    refine hK _ _ ?_
    exact ofB_111100 hQ hKK hsl hml hS hSl hg hB R b v23
  exact AllReady.nil
theorem ofB_110000 {Q : Exit → Act → World → Prop} {m s : List UInt8} {g : Nat} {S : List Value} {w : World} {x0 x1 x2 x3 x4 x6 x8 x9 x10 x11 x12 x13 x14 x15 x16 x17 x18 x19 x20 x21 x22 x23 x24 x25 x26 x27 x28 x29 x30 x31 : Value} (hQ : OfBQ Q m s g w x0 x1 x2 x3 x4 x6 x8 x9 x10 x11 x12 x13 x14 x15 x16 x17 x18 x19 x20 x21 x22 x23 x24 x25 x26 x27 x28 x29 x30 x31) (hKK : ∀ X, Below w.heap.size w X → KK X) (hsl : s.length ≤ 4294967296) (hml : m.length + (encS s).length ≤ 1152921504606846976) (hS : IsStr m (.agg S.toArray)) (hSl : S.length = 73) (hg : w.heap.size < g) {X : World} (hB : Blk X g 83 S) (R : Blk X w.heap.size 26 z16) (b : Below w.heap.size w X) :
    wpAny Tryd.prog .any ofBOps Q 4 #[true, true, false, false, false, false] ⟨#[x0, x1, x2, x3, x4, .pointer (some ⟨g, 0, none⟩), x6, .string ⟨s.toArray⟩, x8, x9, x10, x11, x12, x13, x14, x15, x16, x17, x18, x19, x20, .agg S.toArray, .string ⟨s.toArray⟩, x23, x24, x25, x26, x27, x28, x29, x30, x31], []⟩ X := by
  refine wpAny_ready (rs := [2]) (by kernel_rfl) (by simp) ?_
  refine AllReady.cons (o := ⟨some 23, .call _, _, _, _, _⟩) (by rfl) (fun K hK => ?_) ?_
  · go_simp
    refine (wBytes s _ hsl).mono ?_
    rintro e w1 ⟨v23, rfl, hO1, hb1⟩
    have hs1 := run_str 69 9 5 Tryd.underlying69 Tryd.underlying5 Tryd.underlying9 (Rd.of_own hO1)
    refine hK _ _ ?_
    exact ofB_111000 hQ hKK hsl hml hS hSl hg (hB.bel hb1) (R.bel hb1) (bel_next b hb1) v23 hs1
  exact AllReady.nil
theorem ofB_011000 {Q : Exit → Act → World → Prop} {m s : List UInt8} {g : Nat} {S : List Value} {w : World} {x0 x1 x2 x3 x4 x6 x8 x9 x10 x11 x12 x13 x14 x15 x16 x17 x18 x19 x20 x21 x22 x23 x24 x25 x26 x27 x28 x29 x30 x31 : Value} (hQ : OfBQ Q m s g w x0 x1 x2 x3 x4 x6 x8 x9 x10 x11 x12 x13 x14 x15 x16 x17 x18 x19 x20 x21 x22 x23 x24 x25 x26 x27 x28 x29 x30 x31) (hKK : ∀ X, Below w.heap.size w X → KK X) (hsl : s.length ≤ 4294967296) (hml : m.length + (encS s).length ≤ 1152921504606846976) (hS : IsStr m (.agg S.toArray)) (hSl : S.length = 73) (hg : w.heap.size < g) {X : World} (hB : Blk X g 83 S) (R : Blk X w.heap.size 26 z16) (b : Below w.heap.size w X) (v23 : Value) (hs1 : (convert 69 9 v23).run Tryd.prog X = .ok (.string ⟨(encS s).toArray⟩) X) :
    wpAny Tryd.prog .any ofBOps Q 4 #[false, true, true, false, false, false] ⟨#[x0, x1, x2, x3, x4, .pointer (some ⟨g, 0, none⟩), x6, .string ⟨s.toArray⟩, x8, x9, x10, x11, x12, x13, x14, x15, x16, x17, x18, x19, x20, x21, .string ⟨s.toArray⟩, v23, x24, x25, x26, x27, x28, x29, x30, x31], []⟩ X := by
  refine wpAny_ready (rs := [0, 3]) (by kernel_rfl) (by simp) ?_
  refine AllReady.cons (o := ⟨some 21, .load _ _, _, _, _, _⟩) (by rfl) (fun K hK => ?_) ?_
  · rw [if_pos (by rfl)]
    refine wp_load_agg (x := .tmp 5) (ty := 83) (by rfl) (by rfl) (run_loadAtS hB hSl) ?_
    refine hK _ _ ?_
    exact ofB_111000 hQ hKK hsl hml hS hSl hg hB R b v23 hs1
  refine AllReady.cons (o := ⟨some 24, .convert _ _ _, _, _, _, _⟩) (by rfl) (fun K hK => ?_) ?_
  · go_simp
    refine hK _ _ ?_
    exact ofB_011100 hQ hKK hsl hml hS hSl hg hB R b v23
  exact AllReady.nil
theorem ofB_010000 {Q : Exit → Act → World → Prop} {m s : List UInt8} {g : Nat} {S : List Value} {w : World} {x0 x1 x2 x3 x4 x6 x8 x9 x10 x11 x12 x13 x14 x15 x16 x17 x18 x19 x20 x21 x22 x23 x24 x25 x26 x27 x28 x29 x30 x31 : Value} (hQ : OfBQ Q m s g w x0 x1 x2 x3 x4 x6 x8 x9 x10 x11 x12 x13 x14 x15 x16 x17 x18 x19 x20 x21 x22 x23 x24 x25 x26 x27 x28 x29 x30 x31) (hKK : ∀ X, Below w.heap.size w X → KK X) (hsl : s.length ≤ 4294967296) (hml : m.length + (encS s).length ≤ 1152921504606846976) (hS : IsStr m (.agg S.toArray)) (hSl : S.length = 73) (hg : w.heap.size < g) {X : World} (hB : Blk X g 83 S) (R : Blk X w.heap.size 26 z16) (b : Below w.heap.size w X) :
    wpAny Tryd.prog .any ofBOps Q 5 #[false, true, false, false, false, false] ⟨#[x0, x1, x2, x3, x4, .pointer (some ⟨g, 0, none⟩), x6, .string ⟨s.toArray⟩, x8, x9, x10, x11, x12, x13, x14, x15, x16, x17, x18, x19, x20, x21, .string ⟨s.toArray⟩, x23, x24, x25, x26, x27, x28, x29, x30, x31], []⟩ X := by
  refine wpAny_ready (rs := [0, 2]) (by kernel_rfl) (by simp) ?_
  refine AllReady.cons (o := ⟨some 21, .load _ _, _, _, _, _⟩) (by rfl) (fun K hK => ?_) ?_
  · rw [if_pos (by rfl)]
    refine wp_load_agg (x := .tmp 5) (ty := 83) (by rfl) (by rfl) (run_loadAtS hB hSl) ?_
    refine hK _ _ ?_
    exact ofB_110000 hQ hKK hsl hml hS hSl hg hB R b
  refine AllReady.cons (o := ⟨some 23, .call _, _, _, _, _⟩) (by rfl) (fun K hK => ?_) ?_
  · go_simp
    refine (wBytes s _ hsl).mono ?_
    rintro e w1 ⟨v23, rfl, hO1, hb1⟩
    have hs1 := run_str 69 9 5 Tryd.underlying69 Tryd.underlying5 Tryd.underlying9 (Rd.of_own hO1)
    refine hK _ _ ?_
    exact ofB_011000 hQ hKK hsl hml hS hSl hg (hB.bel hb1) (R.bel hb1) (bel_next b hb1) v23 hs1
  exact AllReady.nil
end Go.Proofs.YthinopepcmidmaaDoor
namespace Go.Proofs.YthinopepcmidmaaDoor
open Go.RowKit
set_option maxHeartbeats 3200000 in
theorem ofC (tag : Int) (A : Option Addr) (n c : Nat) (ss : List (List UInt8)) (w : World) (hr : Rd w 1 (.slice A n c) n (ss.map tx)) (hn : n ≤ 12) (hs : ∀ s ∈ ss, s.length ≤ 5000) (hK : KK w) :
    Calls Tryd.prog 36 #[.int .i64 tag, .slice A n c] w fun e w' => e = .returned (.agg (((sha (inp tag ss)).take 16).map B8).toArray) ∧ Below w.heap.size w w' := by
  have HT := Lib.hid hr.n_eq
  have hz := zero16
  have hz2 := zero32
  have R0 : Blk (w.alloc (.cells z16.toArray 26)) w.heap.size 26 z16 := Blk.new rfl
  have b0 := (Below.refl w.heap.size w).alloc (Nat.le_refl _) (.cells z16.toArray 26)
  have hKK : ∀ X, Below w.heap.size w X → KK X := fun X h => hK.below h hK.1
  have HKK := Lib.hid hKK
  clear hKK
  go_enter Tryd.func36, Tryd.ntmps36
  go_upto_region 1 with fail
  generalize w.alloc (.cells z16.toArray 26) = W at R0 b0 ⊢
  go_cut [5] (fun v wx => OfS [tagB tag] w v wx)
  case first =>
    refine wp_region_any (by kernel_rfl) ?_
    change wpAny _ _ _ _ _ _ _ (World.drew _)
    refine wpAny_take (i := 1) (v := ?_) rfl (by kernel_rfl) (by kernel_rfl) (by kernel_rfl) (fun _ _ _ h => h) (Or.inl ⟨by rfl, ?_⟩) ?_
    rotate_left
    · intro w; go_simp; rfl
    refine wpAny_take (i := 2) (v := ?_) rfl (by kernel_rfl) (by kernel_rfl) (by kernel_rfl) (fun _ _ _ h => h) (Or.inl ⟨by rfl, ?_⟩) ?_
    rotate_left
    · intro w; go_simp; rfl
    refine ofR_0000 (tag := tag) (A := A) (n := n) (c := c) (w := w) ?_ HKK.out R0.drew b0.drew
    intro g5 g12 v1 S X hS
    go_wp2_with fail
    go_meet
    exact hS
  case rest =>
    obtain ⟨g, S, rfl, hI, hSl, hB5, hR, hb, hg⟩ := hcut
    clear R0 b0
    have h0 : OfS (inp tag (ss.take 0)) w (.pointer (some ⟨g, 0, none⟩)) wc := ⟨g, S, rfl, hI, hSl, hB5, hR, hb, hg⟩
    clear hI hSl hB5 hR hb
    go_wp2
    go_loopw [17] (fun i wr => ∃ k : Nat, k ≤ n ∧ i = .int .i64 (k : Int) ∧ OfS (inp tag (ss.take k)) w (.pointer (some ⟨g, 0, none⟩)) wr) (fun i _ => n - (intOf i).toNat)
    case atStart => exact ⟨0, by omega, rfl, h0⟩
    case round =>
      clear h0
      obtain ⟨k, hk, rfl, g', S', hge, hI, hSl, hB, hR, hb, hg2⟩ := hrel
      injection hge with hge
      injection hge with hge
      injection hge with hge _ _
      subst hge
      have hpl : (msg (ss.take k)).length ≤ 12 * 5010 := Nat.le_trans (msg_len fun x hx => hs x (List.mem_of_mem_take hx)) (Nat.mul_le_mul_right _ (by rw [List.length_take]; omega))
      have hql : (inp tag (ss.take k)).length ≤ 61000 := by unfold inp; simp only [List.length_cons]; omega
      by_cases hlt : k < n
      · obtain ⟨bb, off, s, rfl, hbb, hc, hm, hd⟩ := (hr.below hb).atG (k := k) (by rw [HT.out]; exact hlt)
        have hsl := hs s hm
        have hel := encS_len s
        have hc' : wr.cell? ⟨bb, off + k, none⟩ = some (.string ⟨s.toArray⟩) := hc
        have HS : Hid (inp tag (ss.take (k + 1)) = inp tag (ss.take k) ++ encS s) := by show _ = _; unfold inp; rw [msg_snoc hd.out]; rfl
        clear hc hs hd
        generalize inp tag (ss.take k) = p at hql HS hI
        go_upto_region 5 with fail
        refine wp_region_any (by kernel_rfl) ?_
        change wpAny _ _ _ _ _ _ _ (World.drew _)
        refine wpAny_take (i := 1) (v := ?_) rfl (by kernel_rfl) (by kernel_rfl) (by kernel_rfl) (fun _ _ _ h => h) (Or.inl ⟨by rfl, ?_⟩) ?_
        rotate_left
        · intro w; go_simp; rfl
        refine ofB_010000 (x22 := undef) (m := p) (s := s) (g := g) (S := S') (w := w) ?_ HKK.out (by omega) (by omega) hI hSl hg hB.drew hR.drew hb.drew
        intro v23 S1 S2 X hX
        go_wp2
        go_roundw
        case rel => exact ⟨k + 1, by omega, by go_num, by rw [HS.out]; exact hX⟩
        case measure => simp [intOf]; omega
      · obtain rfl : k = n := by omega
        have ht : ss.take k = ss := List.take_of_length_le (by rw [HT.out]; omega)
        rw [ht] at hI hql
        clear ht hpl
        have hl := sha_len (inp tag ss)
        obtain ⟨h, hh⟩ : ∃ h, h = sha (inp tag ss) := ⟨_, rfl⟩
        rw [← hh] at hl
        have HH := Lib.hid hh
        have HL := Lib.hid hl
        clear hh hl
        have HSL := Lib.hid hSl
        clear hSl
        go_wp2_with ((with_reducible show wpList _ _ _ (⟨some 27, _, _, _, _, _⟩ :: _) _ _); refine op_load_agg rfl 83 (.tmp 5) rfl g 0 rfl _ Tryd.underlying83 rfl S' hB.cl (by rw [HSL.out]; exact size_st) ?_)
        refine (sumC _ _ _ hI (by omega) (HKK.out _ hb)).mono ?_
        rintro e w2 ⟨rfl, hb2⟩
        rw [← HH.out]
        have hB2 := hR.bel hb2
        have bb2 := bel_next hb hb2
        clear hb2 hB hb hR
        go_upto_region 8 with ((with_reducible show wpList _ _ _ (⟨none, .store 74 _ _, _, _, _, _⟩ :: _) _ _); refine op_store_new w2 _ _ rfl 74 (.tmp 8) (.tmp 28) rfl rfl (h.map B8).toArray rfl (by simp [HL.out, o32_len]) (by simpa using B8s_one h) (by simp [HL.out, size_o32]) ?_)
        have B3 : Blk (w2.alloc (.cells (h.map B8).toArray 74)) w2.heap.size 74 (h.map B8) := Blk.new rfl
        have hB3 := hB2.alloc (.cells (h.map B8).toArray 74)
        have bb3 := bel_alloc bb2 (.cells (h.map B8).toArray 74)
        generalize w2.alloc (.cells (h.map B8).toArray 74) = w3 at B3 hB3 bb3 ⊢
        clear hB2 bb2
        generalize w2.heap.size = g3 at B3 ⊢
        have ar := run_arrayAt (P := Tryd.prog) 26 5 16 Tryd.underlying26 (some ⟨g3, 0, none⟩) 16 32 (by omega)
        have hcl : Cl w3 g3 0 ((h.take 16).map B8) := by rw [List.map_take]; exact B3.cl.take 16
        have hl16 : ((h.take 16).map B8).length = 16 := by rw [List.length_map, List.length_take, HL.out]; rfl
        have H16 := Lib.hid hl16
        clear hl16
        go_wp2_with (first
          | ((with_reducible show wpList _ _ _ (⟨some 31, _, _, _, _, _⟩ :: _) _ _); refine op_load_agg rfl 26 (.tmp 30) rfl g3 0 rfl _ Tryd.underlying26 rfl ((h.take 16).map B8) hcl (by rw [H16.out]; exact size_dg) ?_)
          | ((with_reducible show wpList _ _ _ (⟨none, .store 26 _ _, _, _, _, _⟩ :: _) _ _); refine op_store_blk rfl 26 (.tmp 4) (.tmp 31) rfl w.heap.size 26 _ hB3 rfl ((h.take 16).map B8) rfl (by rw [H16.out, z16_len]) (B8s_one _) (by rw [H16.out]; exact size_dg) ?_; intro w9 hC9 hoth9 hbel9 hsz9))
        have hld := run_loadVar_cl (P := Tryd.prog) 26 _ w.heap.size 0 ((h.take 16).map B8) hC9.cl Tryd.underlying26 rfl (by rw [H16.out]; exact size_dg)
        rw [← HH.out]
        refine bodyPost_ret (v := .agg ((h.take 16).map B8).toArray) ?_ rfl ⟨rfl, hbel9 _ _ bb3 (Nat.le_refl _)⟩
        simp [results, Tryd.results36, asAddr, hld, Act.put]
end Go.Proofs.YthinopepcmidmaaDoor
