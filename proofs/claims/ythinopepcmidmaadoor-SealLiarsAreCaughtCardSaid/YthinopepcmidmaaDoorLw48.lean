/-
  Drawn regions with stores into two blocks of the call's own.
-/
import Derived.Test.YthinopepcmidmaaDoorLt48
set_option linter.unusedSimpArgs false
set_option linter.unusedVariables false
set_option maxRecDepth 100000
set_option maxHeartbeats 1600000
namespace Go.Proofs.YthinopepcmidmaaDoor
open Go.RowKit
/-- Nothing but the blocks g and h has turned, and these from xs to ys, from us to vs at most. -/
structure T2 (g h : Nat) (t : TypeId) (xs ys us vs : List Value) (X Y : World) : Prop where
  os : Y.os = X.os
  tape : Y.tape = X.tape
  output : Y.output = X.output
  size : X.heap.size ≤ Y.heap.size
  block : ∀ k, k < X.heap.size → k ≠ g → k ≠ h → Y.heap[k]? = X.heap[k]?
  g1 : Blk X g t xs → Blk Y g t xs ∨ Blk Y g t ys
  g2 : Blk X g t ys → Blk Y g t ys
  h1 : Blk X h t us → Blk Y h t us ∨ Blk Y h t vs
  h2 : Blk X h t vs → Blk Y h t vs
section
variable {g h : Nat} {t : TypeId} {xs ys us vs : List Value}
theorem T2.trans {X Y Z : World} (a : T2 g h t xs ys us vs X Y) (b : T2 g h t xs ys us vs Y Z) : T2 g h t xs ys us vs X Z :=
  ⟨b.os.trans a.os, b.tape.trans a.tape, b.output.trans a.output, Nat.le_trans a.size b.size, fun k hk h1 h2 => (b.block k (Nat.lt_of_lt_of_le hk a.size) h1 h2).trans (a.block k hk h1 h2),
    fun q => by
      rcases a.g1 q with q | q
      · exact b.g1 q
      · exact .inr (b.g2 q), fun q => b.g2 (a.g2 q), fun q => by
      rcases a.h1 q with q | q
      · exact b.h1 q
      · exact .inr (b.h2 q), fun q => b.h2 (a.h2 q)⟩
theorem T2.drew (X : World) : T2 g h t xs ys us vs X X.drew := ⟨rfl, rfl, rfl, Nat.le_refl _, fun _ _ _ _ => rfl, fun q => .inl q, fun q => q, fun q => .inl q, fun q => q⟩
theorem T2.below {B : Nat} {W X Y : World} (a : T2 g h t xs ys us vs X Y) (hb : Below B W X) (hB : B ≤ X.heap.size) (hg : B ≤ g) (hh : B ≤ h) : Below B W Y :=
  ⟨a.os.trans hb.os, a.tape.trans hb.tape, a.output.trans hb.output, Nat.le_trans hb.size a.size, fun k hk => (a.block k (by omega) (by omega) (by omega)).trans (hb.block k hk)⟩
theorem T2.blk {g' : Nat} {t' : TypeId} {zs : List Value} {X Y : World} (a : T2 g h t xs ys us vs X Y) (hz : Blk X g' t' zs) (h1 : g' ≠ g) (h2 : g' ≠ h) : Blk Y g' t' zs := (a.block g' hz.lt h1 h2).trans hz
theorem Cl.turn2 {b off : Nat} {zs : List Value} {X Y : World} (hc : Cl X b off zs) (a : T2 g h t xs ys us vs X Y) (hb : b < X.heap.size) (h1 : b ≠ g) (h2 : b ≠ h) : Cl Y b off zs := fun j u hj => (World.cell?_of_block (w := X) (a := ⟨b, off + j, none⟩) (a.block b hb h1 h2)).trans (hc j u hj)
theorem T2.lasts {n : Nat} : ∀ S, some S ∈ ((List.replicate n (none : Spec)) ++ [some (fun _ X => Blk X g t ys), some (fun _ X => Blk X h t vs)]) → ∀ v X Y, S v X → T2 g h t xs ys us vs X Y → S v Y := by
  intro S hm
  rcases List.mem_append.1 hm with q | q
  · have := List.eq_of_mem_replicate q
    cases this
  · simp only [List.mem_cons, List.not_mem_nil, or_false] at q
    rcases q with q | q
    · injection q with q
      subst q
      exact fun _ _ _ q a => a.g2 q
    · injection q with q
      subst q
      exact fun _ _ _ q a => a.h2 q
variable {P : Program} {l : List Oper} {ops : Array Oper} {w : World} {Q : Act → World → Prop} {pre : Nat → Nat → Bool} {a : Act} {k : Nat} {o : Oper} {rest : List (Nat × Oper × Spec)} {Fs : List (Nat × (World → Prop))}
theorem l2_region {id : Nat} {Q' : Exit → Act → World → Prop} (g h : Nat) (t : TypeId) (xs ys us vs : List Value) (ss : List Spec) (hm : P.follows .mixedOrders = true) (hB : lxB l = true)
    (hst : ∀ S, some S ∈ ss → ∀ v X Y, S v X → T2 g h t xs ys us vs X Y → S v Y) (hc : Cert P l.toArray (T2 g h t xs ys us vs) w (wpList P l.toArray Q' []) (inB (clo l)) (its 0 l ss) [] a) : (Code.region id l.toArray true).wp P Q' a w :=
  cert_region ss hm hB (T2.drew w) (fun _ _ h h' => h.trans h') hst hc.out
theorem l2_val (hw : Region.wanted o (yielded ops a.tmps) = true) (v : Value) (hq : ∀ X, T2 g h t xs ys us vs w X → (execOp a.eval o).run P X = .ok (.value v) X) (hc : Cert P ops (T2 g h t xs ys us vs) w Q pre rest Fs (a.put o.dst v)) :
    Cert P ops (T2 g h t xs ys us vs) w Q pre ((k, o, none) :: rest) Fs a := lx_val hw v (fun X hX _ => hq X hX) hc
theorem set_T2g {X : World} {zs : List Value} (hz : Blk X g t zs) (hne : h ≠ g) (hr : Blk (X.setRow g ys.toArray) g t ys) : T2 g h t xs ys us vs X (X.setRow g ys.toArray) := by
  have hg := setRow_grown X g ys.toArray
  have hk : ∀ k, k ≠ g → (some k : Option Nat) ≠ some g := fun k h1 h2 => h1 (by injection h2)
  exact ⟨hg.os, hg.tape, hg.output, hg.size, fun k h1 h2 _ => hg.block k h1 (hk k h2), fun _ => .inr hr, fun _ => hr, fun q => .inl ((hg.block h q.lt (hk h hne)).trans q), fun q => (hg.block h q.lt (hk h hne)).trans q⟩
theorem set_T2h {X : World} {zs : List Value} (hz : Blk X h t zs) (hne : g ≠ h) (hr : Blk (X.setRow h vs.toArray) h t vs) : T2 g h t xs ys us vs X (X.setRow h vs.toArray) := by
  have hg := setRow_grown X h vs.toArray
  have hk : ∀ k, k ≠ h → (some k : Option Nat) ≠ some h := fun k h1 h2 => h1 (by injection h2)
  exact ⟨hg.os, hg.tape, hg.output, hg.size, fun k h1 _ h2 => hg.block k h1 (hk k h2), fun q => .inl ((hg.block g q.lt (hk g hne)).trans q), fun q => (hg.block g q.lt (hk g hne)).trans q, fun _ => .inr hr, fun _ => hr⟩
theorem l2_sto1 (hw : Region.wanted o (yielded ops a.tmps) = true) (ty : TypeId) (x y : Operand) (ho : o.op = .store ty x y) (hdst : o.dst = none) (hx : a.eval x = .pointer (some ⟨g, 0, none⟩)) (hy : a.eval y = .agg ys.toArray)
    (hB : Blk w g t xs) (hl : ys.length = xs.length) (h1 : ∀ v ∈ ys, v.oneCell' = true) (hi : (P.info? ty).map (·.size) = some ys.length) (hne : h ≠ g) (hc : Cert P ops (T2 g h t xs ys us vs) w Q pre rest ((k, fun X => Blk X g t ys) :: Fs) a) :
    Cert P ops (T2 g h t xs ys us vs) w Q pre ((k, o, some (fun _ X => Blk X g t ys)) :: rest) Fs a := by
  refine ⟨?_⟩
  unfold CertR
  rw [if_pos hw]
  refine ⟨fun X hX _ => ?_, fun _ => by rw [hdst]; exact hc.out⟩
  have key : ∀ zs, Blk X g t zs → zs.length = ys.length → runsR P o a X (fun u X' => Blk X' g t ys ∧ T2 g h t xs ys us vs X X') := fun zs hz hlz => by
    have hr := run_storeVar_row (P := P) ty g t zs.toArray ys.toArray hz (by simp [hlz]) (by simpa using h1) (by simpa using hi)
    have h9 : Blk (X.setRow g ys.toArray) g t ys := setRow_heap X g zs.toArray ys.toArray t (0, 0) hz
    unfold runsR execOp
    simp only [ho, hx, hy, Instr.storeAt, Instr.sureAddr, Sem.run_bind, Sem.run_pure, Result.andThen_ok, hr]
    exact ⟨h9, set_T2g hz hne h9⟩
  rcases hX.g1 hB with hq | hq
  · exact key xs hq hl.symm
  · exact key ys hq rfl
theorem l2_sto2 (hw : Region.wanted o (yielded ops a.tmps) = true) (ty : TypeId) (x y : Operand) (ho : o.op = .store ty x y) (hdst : o.dst = none) (hx : a.eval x = .pointer (some ⟨h, 0, none⟩)) (hy : a.eval y = .agg vs.toArray)
    (hB : Blk w h t us) (hl : vs.length = us.length) (h1 : ∀ v ∈ vs, v.oneCell' = true) (hi : (P.info? ty).map (·.size) = some vs.length) (hne : g ≠ h) (hc : Cert P ops (T2 g h t xs ys us vs) w Q pre rest ((k, fun X => Blk X h t vs) :: Fs) a) :
    Cert P ops (T2 g h t xs ys us vs) w Q pre ((k, o, some (fun _ X => Blk X h t vs)) :: rest) Fs a := by
  refine ⟨?_⟩
  unfold CertR
  rw [if_pos hw]
  refine ⟨fun X hX _ => ?_, fun _ => by rw [hdst]; exact hc.out⟩
  have key : ∀ zs, Blk X h t zs → zs.length = vs.length → runsR P o a X (fun u X' => Blk X' h t vs ∧ T2 g h t xs ys us vs X X') := fun zs hz hlz => by
    have hr := run_storeVar_row (P := P) ty h t zs.toArray vs.toArray hz (by simp [hlz]) (by simpa using h1) (by simpa using hi)
    have h9 : Blk (X.setRow h vs.toArray) h t vs := setRow_heap X h zs.toArray vs.toArray t (0, 0) hz
    unfold runsR execOp
    simp only [ho, hx, hy, Instr.storeAt, Instr.sureAddr, Sem.run_bind, Sem.run_pure, Result.andThen_ok, hr]
    exact ⟨h9, set_T2h hz hne h9⟩
  rcases hX.h1 hB with hq | hq
  · exact key us hq hl.symm
  · exact key vs hq rfl
end
end Go.Proofs.YthinopepcmidmaaDoor
