/-
  Drawn regions with one store into a block of the call's own.
-/
import Derived.Test.YtglnabciomlmmaaDoorLxn
namespace Go.Proofs.YtglnabciomlmmaaDoor
open Go.RowKit

/-- Nothing but block g has turned, and that from xs to ys at most. -/
def Turns (g : Nat) (t : TypeId) (xs ys : List Value) (X Y : World) : Prop :=
  X.grownBy Y (some g) ∧ (Blk X g t xs → Blk Y g t xs ∨ Blk Y g t ys) ∧ (Blk X g t ys → Blk Y g t ys)
theorem Turns.trans {g : Nat} {t : TypeId} {xs ys : List Value} {X Y Z : World} (h : Turns g t xs ys X Y) (h' : Turns g t xs ys Y Z) : Turns g t xs ys X Z := by
  obtain ⟨a1, a2, a3⟩ := h
  obtain ⟨b1, b2, b3⟩ := h'
  refine ⟨⟨b1.os.trans a1.os, b1.tape.trans a1.tape, b1.output.trans a1.output, Nat.le_trans a1.size b1.size, fun k hk hne => (b1.block k (Nat.lt_of_lt_of_le hk a1.size) hne).trans (a1.block k hk hne)⟩, fun h => ?_, fun h => b3 (a3 h)⟩
  rcases a2 h with h | h
  · exact b2 h
  · exact .inr (b3 h)
theorem grownBy_refl (X : World) (row : Option Nat) : X.grownBy X row := ⟨rfl, rfl, rfl, Nat.le_refl _, fun _ _ _ => rfl⟩
theorem Turns.refl (g : Nat) (t : TypeId) (xs ys : List Value) (X : World) : Turns g t xs ys X X := ⟨grownBy_refl _ _, .inl, fun h => h⟩
theorem Turns.drew (g : Nat) (t : TypeId) (xs ys : List Value) (X : World) : Turns g t xs ys X X.drew := ⟨⟨rfl, rfl, rfl, Nat.le_refl _, fun _ _ _ => rfl⟩, fun h => .inl h, fun h => h⟩
theorem grown_setCell (X : World) (g k : Nat) (v : Value) : X.grownBy (X.setCell ⟨g, k, none⟩ v) (some g) :=
  ⟨rfl, rfl, rfl, by simp [World.setCell], fun i _ hne => Below.heap_setCell X ⟨g, k, none⟩ v i (fun h => hne (by rw [h]))⟩
theorem Turns.below {g : Nat} {t : TypeId} {xs ys : List Value} {B : Nat} {W X Y : World} (h : Turns g t xs ys X Y) (hb : Below B W X) (hB : B ≤ X.heap.size) (hg : B ≤ g) : Below B W Y :=
  hb.grown h.1 hB (fun k hk => by simp at hk; omega)
theorem Turns.blk {g g' : Nat} {t t' : TypeId} {xs ys zs : List Value} {X Y : World} (h : Turns g t xs ys X Y) (hz : Blk X g' t' zs) (hne : g' ≠ g) : Blk Y g' t' zs := (grown_block h.1 hz.lt hne).trans hz

section
variable {P : Program} {l : List Oper} {ops : Array Oper} {w : World} {Q : Act → World → Prop} {pre : Nat → Nat → Bool} {a : Act} {k : Nat} {o : Oper} {rest : List (Nat × Oper × Spec)} {Fs : List (Nat × (World → Prop))}
theorem lx_region_st {id : Nat} {Q' : Exit → Act → World → Prop} (g : Nat) (t : TypeId) (xs ys : List Value) (ss : List Spec) (hm : P.follows .mixedOrders = true) (hB : lxB l = true)
    (hst : ∀ S, some S ∈ ss → ∀ v X Y, S v X → Turns g t xs ys X Y → S v Y) (h : Cert P l.toArray (Turns g t xs ys) w (wpList P l.toArray Q' []) (inB (clo l)) (its 0 l ss) [] a) : (Code.region id l.toArray true).wp P Q' a w :=
  cert_region ss hm hB (Turns.drew g t xs ys w) (fun _ _ h h' => h.trans h') hst h.out
/-- The store. -/
theorem lx_store {g : Nat} {t : TypeId} {xs ys : List Value} (hw : Region.wanted o (yielded ops a.tmps) = true) (ty : TypeId) (x y : Operand) (ho : o.op = .store ty x y) (hdst : o.dst = none) (j : Nat) (hx : a.eval x = .pointer (some ⟨g, j, none⟩)) (v : Value) (hy : a.eval y = v)
    (hB : Blk w g t xs) (hys : ys = xs.set j v) (hj : j < xs.length) (hr : ∀ (X : World) (u : Value), X.cell? ⟨g, j, none⟩ = some u → X.frozen? ⟨g, j, none⟩ = false → (execOp a.eval o).run P X = .ok .skip (X.setCell ⟨g, j, none⟩ v))
    (h : Cert P ops (Turns g t xs ys) w Q pre rest ((k, fun X => Blk X g t ys) :: Fs) a) : Cert P ops (Turns g t xs ys) w Q pre ((k, o, some (fun _ X => Blk X g t ys)) :: rest) Fs a := by
  refine ⟨?_⟩
  unfold CertR
  rw [if_pos hw]
  refine ⟨fun X hX _ => ?_, fun _ => by rw [hdst]; exact h.out⟩
  have hyy : ys.set j v = ys := by rw [hys, List.set_set]
  have hyl : j < ys.length := by rw [hys, List.length_set]; exact hj
  rcases hX.2.1 hB with hq | hq
  · have hc : X.cell? ⟨g, j, none⟩ = some (xs[j]'hj) := hq.cell (List.getElem?_eq_getElem hj)
    unfold runsR
    rw [hr X _ hc (hq.free j)]
    have h9 := hq.set j v
    rw [← hys] at h9
    exact ⟨h9, grown_setCell X g j v, fun _ => .inr h9, fun _ => h9⟩
  · have hc : X.cell? ⟨g, j, none⟩ = some (ys[j]'hyl) := hq.cell (List.getElem?_eq_getElem hyl)
    unfold runsR
    rw [hr X _ hc (hq.free j)]
    have h9 := hq.set j v
    rw [hyy] at h9
    exact ⟨h9, grown_setCell X g j v, fun _ => .inr h9, fun _ => h9⟩
theorem turns_one {g : Nat} {t : TypeId} {xs ys : List Value} {n : Nat} : ∀ S, some S ∈ ((List.replicate n (none : Spec)) ++ [some (fun _ X => Blk X g t ys)]) → ∀ v X Y, S v X → Turns g t xs ys X Y → S v Y := by
  intro S hm
  rcases List.mem_append.1 hm with h | h
  · have := List.eq_of_mem_replicate h
    cases this
  · have := List.mem_singleton.1 h
    injection this with this
    subst this
    exact fun _ _ _ h h' => h'.2.2 h
end
end Go.Proofs.YtglnabciomlmmaaDoor
