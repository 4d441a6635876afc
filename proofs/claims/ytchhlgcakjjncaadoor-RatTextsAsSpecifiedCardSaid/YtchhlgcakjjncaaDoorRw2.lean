/-
  Drawn regions with a store of a whole struct among other operations.
-/
import Derived.Test.YtchhlgcakjjncaaDoorQpk
set_option linter.unusedSimpArgs false
set_option linter.unusedVariables false
set_option maxRecDepth 100000
set_option maxHeartbeats 1600000
namespace Go.Proofs.YtchhlgcakjjncaaDoor
open Go.RowKit

theorem Turns.of_since {g : Nat} {t : TypeId} {xs ys : List Value} {X Y : World} (h : Since X Y) : Turns g t xs ys X Y :=
  ⟨⟨h.os, h.tape, h.output, h.size, fun k hk _ => h.block k hk⟩, fun hx => .inl (hx.bel h), fun hy => hy.bel h⟩
section
variable {P : Program} {l : List Oper} {ops : Array Oper} {w : World} {Q : Act → World → Prop} {pre : Nat → Nat → Bool} {a : Act} {k : Nat} {o : Oper} {rest : List (Nat × Oper × Spec)} {Fs : List (Nat × (World → Prop))}
theorem lx_storeA {g : Nat} {t : TypeId} {xs ys : List Value} (hw : Region.wanted o (yielded ops a.tmps) = true) (ty : TypeId) (x y : Operand) (ho : o.op = .store ty x y) (hdst : o.dst = none) (hx : a.eval x = .pointer (some ⟨g, 0, none⟩)) (hy : a.eval y = .agg ys.toArray)
    (hB : Blk w g t xs) (hl : ys.length = xs.length) (h1 : ∀ v ∈ ys, v.oneCell' = true) (hi : (P.info? ty).map (·.size) = some ys.length) (h : Cert P ops (Turns g t xs ys) w Q pre rest ((k, fun X => Blk X g t ys) :: Fs) a) :
    Cert P ops (Turns g t xs ys) w Q pre ((k, o, some (fun _ X => Blk X g t ys)) :: rest) Fs a := by
  refine ⟨?_⟩
  unfold CertR
  rw [if_pos hw]
  refine ⟨fun X hX _ => ?_, fun _ => by rw [hdst]; exact h.out⟩
  have key : ∀ zs, Blk X g t zs → zs.length = ys.length → runsR P o a X (fun u X' => Blk X' g t ys ∧ Turns g t xs ys X X') := fun zs hz hlz => by
    have hr := run_storeVar_row (P := P) ty g t zs.toArray ys.toArray hz (by simp [hlz]) (by simpa using h1) (by simpa using hi)
    have h9 : Blk (X.setRow g ys.toArray) g t ys := setRow_heap X g zs.toArray ys.toArray t (0, 0) hz
    unfold runsR execOp
    simp only [ho, hx, hy, Instr.storeAt, Instr.sureAddr, Sem.run_bind, Sem.run_pure, Result.andThen_ok, hr]
    exact ⟨h9, setRow_grown X g ys.toArray, fun _ => .inr h9, fun _ => h9⟩
  rcases hX.2.1 hB with hq | hq
  · exact key xs hq hl.symm
  · exact key ys hq rfl
end
end Go.Proofs.YtchhlgcakjjncaaDoor
