/-
  rat: Min, Max, Floor, Ceil.
-/
import Derived.Test.YtcpedbpldgndmaaDoorQpk
set_option linter.unusedSimpArgs false
set_option linter.unusedVariables false
set_option maxRecDepth 100000
set_option maxHeartbeats 1600000
namespace Go.Proofs.YtcpedbpldgndmaaDoor
open Go.RowKit
theorem Turns.of_since {g : Nat} {t : TypeId} {xs ys : List Value} {X Y : World} (h : Since X Y) : Turns g t xs ys X Y :=
  ⟨⟨h.os, h.tape, h.output, h.size, fun k hk _ => h.block k hk⟩, fun hx => .inl (hx.bel h), fun hy => hy.bel h⟩
section
variable {P : Program} {l : List Oper} {ops : Array Oper} {w : World} {Q : Act → World → Prop} {pre : Nat → Nat → Bool} {a : Act} {k : Nat} {o : Oper} {rest : List (Nat × Oper × Spec)} {Fs : List (Nat × (World → Prop))}
end
end Go.Proofs.YtcpedbpldgndmaaDoor
namespace Go.Proofs.YtcpedbpldgndmaaDoor
open Go.RowKit
theorem num_zero (x : Rat) : x.num.natAbs = 0 ↔ x = 0 := by
  constructor
  · intro h
    have h1 : x.num = 0 := by omega
    have := Rat.mkRat_self x
    rw [h1] at this
    rw [← this]
    simp
  · intro h
    rw [h]
    rfl
end Go.Proofs.YtcpedbpldgndmaaDoor
namespace Go.Proofs.YtcpedbpldgndmaaDoor
open Go.RowKit
theorem lenP (n : Bool) (p q : List UInt8) {B : Nat} (hp : p.length ≤ B) (hq : q.length ≤ B) (h1 : 1 ≤ B) : (be (rq n p q).num.natAbs).length ≤ B := by
  show (rP (rq n p q)).length ≤ B
  rcases hv : vd n p q with _ | _
  · rw [vd_not hv]
    exact Nat.zero_le _
  · rw [(vd_eq hv).2.1]
    exact hp
theorem lenD (n : Bool) (p q : List UInt8) {B : Nat} (hp : p.length ≤ B) (hq : q.length ≤ B) (h1 : 1 ≤ B) : (be (rq n p q).den).length ≤ B := by
  obtain ⟨s, t, u, h2, h3, h4, h5, h6⟩ := isF_of n p q hp hq h1 default
  injection h2 with h2
  have h7 := congrArg (fun a : Array Value => a.toList) h2
  simp only [List.cons.injEq, Value.string.injEq, ByteArray.mk.injEq, List.toArray_inj, and_true] at h7
  rw [show be (rq n p q).den = be u from congrArg Array.toList h7.2.2]
  exact h6
end Go.Proofs.YtcpedbpldgndmaaDoor
