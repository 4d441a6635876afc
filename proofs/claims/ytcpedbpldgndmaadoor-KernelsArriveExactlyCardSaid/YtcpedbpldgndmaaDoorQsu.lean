/-
  rat: sums of lists.
-/
import Derived.Laws.EntriesVeiled
import Derived.Test.YtcpedbpldgndmaaDoorMF
import Derived.Test.YtcpedbpldgndmaaDoorQdv
set_option linter.unusedSimpArgs false
set_option linter.unusedVariables false
set_option maxRecDepth 100000
set_option maxHeartbeats 1600000
namespace Go.Proofs.YtcpedbpldgndmaaDoor
open Go.RowKit
theorem lenP (n : Bool) (p q : List UInt8) {B : Nat} (hp : p.length ≤ B) (hq : q.length ≤ B) (h1 : 1 ≤ B) : (be (rq n p q).num.natAbs).length ≤ B := by
 show (rP (rq n p q)).length ≤ B
 rcases hv : vd n p q with _ | _
 ·rw [vd_not hv]
  exact Nat.zero_le _
 ·rw [(vd_eq hv).2.1]
  exact hp
theorem lenD (n : Bool) (p q : List UInt8) {B : Nat} (hp : p.length ≤ B) (hq : q.length ≤ B) (h1 : 1 ≤ B) : (be (rq n p q).den).length ≤ B := by
 obtain ⟨s, t, u, h2, h3, h4, h5, h6⟩ := isF_of n p q hp hq h1 default
 injection h2 with h2
 have h7 := congrArg (fun a : Array Value => a.toList) h2;simp only [List.cons.injEq, Value.string.injEq, ByteArray.mk.injEq, List.toArray_inj, and_true] at h7;rw [show be (rq n p q).den = be u from congrArg Array.toList h7.2.2];exact h6
end Go.Proofs.YtcpedbpldgndmaaDoor
namespace Go.Proofs.YtcpedbpldgndmaaDoor
open Go.RowKit
/-- A number's parts; its cells; the sum of a list. -/
abbrev Tr := Bool × List UInt8 × List UInt8
def trq (t : Tr) : Rat := rq t.1 t.2.1 t.2.2
def trc (t : Tr) : List Value := [.bool t.1, .string ⟨t.2.1.toArray⟩, .string ⟨t.2.2.toArray⟩]
theorem exec_ldc {P : Program} {f : Operand → Value} {o : Oper} (T : TypeId) (x : Operand) (ho : o.op = .load T x) (b off : Nat) (hx : f x = .pointer (some ⟨b, off, none⟩)) {d : TypeDesc} (hu : P.underlying T = some d)
  (hag : (match d with | .struct _ | .array _ _ => true | _ => false) = true) (cs : List Value) (X : World) (hc : Cl X b off cs) (hi : (P.info? T).map (·.size) = some cs.length) : (execOp f o).run P X = .ok (.value (.agg cs.toArray)) X := by
 unfold execOp
 simp only [ho, hx, Instr.loadAt, Instr.sureAddr, Sem.run_bind, Sem.run_pure, Result.andThen_ok, run_loadVar_cl T d b off cs hc hu hag hi]
theorem trc_len (t : Tr) : (trc t).length = 3 := rfl
theorem isF_sz {x : Rat} {B : Nat} {v : Value} {X : World} (h : IsF x B v X) : (be x.num.natAbs).length ≤ B ∧ (be x.den).length ≤ B := by
 obtain ⟨n, p, d, _, hd, rfl, hp, hq⟩ := h;rw [low_num n p hd, low_den n p hd, sg_abs];exact ⟨be_leL (Nat.div_le_self _ _) hp, be_leL (Nat.div_le_self _ _) hq⟩
/-- A number's size. -/
def szR (x : Rat) (B : Nat) : Prop := (be x.num.natAbs).length ≤ B ∧ (be x.den).length ≤ B
theorem szR_add {x y : Rat} {B B' : Nat} (hx : szR x B) (hy : szR y B') : szR (x + y) (B + B' + 1) := by
 have key := add_fr (rN x) (rN y) x.num.natAbs y.num.natAbs (Nat.pos_of_ne_zero x.den_nz) (Nat.pos_of_ne_zero y.den_nz);rw [rb_mk, rb_mk] at key;have lpe := be_mulL hx.1 hy.2;have lqd := be_mulL hy.1 hx.2;have lde := be_mulL hx.2 hy.2;have lsum := be_addL lpe lqd;have hde := Nat.mul_pos (Nat.pos_of_ne_zero x.den_nz) (Nat.pos_of_ne_zero y.den_nz)
 have l1 : (be (x.num.natAbs * y.den + y.num.natAbs * x.den)).length ≤ B + B' + 1 := by omega
 have mk : ∀ (s : Bool) (t : Nat), (be t).length ≤ B + B' + 1 → sg (rN x) (x.num.natAbs * y.den) + sg (rN y) (y.num.natAbs * x.den) = sg s t → szR (x + y) (B + B' + 1) := fun s t ht hs => by
  rw [key, hs];exact isF_sz (X := default) ⟨s, t, x.den * y.den, rfl, hde, rfl, ht, by omega⟩
 have l2 := be_leL (Nat.sub_le (x.num.natAbs * y.den) (y.num.natAbs * x.den)) lpe;have l3 := be_leL (Nat.sub_le (y.num.natAbs * x.den) (x.num.natAbs * y.den)) lqd
 by_cases hm : rN x = rN y
 ·exact mk (rN y) _ l1 (by rw [hm]; exact sg_add_same _ _ _)
 ·rcases Nat.lt_or_ge (x.num.natAbs * y.den) (y.num.natAbs * x.den) with h | h
  ·exact mk _ _ (by omega) (sg_add_lt hm h)
  ·exact mk _ _ (by omega) (sg_add_ge hm h)
theorem szR_mul {x y : Rat} {B B' : Nat} (hx : szR x B) (hy : szR y B') : szR (x * y) (B + B') := by
 have key := mul_fr (rN x) (rN y) x.num.natAbs y.num.natAbs x.den y.den;rw [rb_mk, rb_mk] at key;rw [key];exact isF_sz (X := default) ⟨_, _, x.den * y.den, rfl, Nat.mul_pos (Nat.pos_of_ne_zero x.den_nz) (Nat.pos_of_ne_zero y.den_nz), rfl, be_mulL hx.1 hy.1, be_mulL hx.2 hy.2⟩
theorem szR_of (n : Bool) (p q : List UInt8) {B : Nat} (hp : p.length ≤ B) (hq : q.length ≤ B) (h1 : 1 ≤ B) : szR (rq n p q) B := ⟨lenP n p q hp hq h1, lenD n p q hp hq h1⟩
theorem szR_zero : szR 0 1 := ⟨by decide, by rw [show (0 : Rat).den = 1 from rfl, be_one]; decide⟩
theorem szR.mono {x : Rat} {B B' : Nat} (h : szR x B) (hb : B ≤ B') : szR x B' := ⟨Nat.le_trans h.1 hb, Nat.le_trans h.2 hb⟩
theorem szR.rP {x : Rat} {B : Nat} (h : szR x B) : (rP x).length ≤ B := h.1
theorem szR.rD {x : Rat} {B : Nat} (h : szR x B) : (rD x).length ≤ B := by
 unfold Go.Proofs.YtcpedbpldgndmaaDoor.rD
 split
 ·exact Nat.zero_le _
 ·exact h.2
end Go.Proofs.YtcpedbpldgndmaaDoor
