/-
  Plain law of seals: what a state says one after the other; liars; names; secrets.
-/
import Derived.Test.YthinopepcmidmaaDoorPl48
set_option linter.unusedSimpArgs false
set_option linter.unusedVariables false
set_option maxRecDepth 100000
set_option maxHeartbeats 1600000
namespace Go.Proofs.YthinopepcmidmaaDoor
/-- What a state says: after how many days, of which kind, and what. -/
abbrev Sd := Int × Int × List UInt8
def sdAt (l : List Sd) (k : Nat) : Sd := l.getD k (0, 0, [])
/-- The day after so many things. -/
def tlD (l : List Sd) : Nat → Int
  | 0 => 0
  | k + 1 => tlD l k + (sdAt l k).1
section
variable (mk : List UInt8 → Sl → List UInt8) (nm : Sl → List UInt8)
/-- Few things, with short bodies. -/
structure SdOk (l : List Sd) : Prop where
  few : l.length ≤ 20
  day : ∀ k, k < l.length → 0 ≤ (sdAt l k).1 ∧ (sdAt l k).1 ≤ 255
  kd : ∀ k, k < l.length → 0 ≤ (sdAt l k).2.1
  bd : ∀ k, k < l.length → (sdAt l k).2.2.length ≤ 100
structure TlOk (r : List (List UInt8)) (who : Int) (l : List Sd) (k : Nat) (o : List Sl) : Prop where
  len : o.length = k
  chn : Chn mk nm r o
  st : ∀ j, j < k → (sAt o j).st = who
  last : 0 < k → (sAt o (k - 1)).dy = tlD l k
section
variable {r : List (List UInt8)} {a b : List Sl} (ha : Chn mk nm r a) (hb : Chn mk nm r b) (hst : ∀ i j, i < a.length → j < b.length → (sAt a i).st = (sAt b j).st)
include ha hb hst
end
end
end Go.Proofs.YthinopepcmidmaaDoor
