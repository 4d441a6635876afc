/-
  Law 48: SealLiarsAreCaught.
-/
import Derived.Test.YthinopepcmidmaaDoorLwx48
import Derived.Test.YthinopepcmidmaaDoorLwy48
set_option linter.unusedSimpArgs false
set_option linter.unusedVariables false
set_option maxRecDepth 100000
set_option maxHeartbeats 1600000
namespace Go.Proofs.YthinopepcmidmaaDoor
open Go.RowKit
theorem liarsW (A : Option Addr) (c : Nat) (r : List (List UInt8)) (a : Int) (A1 : Option Addr) (n1 c1 : Nat) (l1 : List Sd) (A2 : Option Addr) (n2 c2 : Nat) (l2 : List Sd) (w : World) (hr : Sts r (.slice A r.length c) w) (ha : 0 ≤ a ∧ a ≤ 255) (hl1 : Rd w 3 (.slice A1 n1 c1) n1 (fl sdc l1)) (hln1 : l1.length = n1) (hsb1 : ∀ s ∈ l1, SdB s) (hl2 : Rd w 3 (.slice A2 n2 c2) n2 (fl sdc l2)) (hln2 : l2.length = n2) (hsb2 : ∀ s ∈ l2, SdB s) (hK : KK w) : Calls Tryd.prog 6 #[.agg #[.slice A r.length c], .int .u8 a, .agg #[.slice A1 n1 c1, .slice A2 n2 c2]] w fun e w' => e = .returned (.bool true) ∧ Since w w' := by
  by_cases h : rckE r = 0 ∧ shB l1 = true ∧ shB l2 = true
  · by_cases h2 : cmn (tlog r (a % (r.length : Int)) l1 n1) (tlog r (a % (r.length : Int)) l2 n2) < n1 ∧ cmn (tlog r (a % (r.length : Int)) l1 n1) (tlog r (a % (r.length : Int)) l2 n2) < n2
    · exact liarsA A c r a A1 n1 c1 l1 A2 n2 c2 l2 w hr ha hl1 hln1 hsb1 hl2 hln2 hsb2 hK h.1 h.2.1 h.2.2 h2
    · exact liarsB A c r a A1 n1 c1 l1 A2 n2 c2 l2 w hr ha hl1 hln1 hsb1 hl2 hln2 hsb2 hK h.1 h.2.1 h.2.2 h2
  · exact liars0 A c r a A1 n1 c1 l1 A2 n2 c2 l2 w hr ha hl1 hln1 hsb1 hl2 hln2 hsb2 hK h
end Go.Proofs.YthinopepcmidmaaDoor
