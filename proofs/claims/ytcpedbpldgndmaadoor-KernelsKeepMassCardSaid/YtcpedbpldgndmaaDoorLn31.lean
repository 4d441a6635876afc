/-
  law 31: KernelsKeepMass, joined.
-/
import Derived.Test.YtcpedbpldgndmaaDoorLnb31
set_option linter.unusedSimpArgs false
set_option linter.unusedVariables false
set_option maxRecDepth 100000
set_option maxHeartbeats 1600000
namespace Go.Proofs.YtcpedbpldgndmaaDoor
open Go.RowKit
theorem kkmC (u1 vf vg : Value) (l : List Int) (xs zs : List Tr) (w : World) (h1 : Ks l u1 w) (hf : Rl xs vf w) (hg : Rl zs vg w) : Calls Tryd.prog 5 #[.agg #[u1], vf, vg] w fun e w' => e = .returned (.bool true) ∧ Since w w' := by
  rcases ha : fewK l.length with _ | _
  · exact kkm0 u1 vf vg l xs zs w h1 hf hg ha
  rcases hs : fewS xs 60 with _ | _
  · exact kkm1 u1 vf vg l xs zs w h1 hf hg ha hs
  rcases ht : fewS zs 60 with _ | _
  · exact kkm2 u1 vf vg l xs zs w h1 hf hg ha hs ht
  by_cases hc : kcE l = 0
  · rcases hv : vds xs with _ | _
    · exact kkm4 u1 vf vg l xs zs w h1 hf hg ha hs ht hc hv
    · exact kkm5 u1 vf vg l xs zs w h1 hf hg ha hs ht hc hv
  · exact kkm3 u1 vf vg l xs zs w h1 hf hg ha hs ht hc
end Go.Proofs.YtcpedbpldgndmaaDoor
