/-
  law 13: quotient.
-/
import Derived.Test.YtchhlgcakjjncaaDoorCat
set_option linter.unusedSimpArgs false
set_option linter.unusedVariables false
set_option maxRecDepth 100000
set_option maxHeartbeats 1600000
namespace Go.Proofs.YtchhlgcakjjncaaDoor
open Go.RowKit
theorem quotC (a d : Int) (qq : Rat) (HQ : Hid (((a : Int) : Rat) / ((d : Int) : Rat) = qq)) (w : World) (ha : insB a) (hd : insB d) (hd0 : d ≠ 0) : Calls Tryd.prog 74 #[.int .i64 a, .int .i64 d] w fun e w' => e = .returned (rbv qq) ∧ Since w w' := by
  go_enter Tryd.func74, Tryd.ntmps74
  go_upto_region 1 with (fail)
  obtain ⟨W0, hW0, hB0, hb⟩ := start1 w 26 [.bool false, .string ⟨#[]⟩, .string ⟨#[]⟩]
  rw [← hW0]
  clear hW0
  refine jq 6 ?_
  refine jm (.int .i64 a) ?_
  refine jm (.int .i64 d) ?_
  refine jc (.tuple #[rt (rN qq) (rP qq) (rD qq), .int .i64 0]) (fun X hX hF => mo (makeC a d X ha hd hd0) (by rw [HQ.out])) ?_
  refine jm (.tuple #[rt (rN qq) (rP qq) (rD qq), .int .i64 0]) ?_
  refine jm (rt (rN qq) (rP qq) (rD qq)) ?_
  refine jm (.int .i64 0) ?_
  refine jz fun X1 hX1 => ?_
  have hB0 := hB0.bel hX1
  have hb := bel_next hb hX1
  clear hX1
  go_upto_region 2 with (refine osn 26 5 11 #[.bool (rN qq), .string ⟨(rP qq).toArray⟩, .string ⟨(rD qq).toArray⟩] info_rat ?_)
  obtain ⟨Y1, hY9, hD5, hS9⟩ := start1 X1 26 [.bool (rN qq), .string ⟨(rP qq).toArray⟩, .string ⟨(rD qq).toArray⟩]
  rw [← hY9]
  clear hY9
  have hgs5 := hb.size
  have hlt5x0 := hB0.lt
  have hB0 := hB0.bel hS9
  have hb := bel_next hb hS9
  clear hS9
  generalize X1.heap.size = g5 at *
  go_upto_region 2 with (fail)
  refine jq 1 ?_
  refine ja hD5 Tryd.underlying26 (by rfl) info_rat ?_
  refine jz fun X2 hX2 => ?_
  have hB0 := hB0.bel hX2
  have hD5 := hD5.bel hX2
  have hb := bel_next hb hX2
  clear hX2
  refine osb 26 4 13 w.heap.size 26 hB0 [.bool (rN qq), .string ⟨(rP qq).toArray⟩, .string ⟨(rD qq).toArray⟩] info_rat ?_
  intro w9 hR9 hO9 hB9 hs9
  have hb9 := hB9 _ _ hb (by omega)
  clear hO9 hB9
  go_wp2
  refine post_cell rfl rfl (by rfl) Tryd.underlying26 rfl hR9 info_rat ⟨rfl, hb9⟩
end Go.Proofs.YtchhlgcakjjncaaDoor
