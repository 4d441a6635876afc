/-
  kernel: Route.
-/
import Derived.Test.YtcpedbpldgndmaaDoorKe
set_option linter.unusedSimpArgs false
set_option linter.unusedVariables false
set_option maxRecDepth 100000
set_option maxHeartbeats 1600000
namespace Go.Proofs.YtcpedbpldgndmaaDoor
open Go.RowKit
theorem rte2 (v vf : Value) (l : List Int) (xs : List Tr) (w : World) (hv : Ks l v w) (hvf : Rl xs vf w) (HK : Hid (Kok l)) (h4 : xs.length ≤ 4000) (HF : Hid (∀ k, k < xs.length → tz (xt xs k).2.1 (xt xs k).2.2 1000000)) (HB : Hid (vds xs = false)) : Calls Tryd.prog 18 #[.agg #[v], vf] w fun e w' => e = .returned (.tuple #[.slice none 0 0, .int .i64 1]) ∧ Since w w' := by
 have HV : Hid (∀ X, Since w X → Ks l v X) := fun X h => Ks.lasts l _ _ _ hv h
 clear hv;have HC : Hid (kcE l = 0) := kcE_ok.2 HK.out;obtain ⟨AF, nf, cf, rfl, hlf, hnf1, hrf⟩ := hvf.at;clear hvf
 have HRF : Hid (∀ X, Since w X → Rd X 3 (.slice AF nf cf) nf (fl trc xs)) := fun X h => hrf.below h
 have HLF := Lib.hid hlf;clear hrf;rw [hlf] at h4
 go_enter Tryd.func18, Tryd.ntmps18
 go_upto_region 1 with fail;obtain ⟨W0, hW0, hB0, hb⟩ := start1 w 24 [v];rw [← hW0];clear hW0;refine jp ?_;refine ja hB0 Tryd.underlying24 (by rfl) info_kn ?_;refine jc (.int .i64 0) (fun X hX hF => mo (kchC _ l X (HV.out X (Since.next hb hX))) (by rw [HC.out])) ?_;refine jm (.int .i64 0) ?_;refine jzb hb fun X1 hX1 hb => ?_;replace hB0 := hB0.bel hX1;clear hX1;go_upto_region 2 with fail;refine jp ?_;refine jm (.int .i64 0) ?_;refine jv (.bool false) (exec_nei _ _ _ _ (by rfl) .i64 0 0 (by rfl) (by rfl) false (by rw [decide_eq_true (by omega)]; rfl)) ?_;refine jzb hb fun X2 hX2 hb => ?_;replace hB0 := hB0.bel hX2;clear hX2;go_upto_region 4 with fail;refine jp ?_;refine jm (.slice AF nf cf) ?_;refine jv (.int .i64 (nf : Int)) (exec_lenv Tryd.underlying43 _ (by rfl) AF nf cf (by rfl) _ rfl) ?_;refine jv (.bool false) (exec_gtr _ _ _ _ (by rfl) .i64 (nf : Int) 4000 (by rfl) (by rfl) false (decide_eq_false (by omega))) ?_;refine jzb hb fun X3 hX3 hb => ?_;replace hB0 := hB0.bel hX3;clear hX3;go_upto_region 6 with fail;refine jp ?_;refine jm (.slice AF nf cf) ?_;refine jv (.int .i64 (nf : Int)) (exec_lenv Tryd.underlying43 _ (by rfl) AF nf cf (by rfl) _ rfl) ?_;refine jm (.int .i64 0) ?_;refine jzb hb fun X4 hX4 hb => ?_;replace hB0 := hB0.bel hX4;clear hX4
 go_wp2
 go_loopw [25] (fun kv wr => ∃ k : Nat, k ≤ nf ∧ kv = .int .i64 (k : Int) ∧ Hid (∀ j, j < k → vd (xt xs j).1 (xt xs j).2.1 (xt xs j).2.2 = true) ∧ Blk wr w.heap.size 24 [v] ∧ Below w.heap.size w wr) (fun kv _ => nf - (intOf kv).toNat)
 case atStart => exact ⟨0, by omega, rfl, (fun j hj => by omega), hB0, hb⟩
 case round =>
  clear hB0 hb;obtain ⟨k, hk, rfl, HZ, hB0, hb⟩ := hrel
  rcases Nat.lt_or_ge k nf with hlt | hlt
  ·obtain ⟨b, off, rfl, hbb, hcx⟩ := Rl.xtAt (HRF.out _ hb) HLF.out hlt
   obtain ⟨x, x9⟩ : ∃ x, x = xt xs k := ⟨_, rfl⟩;have HX := Lib.hid x9;clear x9;rw [← HX.out] at hcx
   have hx : tz x.2.1 x.2.2 1000000 := by rw [HX.out]; exact HF.out k (by rw [HLF.out]; exact hlt)
   go_upto_region 7 with fail;refine jp ?_;refine jv (.bool true) (exec_lss _ _ _ _ (by rfl) .i64 (k : Int) (nf : Int) (by rfl) (by rfl) true (decide_eq_true (by omega))) ?_;refine jzb hb fun X1 hX1 hb => ?_;replace hB0 := hB0.bel hX1;have hcx := hcx.below hX1 hbb;replace hbb := Nat.lt_of_lt_of_le hbb (hX1).size;clear hX1;go_upto_region 8 with fail;refine jq 2 ?_;refine jv (.pointer (some ⟨b, off + k * 3, none⟩)) (exec_ixv Tryd.underlying43 info_rat _ _ (by rfl) b (off) nf cf k (by omega) (by rfl) (by rfl) rfl) ?_;refine jg (.agg #[.bool x.1, st x.2.1, st x.2.2]) (fun X hX hF => exec_ldc 38 _ (by rfl) b (off + k * 3) (by rfl) Tryd.underlying38 rfl [.bool x.1, .string ⟨x.2.1.toArray⟩, .string ⟨x.2.2.toArray⟩] X (Cl.part (hcx.below hX hbb) 0 _ (by rfl)) info_rat) ?_;refine jzb hb fun X2 hX2 hb => ?_;replace hB0 := hB0.bel hX2;have hcx := hcx.below hX2 hbb;replace hbb := Nat.lt_of_lt_of_le hbb (hX2).size;clear hX2;go_upto_region 9 with (refine osn 38 8 28 #[.bool x.1, .string ⟨x.2.1.toArray⟩, .string ⟨x.2.2.toArray⟩] info_rat ?_);obtain ⟨Y2, hY9, hD8, hS9⟩ := start1 X2 38 [.bool x.1, .string ⟨x.2.1.toArray⟩, .string ⟨x.2.2.toArray⟩];rw [← hY9];clear hY9;have hgs8 := hb.size;have hlt8x0 := hB0.lt;have hcx := hcx.below hS9 hbb;replace hbb := Nat.lt_of_lt_of_le hbb (hS9).size;have hB0 := hB0.bel hS9;have hb := bel_next hb hS9;clear hS9;generalize X2.heap.size = g8 at *
   rcases hvx : vd x.1 x.2.1 x.2.2 with _ | _
   ·have HVX := Lib.hid hvx
    refine jp ?_;refine ja hD8 Tryd.underlying38 (by rfl) info_rat ?_;refine jc (.bool false) (fun X hX hF => mo (validG x.1 x.2.1 x.2.2 X (hx.mono (by omega))) (by rw [HVX.out])) ?_;refine jm (.bool true) ?_;refine jzb hb fun X3 hX3 hb => ?_;replace hB0 := hB0.bel hX3;replace hD8 := hD8.bel hX3;clear hX3;go_upto_region 10 with fail;refine jp ?_;refine jm (.slice none 0 0) ?_;refine jm (.int .i64 1) ?_;refine jzb hb fun X4 hX4 hb => ?_;replace hB0 := hB0.bel hX4;replace hD8 := hD8.bel hX4;clear hX4
    go_wp2
    go_ret2
    exact ⟨rfl, hb⟩
   ·have HVX := Lib.hid hvx
    refine jp ?_;refine ja hD8 Tryd.underlying38 (by rfl) info_rat ?_;refine jc (.bool true) (fun X hX hF => mo (validG x.1 x.2.1 x.2.2 X (hx.mono (by omega))) (by rw [HVX.out])) ?_;refine jm (.bool false) ?_;refine jzb hb fun X3 hX3 hb => ?_;replace hB0 := hB0.bel hX3;replace hD8 := hD8.bel hX3;clear hX3
    have HZ2 : Hid (∀ j, j < k + 1 → vd (xt xs j).1 (xt xs j).2.1 (xt xs j).2.2 = true) := fun j hj => by
     rcases Nat.lt_or_ge j k with h9 | h9
     ·exact HZ.out j h9
     ·rw [show j = k by omega, ← HX.out]; exact HVX.out
    go_upto_region 11 with fail;refine jp ?_;refine jv (.int .i64 ((k + 1 : Nat) : Int)) (exec_add _ _ _ _ (by rfl) (k : Int) 1 ((k + 1 : Nat) : Int) (by rfl) (by rfl) (by omega) (by omega) (by omega)) ?_;refine jm (.int .i64 ((k + 1 : Nat) : Int)) ?_;refine jzb hb fun X4 hX4 hb => ?_;replace hB0 := hB0.bel hX4;replace hD8 := hD8.bel hX4;clear hX4
    go_wp2
    go_roundw
    case rel => exact ⟨k + 1, by omega, rfl, HZ2, hB0, hb⟩
    case measure => simp [intOf]; omega
  ·obtain rfl : k = nf := by omega
   exfalso
   have h9 := HB.out
   have h8 : vds xs = true := List.all_eq_true.2 fun t ht => by
    obtain ⟨i, hi, rfl⟩ := List.getElem_of_mem ht;rw [← xt_in hi];exact HZ.out i (by rw [← HLF.out]; exact hi)
   rw [h8] at h9
   cases h9
end Go.Proofs.YtcpedbpldgndmaaDoor
