/-
  The reference of layer 31: Route.
-/
import Derived.Test.YtcpedbpldgndmaaGreatDoorQc31
set_option linter.unusedSimpArgs false
set_option linter.unusedVariables false
set_option maxRecDepth 100000
set_option maxHeartbeats 1600000
namespace Go.Proofs.YtcpedbpldgndmaaGreatDoor
open Go.RowKit
theorem info_rt31 : (Tryz.prog.info? 64).map (·.size) = some 2 := by kernel_rfl
theorem info_rtz9 : (Tryz.prog.info? 34).map (fun i => (i.zero, i.size, i.bytes)) = some (some (.agg #[.bool false, .string ⟨#[]⟩, .string ⟨#[]⟩]), 3, 40) := by kernel_rfl
theorem rq_ownT {X : World} {base k : Nat} {v : Value} {l : List Rat} (h : X.ownsRow base 34 3 v k (fl rc l)) (hk : l.length = k) : Rq l v X := by
 have h1 : fl trc (l.map tr) = fl rc l := by
  unfold fl
  rw [List.map_map]
  rfl
 show Rd X 3 v (l.map tr).length (fl trc (l.map tr))
 rw [h1, List.length_map, hk];exact Rd.of_own h
theorem fl_snocT {α : Type} {g : α → List Value} (l : List α) (x : α) : fl g (l ++ [x]) = fl g l ++ g x := by
 rw [fl_app]
 simp [fl]
theorem rrt0 (v vf : Value) (l : List Int) (xs : List Tr) (w : World) (hv : Ks l v w) (hvf : Rl xs vf w) (HE : Hid (kcE l ≠ 0)) : Calls Tryz.prog 23 #[.agg #[v], vf] w fun e w' => e = .returned (.agg #[.slice none 0 0, .int .i64 (kcE l)]) ∧ Since w w' := by
 have HV : Hid (∀ X, Since w X → Ks l v X) := fun X h => Ks.lasts l _ _ _ hv h
 clear hv;obtain ⟨z, z9⟩ : ∃ z, z = kcE l := ⟨_, rfl⟩;have HZ := Lib.hid z9
 have hz0 : z ≠ 0 := by rw [z9]; exact HE.out
 clear z9 hvf
 go_enter Tryz.func23, Tryz.ntmps23
 go_upto_region 1 with fail;obtain ⟨W0, hW0, hB0, hB1, hb⟩ := start2 w 24 64 [v] [.slice none 0 0, .int .i64 0];rw [← hW0];clear hW0;refine jp ?_;refine ja hB0 Tryz.underlying24 (by rfl) info_kn ?_;refine jc (.int .i64 z) (fun X hX hF => mo (rckC _ l X (HV.out X (Since.next hb hX))) (by rw [HZ.out])) ?_;refine jm (.int .i64 z) ?_;refine jzb hb fun X1 hX1 hb => ?_;replace hB0 := hB0.bel hX1;replace hB1 := hB1.bel hX1;clear hX1;go_upto_region 2 with fail;refine jp ?_;refine jm (.int .i64 z) ?_;refine jv (.bool true) (exec_nei _ _ _ _ (by rfl) .i64 z 0 (by rfl) (by rfl) true (by rw [decide_eq_false (by omega)]; rfl)) ?_;refine jzb hb fun X2 hX2 hb => ?_;replace hB0 := hB0.bel hX2;replace hB1 := hB1.bel hX2;clear hX2;go_upto_region 3 with fail;refine jq 2 ?_;refine jm (.int .i64 z) ?_;refine jn (.agg #[.slice none 0 0, .int .i64 z]) ?_;refine jzb hb fun X3 hX3 hb => ?_;replace hB0 := hB0.bel hX3;replace hB1 := hB1.bel hX3;clear hX3;refine osb 64 4 17 (w.heap.size + 1) 64 hB1 [.slice none 0 0, .int .i64 z] info_rt31 ?_;intro w9 hR9 hO9 hB9 hs9;have hb9 := hB9 _ _ hb (by omega);have hB0 := hO9 _ _ _ (by omega) hB0;clear hO9 hB9
 go_wp2
 refine post_cell rfl rfl (by rfl) Tryz.underlying64 rfl hR9 info_rt31 ⟨by rw [← HZ.out], hb9⟩
theorem rrt2 (v vf : Value) (l : List Int) (xs : List Tr) (w : World) (hv : Ks l v w) (hvf : Rl xs vf w) (HK : Hid (Kok l)) (h4 : xs.length ≤ 60) (HF : Hid (∀ k, tz (xt xs k).2.1 (xt xs k).2.2 1000)) (HB : Hid (vds xs = false)) : Calls Tryz.prog 23 #[.agg #[v], vf] w fun e w' => e = .returned (.agg #[.slice none 0 0, .int .i64 1]) ∧ Since w w' := by
 obtain ⟨A, n, c, rfl, hln, hn1, hr⟩ := hv.at;have HLN := Lib.hid hln
 have HV : Hid (∀ X, Since w X → Ks l (.slice A n c) X) := fun X h => Ks.lasts l _ _ _ hv h
 have HRX : Hid (Rd w 1 (.slice A n c) n (l.map I64)) := hr;clear hv hln hr;have HC : Hid (kcE l = 0) := kcE_ok.2 HK.out;obtain ⟨AF, nf, cf, rfl, hlf, hnf1, hrf⟩ := hvf.at;clear hvf;have HRF : Hid (Rd w 3 (.slice AF nf cf) nf (fl trc xs)) := hrf;have HLF := Lib.hid hlf;clear hrf;rw [hlf] at h4
 go_enter Tryz.func23, Tryz.ntmps23
 go_upto_region 1 with fail;obtain ⟨W0, hW0, hB0, hB1, hb⟩ := start2 w 24 64 [.slice A n c] [.slice none 0 0, .int .i64 0];rw [← hW0];clear hW0;refine jp ?_;refine ja hB0 Tryz.underlying24 (by rfl) info_kn ?_;refine jc (.int .i64 0) (fun X hX hF => mo (rckC _ l X (HV.out X (Since.next hb hX))) (by rw [HC.out])) ?_;refine jm (.int .i64 0) ?_;refine jzb hb fun X1 hX1 hb => ?_;replace hB0 := hB0.bel hX1;replace hB1 := hB1.bel hX1;clear hX1;go_upto_region 2 with fail;refine jp ?_;refine jm (.int .i64 0) ?_;refine jv (.bool false) (exec_nei _ _ _ _ (by rfl) .i64 0 0 (by rfl) (by rfl) false (by rw [decide_eq_true (by omega)]; rfl)) ?_;refine jzb hb fun X2 hX2 hb => ?_;replace hB0 := hB0.bel hX2;replace hB1 := hB1.bel hX2;clear hX2;go_upto_region 4 with fail;refine jp ?_;refine jm (.slice AF nf cf) ?_;refine jv (.int .i64 (nf : Int)) (exec_lenv Tryz.underlying52 _ (by rfl) AF nf cf (by rfl) _ rfl) ?_;refine jv (.bool false) (exec_gtr _ _ _ _ (by rfl) .i64 (nf : Int) 4000 (by rfl) (by rfl) false (decide_eq_false (by omega))) ?_;refine jzb hb fun X3 hX3 hb => ?_;replace hB0 := hB0.bel hX3;replace hB1 := hB1.bel hX3;clear hX3;go_upto_region 6 with fail;refine jp ?_;refine jm (.int .i64 0) ?_;refine jzb hb fun X4 hX4 hb => ?_;replace hB0 := hB0.bel hX4;replace hB1 := hB1.bel hX4;clear hX4
 go_wp2
 go_loopw [6] (fun kv wr => ∃ k : Nat, k ≤ nf ∧ kv = .int .i64 (k : Int) ∧ Hid (∀ j, j < k → vd (xt xs j).1 (xt xs j).2.1 (xt xs j).2.2 = true) ∧ Blk wr w.heap.size 24 [.slice A n c] ∧ Blk wr (w.heap.size + 1) 64 [.slice none 0 0, .int .i64 0] ∧ Below w.heap.size w wr) (fun kv _ => nf - (intOf kv).toNat)
 case atStart => exact ⟨0, by omega, rfl, (fun j hj => by omega), hB0, hB1, hb⟩
 case round =>
  clear hB0 hB1 hb;obtain ⟨k, hk, rfl, HZ, hB0, hB1, hb⟩ := hrel
  rcases Nat.lt_or_ge k nf with hlt | hlt
  ·obtain ⟨b, off, rfl, hbw, hcw⟩ := Rl.xtAt HRF.out HLF.out hlt
   have hcx := hcw.below hb hbw;have hbb := Nat.lt_of_lt_of_le hbw hb.size;obtain ⟨x, x9⟩ : ∃ x, x = xt xs k := ⟨_, rfl⟩;have HX := Lib.hid x9;clear x9;rw [← HX.out] at hcx
   have hx : tz x.2.1 x.2.2 1000 := by rw [HX.out]; exact HF.out k
   go_upto_region 7 with fail;refine jp ?_;refine jm (.int .i64 (k : Int)) ?_;refine jm (.slice (some ⟨b, off, none⟩) nf cf) ?_;refine jv (.int .i64 (nf : Int)) (exec_lenv Tryz.underlying52 _ (by rfl) (some ⟨b, off, none⟩) nf cf (by rfl) _ rfl) ?_;refine jv (.bool true) (exec_lss _ _ _ _ (by rfl) .i64 (k : Int) (nf : Int) (by rfl) (by rfl) true (decide_eq_true (by omega))) ?_;refine jzb hb fun X1 hX1 hb => ?_;replace hB0 := hB0.bel hX1;replace hB1 := hB1.bel hX1;have hcx := hcx.below hX1 hbb;replace hbb := Nat.lt_of_lt_of_le hbb (hX1).size;clear hX1
   rcases hvx : vd x.1 x.2.1 x.2.2 with _ | _
   ·have HVX := Lib.hid hvx
    go_upto_region 9 with fail;refine jp ?_;refine jm (.slice (some ⟨b, off, none⟩) nf cf) ?_;refine jm (.int .i64 (k : Int)) ?_;refine jv (.pointer (some ⟨b, off + k * 3, none⟩)) (exec_ixv Tryz.underlying52 info_rat _ _ (by rfl) b (off) nf cf k (by omega) (by rfl) (by rfl) rfl) ?_;refine jg (.agg #[.bool x.1, st x.2.1, st x.2.2]) (fun X hX hF => exec_ldc 34 _ (by rfl) b (off + k * 3) (by rfl) Tryz.underlying34 rfl [.bool x.1, .string ⟨x.2.1.toArray⟩, .string ⟨x.2.2.toArray⟩] X (Cl.part (hcx.below hX hbb) 0 _ (by rfl)) info_rat) ?_;refine jc (.bool false) (fun X hX hF => mo (rvQ5 x.1 x.2.1 x.2.2 X (Nat.le_trans hx.1 (by omega)) (Nat.le_trans hx.2 (by omega))) (by rw [HVX.out])) ?_;refine jm (.bool false) ?_;refine jzb hb fun X2 hX2 hb => ?_;replace hB0 := hB0.bel hX2;replace hB1 := hB1.bel hX2;have hcx := hcx.below hX2 hbb;replace hbb := Nat.lt_of_lt_of_le hbb (hX2).size;clear hX2;go_upto_region 10 with fail;refine jp ?_;refine jm (.bool false) ?_;refine jm (.bool true) ?_;refine jzb hb fun X3 hX3 hb => ?_;replace hB0 := hB0.bel hX3;replace hB1 := hB1.bel hX3;clear hX3;go_upto_region 11 with fail;refine jq 1 ?_;refine jn (.agg #[.slice none 0 0, .int .i64 1]) ?_;refine jzb hb fun X4 hX4 hb => ?_;replace hB0 := hB0.bel hX4;replace hB1 := hB1.bel hX4;clear hX4;refine osb 64 4 35 (w.heap.size + 1) 64 hB1 [.slice none 0 0, .int .i64 1] info_rt31 ?_;intro w9 hR9 hO9 hB9 hs9;have hb9 := hB9 _ _ hb (by omega);have hB0 := hO9 _ _ _ (by omega) hB0;clear hO9 hB9
    go_wp2
    refine post_cell rfl rfl (by rfl) Tryz.underlying64 rfl hR9 info_rt31 ⟨rfl, hb9⟩
   ·have HVX := Lib.hid hvx
    go_upto_region 9 with fail;refine jp ?_;refine jm (.slice (some ⟨b, off, none⟩) nf cf) ?_;refine jm (.int .i64 (k : Int)) ?_;refine jv (.pointer (some ⟨b, off + k * 3, none⟩)) (exec_ixv Tryz.underlying52 info_rat _ _ (by rfl) b (off) nf cf k (by omega) (by rfl) (by rfl) rfl) ?_;refine jg (.agg #[.bool x.1, st x.2.1, st x.2.2]) (fun X hX hF => exec_ldc 34 _ (by rfl) b (off + k * 3) (by rfl) Tryz.underlying34 rfl [.bool x.1, .string ⟨x.2.1.toArray⟩, .string ⟨x.2.2.toArray⟩] X (Cl.part (hcx.below hX hbb) 0 _ (by rfl)) info_rat) ?_;refine jc (.bool true) (fun X hX hF => mo (rvQ5 x.1 x.2.1 x.2.2 X (Nat.le_trans hx.1 (by omega)) (Nat.le_trans hx.2 (by omega))) (by rw [HVX.out])) ?_;refine jm (.bool true) ?_;refine jzb hb fun X2 hX2 hb => ?_;replace hB0 := hB0.bel hX2;replace hB1 := hB1.bel hX2;have hcx := hcx.below hX2 hbb;replace hbb := Nat.lt_of_lt_of_le hbb (hX2).size;clear hX2;go_upto_region 10 with fail;refine jp ?_;refine jm (.bool true) ?_;refine jm (.bool false) ?_;refine jzb hb fun X3 hX3 hb => ?_;replace hB0 := hB0.bel hX3;replace hB1 := hB1.bel hX3;clear hX3
    have HZ2 : Hid (∀ j, j < k + 1 → vd (xt xs j).1 (xt xs j).2.1 (xt xs j).2.2 = true) := fun j hj => by
     rcases Nat.lt_or_ge j k with h9 | h9
     ·exact HZ.out j h9
     ·rw [show j = k by omega, ← HX.out]; exact HVX.out
    go_upto_region 8 with fail;refine jp ?_;refine jm (.int .i64 (k : Int)) ?_;refine jv (.int .i64 ((k + 1 : Nat) : Int)) (exec_add _ _ _ _ (by rfl) (k : Int) 1 ((k + 1 : Nat) : Int) (by rfl) (by rfl) (by omega) (by omega) (by omega)) ?_;refine jm (.int .i64 ((k + 1 : Nat) : Int)) ?_;refine jzb hb fun X4 hX4 hb => ?_;replace hB0 := hB0.bel hX4;replace hB1 := hB1.bel hX4;clear hX4
    go_wp2
    go_roundw
    case rel => exact ⟨k + 1, by omega, rfl, HZ2, hB0, hB1, hb⟩
    case measure => simp [intOf]; omega
  ·obtain rfl : nf = k := by omega
   exfalso
   have h9 := HB.out
   have h8 : vds xs = true := List.all_eq_true.2 fun t ht => by
    obtain ⟨i, hi, rfl⟩ := List.getElem_of_mem ht;rw [← xt_in hi];exact HZ.out i (by rw [← HLF.out]; exact hi)
   rw [h8] at h9
   cases h9
theorem rrt3 (v vf : Value) (l : List Int) (xs : List Tr) (w : World) (hv : Ks l v w) (hvf : Rl xs vf w) (HK : Hid (Kok l)) (h4 : xs.length ≤ 60) (HF : Hid (∀ k, tz (xt xs k).2.1 (xt xs k).2.2 1000)) (HB : Hid (vds xs = true)) (HN : Hid (xs = [])) : Calls Tryz.prog 23 #[.agg #[v], vf] w fun e w' => ∃ v', e = .returned (.agg #[v', .int .i64 0]) ∧ Rq [] v' w' ∧ Since w w' := by
 obtain ⟨A, n, c, rfl, hln, hn1, hr⟩ := hv.at;have HLN := Lib.hid hln
 have HV : Hid (∀ X, Since w X → Ks l (.slice A n c) X) := fun X h => Ks.lasts l _ _ _ hv h
 have HRX : Hid (Rd w 1 (.slice A n c) n (l.map I64)) := hr;clear hv hln hr;have HC : Hid (kcE l = 0) := kcE_ok.2 HK.out;obtain ⟨AF, nf, cf, rfl, hlf, hnf1, hrf⟩ := hvf.at;clear hvf;have HRF : Hid (Rd w 3 (.slice AF nf cf) nf (fl trc xs)) := hrf;have HLF := Lib.hid hlf;clear hrf;rw [hlf] at h4
 go_enter Tryz.func23, Tryz.ntmps23
 go_upto_region 1 with fail;obtain ⟨W0, hW0, hB0, hB1, hb⟩ := start2 w 24 64 [.slice A n c] [.slice none 0 0, .int .i64 0];rw [← hW0];clear hW0;refine jp ?_;refine ja hB0 Tryz.underlying24 (by rfl) info_kn ?_;refine jc (.int .i64 0) (fun X hX hF => mo (rckC _ l X (HV.out X (Since.next hb hX))) (by rw [HC.out])) ?_;refine jm (.int .i64 0) ?_;refine jzb hb fun X1 hX1 hb => ?_;replace hB0 := hB0.bel hX1;replace hB1 := hB1.bel hX1;clear hX1;go_upto_region 2 with fail;refine jp ?_;refine jm (.int .i64 0) ?_;refine jv (.bool false) (exec_nei _ _ _ _ (by rfl) .i64 0 0 (by rfl) (by rfl) false (by rw [decide_eq_true (by omega)]; rfl)) ?_;refine jzb hb fun X2 hX2 hb => ?_;replace hB0 := hB0.bel hX2;replace hB1 := hB1.bel hX2;clear hX2;go_upto_region 4 with fail;refine jp ?_;refine jm (.slice AF nf cf) ?_;refine jv (.int .i64 (nf : Int)) (exec_lenv Tryz.underlying52 _ (by rfl) AF nf cf (by rfl) _ rfl) ?_;refine jv (.bool false) (exec_gtr _ _ _ _ (by rfl) .i64 (nf : Int) 4000 (by rfl) (by rfl) false (decide_eq_false (by omega))) ?_;refine jzb hb fun X3 hX3 hb => ?_;replace hB0 := hB0.bel hX3;replace hB1 := hB1.bel hX3;clear hX3;go_upto_region 6 with fail;refine jp ?_;refine jm (.int .i64 0) ?_;refine jzb hb fun X4 hX4 hb => ?_;replace hB0 := hB0.bel hX4;replace hB1 := hB1.bel hX4;clear hX4
 go_wp2
 go_loopw [6] (fun kv wr => ∃ k : Nat, k ≤ nf ∧ kv = .int .i64 (k : Int) ∧ Hid (∀ j, j < k → vd (xt xs j).1 (xt xs j).2.1 (xt xs j).2.2 = true) ∧ Blk wr w.heap.size 24 [.slice A n c] ∧ Blk wr (w.heap.size + 1) 64 [.slice none 0 0, .int .i64 0] ∧ Below w.heap.size w wr) (fun kv _ => nf - (intOf kv).toNat)
 case atStart => exact ⟨0, by omega, rfl, (fun j hj => by omega), hB0, hB1, hb⟩
 case round =>
  clear hB0 hB1 hb;obtain ⟨k, hk, rfl, HZ, hB0, hB1, hb⟩ := hrel
  rcases Nat.lt_or_ge k nf with hlt | hlt
  ·obtain ⟨b, off, rfl, hbw, hcw⟩ := Rl.xtAt HRF.out HLF.out hlt
   have hcx := hcw.below hb hbw;have hbb := Nat.lt_of_lt_of_le hbw hb.size;obtain ⟨x, x9⟩ : ∃ x, x = xt xs k := ⟨_, rfl⟩;have HX := Lib.hid x9;clear x9;rw [← HX.out] at hcx
   have hx : tz x.2.1 x.2.2 1000 := by rw [HX.out]; exact HF.out k
   go_upto_region 7 with fail;refine jp ?_;refine jm (.int .i64 (k : Int)) ?_;refine jm (.slice (some ⟨b, off, none⟩) nf cf) ?_;refine jv (.int .i64 (nf : Int)) (exec_lenv Tryz.underlying52 _ (by rfl) (some ⟨b, off, none⟩) nf cf (by rfl) _ rfl) ?_;refine jv (.bool true) (exec_lss _ _ _ _ (by rfl) .i64 (k : Int) (nf : Int) (by rfl) (by rfl) true (decide_eq_true (by omega))) ?_;refine jzb hb fun X1 hX1 hb => ?_;replace hB0 := hB0.bel hX1;replace hB1 := hB1.bel hX1;have hcx := hcx.below hX1 hbb;replace hbb := Nat.lt_of_lt_of_le hbb (hX1).size;clear hX1
   have HVX : Hid (vd x.1 x.2.1 x.2.2 = true) := by
    show _ = _
    rw [HX.out, xt_in (by rw [HLF.out]; exact hlt)];exact List.all_eq_true.1 HB.out _ (List.getElem_mem _)
   go_upto_region 9 with fail;refine jp ?_;refine jm (.slice (some ⟨b, off, none⟩) nf cf) ?_;refine jm (.int .i64 (k : Int)) ?_;refine jv (.pointer (some ⟨b, off + k * 3, none⟩)) (exec_ixv Tryz.underlying52 info_rat _ _ (by rfl) b (off) nf cf k (by omega) (by rfl) (by rfl) rfl) ?_;refine jg (.agg #[.bool x.1, st x.2.1, st x.2.2]) (fun X hX hF => exec_ldc 34 _ (by rfl) b (off + k * 3) (by rfl) Tryz.underlying34 rfl [.bool x.1, .string ⟨x.2.1.toArray⟩, .string ⟨x.2.2.toArray⟩] X (Cl.part (hcx.below hX hbb) 0 _ (by rfl)) info_rat) ?_;refine jc (.bool true) (fun X hX hF => mo (rvQ5 x.1 x.2.1 x.2.2 X (Nat.le_trans hx.1 (by omega)) (Nat.le_trans hx.2 (by omega))) (by rw [HVX.out])) ?_;refine jm (.bool true) ?_;refine jzb hb fun X2 hX2 hb => ?_;replace hB0 := hB0.bel hX2;replace hB1 := hB1.bel hX2;have hcx := hcx.below hX2 hbb;replace hbb := Nat.lt_of_lt_of_le hbb (hX2).size;clear hX2;go_upto_region 10 with fail;refine jp ?_;refine jm (.bool true) ?_;refine jm (.bool false) ?_;refine jzb hb fun X3 hX3 hb => ?_;replace hB0 := hB0.bel hX3;replace hB1 := hB1.bel hX3;clear hX3
   have HZ2 : Hid (∀ j, j < k + 1 → vd (xt xs j).1 (xt xs j).2.1 (xt xs j).2.2 = true) := fun j hj => by
    rcases Nat.lt_or_ge j k with h9 | h9
    ·exact HZ.out j h9
    ·rw [show j = k by omega, ← HX.out]; exact HVX.out
   go_upto_region 8 with fail;refine jp ?_;refine jm (.int .i64 (k : Int)) ?_;refine jv (.int .i64 ((k + 1 : Nat) : Int)) (exec_add _ _ _ _ (by rfl) (k : Int) 1 ((k + 1 : Nat) : Int) (by rfl) (by rfl) (by omega) (by omega) (by omega)) ?_;refine jm (.int .i64 ((k + 1 : Nat) : Int)) ?_;refine jzb hb fun X4 hX4 hb => ?_;replace hB0 := hB0.bel hX4;replace hB1 := hB1.bel hX4;clear hX4
   go_wp2
   go_roundw
   case rel => exact ⟨k + 1, by omega, rfl, HZ2, hB0, hB1, hb⟩
   case measure => simp [intOf]; omega
  ·obtain rfl : nf = k := by omega
   clear HZ
   obtain rfl : nf = 0 := by rw [← HLF.out, HN.out]; rfl
   have hn1 : 1 ≤ n := by rw [← HLN.out]; exact HK.out.len1
   have hn4 : n ≤ 400 := by rw [← HLN.out]; exact HK.out.len2
   go_upto_region 7 with fail;refine jp ?_;refine jm (.int .i64 ((0 : Nat) : Int)) ?_;refine jm (.slice AF 0 cf) ?_;refine jv (.int .i64 (0 : Int)) (exec_lenv Tryz.underlying52 _ (by rfl) AF 0 cf (by rfl) _ rfl) ?_;refine jv (.bool false) (exec_lss _ _ _ _ (by rfl) .i64 ((0 : Nat) : Int) (0 : Int) (by rfl) (by rfl) false (decide_eq_false (by omega))) ?_;refine jzb hb fun X1 hX1 hb => ?_;replace hB0 := hB0.bel hX1;replace hB1 := hB1.bel hX1;clear hX1;go_upto_region 12 with fail;refine jp ?_;refine jm (.slice none 0 0) ?_;refine jzb hb fun X2 hX2 hb => ?_;replace hB0 := hB0.bel hX2;replace hB1 := hB1.bel hX2;clear hX2;go_upto_region 13 with fail;refine jp ?_;refine jm (.int .i64 0) ?_;refine jzb hb fun X3 hX3 hb => ?_;replace hB0 := hB0.bel hX3;replace hB1 := hB1.bel hX3;clear hX3
   go_wp2
   go_loopw [8, 9] (fun sv kv w2 => sv = .slice none 0 0 ∧ kv = .int .i64 0 ∧ Blk w2 w.heap.size 24 [.slice A n c] ∧ Blk w2 (w.heap.size + 1) 64 [.slice none 0 0, .int .i64 0] ∧ Below w.heap.size w w2) (fun _ kv _ => 0)
   case atStart => exact ⟨rfl, rfl, hB0, hB1, hb⟩
   case round =>
    clear hB0 hB1 hb;obtain ⟨rfl, rfl, hB0, hB1, hb⟩ := hrel
    rcases (show n = 1 ∨ 2 ≤ n by omega) with h1 | h1
    ·go_upto_region 14 with fail
     refine jp ?_;refine jm (.int .i64 0) ?_;refine jm (.slice AF 0 cf) ?_;refine jv (.int .i64 (0 : Int)) (exec_lenv Tryz.underlying52 _ (by rfl) AF 0 cf (by rfl) _ rfl) ?_;refine jn (.pointer (some ⟨w.heap.size, 0, none⟩)) ?_;refine jf (.slice A n c) hB0 0 load_ints ?_;refine jv (.int .i64 (n : Int)) (exec_lenv Tryz.underlying22 _ (by rfl) A n c (by rfl) _ rfl) ?_;refine jv (.int .i64 (n : Int)) (exec_add _ _ _ _ (by rfl) (0 : Int) (n : Int) (n : Int) (by rfl) (by rfl) (by omega) (by omega) (by omega)) ?_;refine jv (.int .i64 ((n - 1 : Nat) : Int)) (exec_sub _ _ _ _ (by rfl) (n : Int) 1 ((n - 1 : Nat) : Int) (by rfl) (by rfl) (by omega) (by omega) (by omega)) ?_;refine jv (.bool false) (exec_lss _ _ _ _ (by rfl) .i64 0 ((n - 1 : Nat) : Int) (by rfl) (by rfl) false (decide_eq_false (by omega))) ?_;refine jm (.bool false) ?_;refine js ?_;refine js ?_;refine js ?_;refine jm (.bool false) ?_;refine jzb hb fun X4 hX4 hb => ?_;replace hB0 := hB0.bel hX4;replace hB1 := hB1.bel hX4;clear hX4;go_upto_region 23 with fail;refine jq 2 ?_;refine jm (.slice none 0 0) ?_;refine jn (.agg #[.slice none 0 0, .int .i64 0]) ?_;refine jzb hb fun X5 hX5 hb => ?_;replace hB0 := hB0.bel hX5;replace hB1 := hB1.bel hX5;clear hX5;refine osb 64 4 95 (w.heap.size + 1) 64 hB1 [.slice none 0 0, .int .i64 0] info_rt31 ?_;intro w9 hR9 hO9 hB9 hs9;have hb9 := hB9 _ _ hb (by omega);have hB0 := hO9 _ _ _ (by omega) hB0;clear hO9 hB9
     go_wp2
     refine post_cell rfl rfl (by rfl) Tryz.underlying64 rfl hR9 info_rt31 ⟨_, rfl, rq_nil _, hb9⟩
    ·go_upto_region 14 with fail
     refine jp ?_;refine jm (.int .i64 0) ?_;refine jm (.slice AF 0 cf) ?_;refine jv (.int .i64 (0 : Int)) (exec_lenv Tryz.underlying52 _ (by rfl) AF 0 cf (by rfl) _ rfl) ?_;refine jn (.pointer (some ⟨w.heap.size, 0, none⟩)) ?_;refine jf (.slice A n c) hB0 0 load_ints ?_;refine jv (.int .i64 (n : Int)) (exec_lenv Tryz.underlying22 _ (by rfl) A n c (by rfl) _ rfl) ?_;refine jv (.int .i64 (n : Int)) (exec_add _ _ _ _ (by rfl) (0 : Int) (n : Int) (n : Int) (by rfl) (by rfl) (by omega) (by omega) (by omega)) ?_;refine jv (.int .i64 ((n - 1 : Nat) : Int)) (exec_sub _ _ _ _ (by rfl) (n : Int) 1 ((n - 1 : Nat) : Int) (by rfl) (by rfl) (by omega) (by omega) (by omega)) ?_;refine jv (.bool true) (exec_lss _ _ _ _ (by rfl) .i64 0 ((n - 1 : Nat) : Int) (by rfl) (by rfl) true (decide_eq_true (by omega))) ?_;refine jm (.bool true) ?_;refine jm (.slice AF 0 cf) ?_;refine jv (.int .i64 (0 : Int)) (exec_lenv Tryz.underlying52 _ (by rfl) AF 0 cf (by rfl) _ rfl) ?_;refine jv (.bool false) (exec_gtr _ _ _ _ (by rfl) .i64 (0 : Int) 0 (by rfl) (by rfl) false (decide_eq_false (by omega))) ?_;refine jm (.bool false) ?_;refine jzb hb fun X4 hX4 hb => ?_;replace hB0 := hB0.bel hX4;replace hB1 := hB1.bel hX4;clear hX4;go_upto_region 23 with fail;refine jq 2 ?_;refine jm (.slice none 0 0) ?_;refine jn (.agg #[.slice none 0 0, .int .i64 0]) ?_;refine jzb hb fun X5 hX5 hb => ?_;replace hB0 := hB0.bel hX5;replace hB1 := hB1.bel hX5;clear hX5;refine osb 64 4 95 (w.heap.size + 1) 64 hB1 [.slice none 0 0, .int .i64 0] info_rt31 ?_
     intro w9 hR9 hO9 hB9 hs9;have hb9 := hB9 _ _ hb (by omega);have hB0 := hO9 _ _ _ (by omega) hB0;clear hO9 hB9
     go_wp2
     refine post_cell rfl rfl (by rfl) Tryz.underlying64 rfl hR9 info_rt31 ⟨_, rfl, rq_nil _, hb9⟩
theorem rrt4 (v vf : Value) (l : List Int) (xs : List Tr) (w : World) (hv : Ks l v w) (hvf : Rl xs vf w) (HK : Hid (Kok l)) (h4 : xs.length ≤ 60) (HF : Hid (∀ k, tz (xt xs k).2.1 (xt xs k).2.2 1000)) (HB : Hid (vds xs = true)) (ys : List Rat) (HY : Hid (xs = ys.map tr)) (hn0 : 0 < ys.length) (hl30 : l.length ≤ 30) (HSZ : Hid (∀ k, szR (yq ys k) 20)) : Calls Tryz.prog 23 #[.agg #[v], vf] w fun e w' => ∃ v', e = .returned (.agg #[v', .int .i64 0]) ∧ Rq (rtl l ys) v' w' ∧ Since w w' := by
 obtain ⟨A, n, c, rfl, hln, hn1, hr⟩ := hv.at;have HLN := Lib.hid hln
 have HV : Hid (∀ X, Since w X → Ks l (.slice A n c) X) := fun X h => Ks.lasts l _ _ _ hv h
 have HRX : Hid (Rd w 1 (.slice A n c) n (l.map I64)) := hr;clear hv hln hr;have HC : Hid (kcE l = 0) := kcE_ok.2 HK.out;obtain ⟨AF, nf, cf, rfl, hlf, hnf1, hrf⟩ := hvf.at;clear hvf;have HRF : Hid (Rd w 3 (.slice AF nf cf) nf (fl trc xs)) := hrf;have HLF := Lib.hid hlf;clear hrf;rw [hlf] at h4
 have hn30 : n ≤ 30 := by rw [← HLN.out]; exact hl30
 have hn1' : 1 ≤ n := by rw [← HLN.out]; exact HK.out.len1
 clear hl30
 have hlm : ys.length = nf := by
  have h9 := HY.out;rw [h9, List.length_map] at hlf;exact hlf
 have HLM := Lib.hid hlm;rw [hlm] at hn0
 have HYN : Hid (ys ≠ []) := fun h9 => by rw [h9] at hlm; simp at hlm; omega
 clear hlm
 go_enter Tryz.func23, Tryz.ntmps23
 go_upto_region 1 with fail;obtain ⟨W0, hW0, hB0, hB1, hb⟩ := start2 w 24 64 [.slice A n c] [.slice none 0 0, .int .i64 0];rw [← hW0];clear hW0;refine jp ?_;refine ja hB0 Tryz.underlying24 (by rfl) info_kn ?_;refine jc (.int .i64 0) (fun X hX hF => mo (rckC _ l X (HV.out X (Since.next hb hX))) (by rw [HC.out])) ?_;refine jm (.int .i64 0) ?_;refine jzb hb fun X1 hX1 hb => ?_;replace hB0 := hB0.bel hX1;replace hB1 := hB1.bel hX1;clear hX1;go_upto_region 2 with fail;refine jp ?_;refine jm (.int .i64 0) ?_;refine jv (.bool false) (exec_nei _ _ _ _ (by rfl) .i64 0 0 (by rfl) (by rfl) false (by rw [decide_eq_true (by omega)]; rfl)) ?_;refine jzb hb fun X2 hX2 hb => ?_;replace hB0 := hB0.bel hX2;replace hB1 := hB1.bel hX2;clear hX2;go_upto_region 4 with fail;refine jp ?_;refine jm (.slice AF nf cf) ?_;refine jv (.int .i64 (nf : Int)) (exec_lenv Tryz.underlying52 _ (by rfl) AF nf cf (by rfl) _ rfl) ?_;refine jv (.bool false) (exec_gtr _ _ _ _ (by rfl) .i64 (nf : Int) 4000 (by rfl) (by rfl) false (decide_eq_false (by omega))) ?_;refine jzb hb fun X3 hX3 hb => ?_;replace hB0 := hB0.bel hX3;replace hB1 := hB1.bel hX3;clear hX3;go_upto_region 6 with fail;refine jp ?_;refine jm (.int .i64 0) ?_;refine jzb hb fun X4 hX4 hb => ?_;replace hB0 := hB0.bel hX4;replace hB1 := hB1.bel hX4;clear hX4
 go_wp2
 go_loopw [6] (fun kv wr => ∃ k : Nat, k ≤ nf ∧ kv = .int .i64 (k : Int) ∧ Hid (∀ j, j < k → vd (xt xs j).1 (xt xs j).2.1 (xt xs j).2.2 = true) ∧ Blk wr w.heap.size 24 [.slice A n c] ∧ Blk wr (w.heap.size + 1) 64 [.slice none 0 0, .int .i64 0] ∧ Below w.heap.size w wr) (fun kv _ => nf - (intOf kv).toNat)
 case atStart => exact ⟨0, by omega, rfl, (fun j hj => by omega), hB0, hB1, hb⟩
 case round =>
  clear hB0 hB1 hb;obtain ⟨k, hk, rfl, HZ, hB0, hB1, hb⟩ := hrel
  rcases Nat.lt_or_ge k nf with hlt | hlt
  ·obtain ⟨b, off, rfl, hbw, hcw⟩ := Rl.xtAt HRF.out HLF.out hlt
   have hcx := hcw.below hb hbw;have hbb := Nat.lt_of_lt_of_le hbw hb.size;obtain ⟨x, x9⟩ : ∃ x, x = xt xs k := ⟨_, rfl⟩;have HX := Lib.hid x9;clear x9;rw [← HX.out] at hcx
   have hx : tz x.2.1 x.2.2 1000 := by rw [HX.out]; exact HF.out k
   go_upto_region 7 with fail;refine jp ?_;refine jm (.int .i64 (k : Int)) ?_;refine jm (.slice (some ⟨b, off, none⟩) nf cf) ?_;refine jv (.int .i64 (nf : Int)) (exec_lenv Tryz.underlying52 _ (by rfl) (some ⟨b, off, none⟩) nf cf (by rfl) _ rfl) ?_;refine jv (.bool true) (exec_lss _ _ _ _ (by rfl) .i64 (k : Int) (nf : Int) (by rfl) (by rfl) true (decide_eq_true (by omega))) ?_;refine jzb hb fun X1 hX1 hb => ?_;replace hB0 := hB0.bel hX1;replace hB1 := hB1.bel hX1;have hcx := hcx.below hX1 hbb;replace hbb := Nat.lt_of_lt_of_le hbb (hX1).size;clear hX1
   have HVX : Hid (vd x.1 x.2.1 x.2.2 = true) := by
    show _ = _
    rw [HX.out, xt_in (by rw [HLF.out]; exact hlt)];exact List.all_eq_true.1 HB.out _ (List.getElem_mem _)
   go_upto_region 9 with fail;refine jp ?_;refine jm (.slice (some ⟨b, off, none⟩) nf cf) ?_;refine jm (.int .i64 (k : Int)) ?_;refine jv (.pointer (some ⟨b, off + k * 3, none⟩)) (exec_ixv Tryz.underlying52 info_rat _ _ (by rfl) b (off) nf cf k (by omega) (by rfl) (by rfl) rfl) ?_;refine jg (.agg #[.bool x.1, st x.2.1, st x.2.2]) (fun X hX hF => exec_ldc 34 _ (by rfl) b (off + k * 3) (by rfl) Tryz.underlying34 rfl [.bool x.1, .string ⟨x.2.1.toArray⟩, .string ⟨x.2.2.toArray⟩] X (Cl.part (hcx.below hX hbb) 0 _ (by rfl)) info_rat) ?_;refine jc (.bool true) (fun X hX hF => mo (rvQ5 x.1 x.2.1 x.2.2 X (Nat.le_trans hx.1 (by omega)) (Nat.le_trans hx.2 (by omega))) (by rw [HVX.out])) ?_;refine jm (.bool true) ?_;refine jzb hb fun X2 hX2 hb => ?_;replace hB0 := hB0.bel hX2;replace hB1 := hB1.bel hX2;have hcx := hcx.below hX2 hbb;replace hbb := Nat.lt_of_lt_of_le hbb (hX2).size;clear hX2;go_upto_region 10 with fail;refine jp ?_;refine jm (.bool true) ?_;refine jm (.bool false) ?_;refine jzb hb fun X3 hX3 hb => ?_;replace hB0 := hB0.bel hX3;replace hB1 := hB1.bel hX3;clear hX3
   have HZ2 : Hid (∀ j, j < k + 1 → vd (xt xs j).1 (xt xs j).2.1 (xt xs j).2.2 = true) := fun j hj => by
    rcases Nat.lt_or_ge j k with h9 | h9
    ·exact HZ.out j h9
    ·rw [show j = k by omega, ← HX.out]; exact HVX.out
   go_upto_region 8 with fail;refine jp ?_;refine jm (.int .i64 (k : Int)) ?_;refine jv (.int .i64 ((k + 1 : Nat) : Int)) (exec_add _ _ _ _ (by rfl) (k : Int) 1 ((k + 1 : Nat) : Int) (by rfl) (by rfl) (by omega) (by omega) (by omega)) ?_;refine jm (.int .i64 ((k + 1 : Nat) : Int)) ?_;refine jzb hb fun X4 hX4 hb => ?_;replace hB0 := hB0.bel hX4;replace hB1 := hB1.bel hX4;clear hX4
   go_wp2
   go_roundw
   case rel => exact ⟨k + 1, by omega, rfl, HZ2, hB0, hB1, hb⟩
   case measure => simp [intOf]; omega
  ·obtain rfl : nf = k := by omega
   clear HZ;obtain ⟨M, hM⟩ : ∃ M, M + 1 = nf + n := ⟨nf + n - 1, by omega⟩
   have HRM : Hid ((rtl l ys).length = M) := by
    show _ = _
    rw [rtl_len HYN.out, HLM.out, HLN.out]; omega
   obtain ⟨tt, t9⟩ : ∃ t, t = tot l := ⟨_, rfl⟩;have HT := Lib.hid t9
   have hti : insB tt = true := by rw [t9]; exact HK.out.inst
   have ht0 : tt ≠ 0 := by rw [t9]; exact HK.out.tne0
   clear t9;go_upto_region 7 with fail;refine jp ?_;refine jm (.int .i64 (nf : Int)) ?_;refine jm (.slice AF nf cf) ?_;refine jv (.int .i64 (nf : Int)) (exec_lenv Tryz.underlying52 _ (by rfl) AF nf cf (by rfl) _ rfl) ?_;refine jv (.bool false) (exec_lss _ _ _ _ (by rfl) .i64 (nf : Int) (nf : Int) (by rfl) (by rfl) false (decide_eq_false (by omega))) ?_;refine jzb hb fun X1 hX1 hb => ?_;replace hB0 := hB0.bel hX1;replace hB1 := hB1.bel hX1;clear hX1;go_upto_region 12 with fail;refine jp ?_;refine jm (.slice none 0 0) ?_;refine jzb hb fun X2 hX2 hb => ?_;replace hB0 := hB0.bel hX2;replace hB1 := hB1.bel hX2;clear hX2;go_upto_region 13 with fail;refine jp ?_;refine jm (.int .i64 0) ?_;refine jzb hb fun X3 hX3 hb => ?_;replace hB0 := hB0.bel hX3;replace hB1 := hB1.bel hX3;clear hX3
   go_wp2
   go_loopw [8, 9] (fun sv kv w2 => ∃ (t c6 : Nat) (A6 : Option Addr), t ≤ M ∧ sv = .slice A6 t c6 ∧ kv = .int .i64 (t : Int) ∧ w2.ownsRow (w.heap.size + 2) 34 3 (.slice A6 t c6) t (fl rc ((rtl l ys).take t)) ∧ Blk w2 w.heap.size 24 [.slice A n c] ∧ Blk w2 (w.heap.size + 1) 64 [.slice none 0 0, .int .i64 0] ∧ Below w.heap.size w w2) (fun _ kv _ => M - (intOf kv).toNat)
   case atStart => exact ⟨0, 0, none, by omega, rfl, rfl, ⟨rfl, .inl ⟨rfl, rfl⟩⟩, hB0, hB1, hb⟩
   case round =>
    clear hB0 hB1 hb;obtain ⟨t, c6, A6, ht, rfl, rfl, hOW, hB0, hB1, hb⟩ := hrel;have h1l := hB1.lt
    rcases Nat.lt_or_ge t M with hlt2 | hlt2
    ·skip
     go_upto_region 14 with fail;refine jp ?_;refine jm (.int .i64 (t : Int)) ?_;refine jm (.slice AF nf cf) ?_;refine jv (.int .i64 (nf : Int)) (exec_lenv Tryz.underlying52 _ (by rfl) AF nf cf (by rfl) _ rfl) ?_;refine jn (.pointer (some ⟨w.heap.size, 0, none⟩)) ?_;refine jf (.slice A n c) hB0 0 load_ints ?_;refine jv (.int .i64 (n : Int)) (exec_lenv Tryz.underlying22 _ (by rfl) A n c (by rfl) _ rfl) ?_;refine jv (.int .i64 ((M + 1 : Nat) : Int)) (exec_add _ _ _ _ (by rfl) (nf : Int) (n : Int) ((M + 1 : Nat) : Int) (by rfl) (by rfl) (by omega) (by omega) (by omega)) ?_;refine jv (.int .i64 (M : Int)) (exec_sub _ _ _ _ (by rfl) ((M + 1 : Nat) : Int) 1 (M : Int) (by rfl) (by rfl) (by omega) (by omega) (by omega)) ?_;refine jv (.bool true) (exec_lss _ _ _ _ (by rfl) .i64 (t : Int) (M : Int) (by rfl) (by rfl) true (decide_eq_true (by omega))) ?_;refine jm (.bool true) ?_;refine jm (.slice AF nf cf) ?_;refine jv (.int .i64 (nf : Int)) (exec_lenv Tryz.underlying52 _ (by rfl) AF nf cf (by rfl) _ rfl) ?_;refine jv (.bool true) (exec_gtr _ _ _ _ (by rfl) .i64 (nf : Int) 0 (by rfl) (by rfl) true (decide_eq_true (by omega))) ?_;refine jm (.bool true) ?_;refine jzb hb fun X1 hX1 hb => ?_;have hOW := own_since hOW hX1;replace hB0 := hB0.bel hX1;replace hB1 := hB1.bel hX1;clear hX1;go_upto_region 16 with fail;refine jq 1 ?_;refine jn (rz) ?_;refine jzb hb fun X2 hX2 hb => ?_
     have hog := fun (b9 : Nat) (h9 : (Value.slice A6 t c6).ownBlock = some b9) => (own_base hOW b9 h9).2
     have hOW := own_since hOW hX2;replace hB0 := hB0.bel hX2;replace hB1 := hB1.bel hX2;clear hX2;go_upto_region 17 with (refine osn 34 10 52 #[.bool false, .string ⟨#[]⟩, .string ⟨#[]⟩] info_rat ?_);obtain ⟨Y2, hY9, hD10, hS9⟩ := start1 X2 34 [.bool false, .string ⟨#[]⟩, .string ⟨#[]⟩];rw [← hY9];clear hY9;have hgs10 := hb.size;have hlt10x0 := hB0.lt;have hlt10x1 := hB1.lt
     have hog := fun (b9 : Nat) (h9 : (Value.slice A6 t c6).ownBlock = some b9) => (own_base hOW b9 h9).2
     have hOW := own_since hOW hS9;have hB0 := hB0.bel hS9;have hB1 := hB1.bel hS9;have hb := bel_next hb hS9;clear hS9;generalize X2.heap.size = g10 at *;refine jp ?_;refine jm (.int .i64 0) ?_;refine jzb hb fun X3 hX3 hb => ?_;have hOW := own_since hOW hX3;replace hB0 := hB0.bel hX3;replace hB1 := hB1.bel hX3;replace hD10 := hD10.bel hX3;clear hX3
     have hg10w : (w.heap.size + 1) < g10 := by omega
     go_wp2
     go_loopw [11] (fun iv w3 => ∃ (i : Nat) (s : Rat), i ≤ n ∧ iv = .int .i64 (i : Int) ∧ Hid (s = pR l ys i t) ∧ szR s (i * 35 + 1) ∧ Blk w3 g10 34 [.bool (rN s), .string ⟨(rP s).toArray⟩, .string ⟨(rD s).toArray⟩] ∧ w3.ownsRow (w.heap.size + 2) 34 3 (.slice A6 t c6) t (fl rc ((rtl l ys).take t)) ∧ Blk w3 w.heap.size 24 [.slice A n c] ∧ Blk w3 (w.heap.size + 1) 64 [.slice none 0 0, .int .i64 0] ∧ Below w.heap.size w w3) (fun iv _ => n - (intOf iv).toNat)
     case atStart => exact ⟨0, 0, by omega, rfl, rfl, szR_zero, hD10, hOW, hB0, hB1, hb⟩
     case round =>
      clear hD10 hOW hB0 hB1 hb;obtain ⟨i, s, hi, rfl, HS, hs, hD10, hOW, hB0, hB1, hb⟩ := hrel
      rcases Nat.lt_or_ge i n with hlti | hlti
      ·skip
       go_upto_region 18 with fail;refine jp ?_;refine jm (.int .i64 (i : Int)) ?_;refine jn (.pointer (some ⟨w.heap.size, 0, none⟩)) ?_;refine jf (.slice A n c) hB0 0 load_ints ?_;refine jv (.int .i64 (n : Int)) (exec_lenv Tryz.underlying22 _ (by rfl) A n c (by rfl) _ rfl) ?_;refine jv (.bool true) (exec_lss _ _ _ _ (by rfl) .i64 (i : Int) (n : Int) (by rfl) (by rfl) true (decide_eq_true (by omega))) ?_;refine jzb hb fun X1 hX1 hb => ?_;have hOW := own_since hOW hX1;replace hB0 := hB0.bel hX1;replace hB1 := hB1.bel hX1;replace hD10 := hD10.bel hX1;clear hX1
       rcases Nat.lt_or_ge t i with hti2 | hti2
       ·have HS3 : Hid (s = pR l ys (i + 1) t) := by
         show _ = _
         rw [pR_succ];rw [if_neg (by omega), Rat.add_zero];exact HS.out
        go_upto_region 20 with fail;refine jp ?_;refine jm (.int .i64 (t : Int)) ?_;refine jm (.int .i64 (i : Int)) ?_;refine jv (.int .i64 ((t : Int) - (i : Int))) (exec_sub _ _ _ _ (by rfl) (t : Int) (i : Int) ((t : Int) - (i : Int)) (by rfl) (by rfl) (by omega) (by omega) (by omega)) ?_;refine jv (.bool false) (exec_geq _ _ _ _ (by rfl) .i64 ((t : Int) - (i : Int)) 0 (by rfl) (by rfl) false (decide_eq_false (by omega))) ?_;refine jm (.bool false) ?_;refine js ?_;refine js ?_;refine js ?_;refine js ?_;refine js ?_;refine js ?_;refine jm (.bool false) ?_;refine jzb hb fun X2 hX2 hb => ?_;have hOW := own_since hOW hX2;replace hB0 := hB0.bel hX2;replace hB1 := hB1.bel hX2;replace hD10 := hD10.bel hX2;clear hX2;go_upto_region 19 with fail;refine jp ?_;refine jm (.int .i64 (i : Int)) ?_;refine jv (.int .i64 ((i + 1 : Nat) : Int)) (exec_add _ _ _ _ (by rfl) (i : Int) 1 ((i + 1 : Nat) : Int) (by rfl) (by rfl) (by omega) (by omega) (by omega)) ?_;refine jm (.int .i64 ((i + 1 : Nat) : Int)) ?_;refine jzb hb fun X3 hX3 hb => ?_;have hOW := own_since hOW hX3;replace hB0 := hB0.bel hX3;replace hB1 := hB1.bel hX3;replace hD10 := hD10.bel hX3;clear hX3
        go_wp2
        go_roundw
        case rel => exact ⟨i + 1, s, by omega, rfl, HS3, (hs.mono (by omega)), hD10, hOW, hB0, hB1, hb⟩
        case measure => simp [intOf]; omega
       ·obtain ⟨j, hj⟩ : ∃ j, j + i = t := ⟨t - i, by omega⟩
        rcases Nat.lt_or_ge j nf with hju | hju
        ·obtain ⟨b, off, rfl, hbw, hcw⟩ := wtIn HRX.out HLN.out hlti
         obtain ⟨x, x9⟩ : ∃ x, x = wt l i := ⟨_, rfl⟩;have HX := Lib.hid x9;rw [← x9] at hcw;clear x9;have hcx := hcw.below hb hbw;have hbb := Nat.lt_of_lt_of_le hbw hb.size
         have hxi : insB x = true := by rw [HX.out]; exact HK.out.insw i
         obtain ⟨b2, off2, rfl, hbw2, hcw2⟩ := Rl.xtAt HRF.out HLF.out hju;obtain ⟨y, y9⟩ : ∃ y, y = yq ys j := ⟨_, rfl⟩;have HYJ := Lib.hid y9
         have hxy : xt xs j = tr y := by
          rw [HY.out, xt_map, y9]
         rw [hxy] at hcw2;have hcx2 : Cl _ b2 (off2 + j * 3) [.bool (rN y), .string ⟨(rP y).toArray⟩, .string ⟨(rD y).toArray⟩] := hcw2.below hb hbw2;have hbb2 := Nat.lt_of_lt_of_le hbw2 hb.size
         have hyB : szR y 20 := by rw [y9]; exact HSZ.out j
         clear y9 hxy;have hs9 : szR s 1051 := hs.mono (by omega);have LB0 : szR (rk x tt) 14 := szR_rk x tt hxi hti;have LB1 : szR y 20 := hyB;have LB2 : szR s 1051 := hs9;have LB3 : szR ((rk x tt) * y) 34 := szR_mul LB0 LB1;go_upto_region 20 with fail;refine jp ?_;refine jm (.int .i64 (t : Int)) ?_;refine jm (.int .i64 (i : Int)) ?_;refine jv (.int .i64 (j : Int)) (exec_sub _ _ _ _ (by rfl) (t : Int) (i : Int) (j : Int) (by rfl) (by rfl) (by omega) (by omega) (by omega)) ?_;refine jv (.bool true) (exec_geq _ _ _ _ (by rfl) .i64 (j : Int) 0 (by rfl) (by rfl) true (decide_eq_true (by omega))) ?_;refine jm (.bool true) ?_;refine jm (.int .i64 (t : Int)) ?_;refine jm (.int .i64 (i : Int)) ?_;refine jv (.int .i64 (j : Int)) (exec_sub _ _ _ _ (by rfl) (t : Int) (i : Int) (j : Int) (by rfl) (by rfl) (by omega) (by omega) (by omega)) ?_;refine jm (.slice (some ⟨b2, off2, none⟩) nf cf) ?_;refine jv (.int .i64 (nf : Int)) (exec_lenv Tryz.underlying52 _ (by rfl) (some ⟨b2, off2, none⟩) nf cf (by rfl) _ rfl) ?_;refine jv (.bool true) (exec_lss _ _ _ _ (by rfl) .i64 (j : Int) (nf : Int) (by rfl) (by rfl) true (decide_eq_true (by omega))) ?_;refine jm (.bool true) ?_;refine jzb hb fun X2 hX2 hb => ?_;have hOW := own_since hOW hX2;replace hB0 := hB0.bel hX2;replace hB1 := hB1.bel hX2;replace hD10 := hD10.bel hX2;have hcx := hcx.below hX2 hbb;have hcx2 := hcx2.below hX2 hbb2;replace hbb := Nat.lt_of_lt_of_le hbb (hX2).size;replace hbb2 := Nat.lt_of_lt_of_le hbb2 (hX2).size;clear hX2;go_upto_region 21 with fail
         refine lx_region_tail [] (by kernel_rfl) (by kernel_rfl) (by kernel_rfl) rfl (lasts_nil) ?_;simp only [its, List.dropLast, Nat.zero_add, Nat.reduceAdd];refine ja hD10 Tryz.underlying34 (by rfl) info_rat ?_;refine jn (.pointer (some ⟨w.heap.size, 0, none⟩)) ?_;refine jf (.slice (some ⟨b, off, none⟩) n c) hB0 0 load_ints ?_;refine jm (.int .i64 (i : Int)) ?_;refine jv (.pointer (some ⟨b, off + i * 1, none⟩)) (exec_ixv Tryz.underlying22 info_i1 _ _ (by rfl) b (off) n c i (by omega) (by rfl) (by rfl) rfl) ?_;refine jg (.int .i64 x) (fun X hX hF => exec_ld 3 _ (by rfl) b (off + i * 1) (by rfl) _ X ((hcx.below hX hbb) 0 _ rfl) (fun X u h => load_int b (off + i * 1) X u h)) ?_;refine jn (.pointer (some ⟨w.heap.size, 0, none⟩)) ?_;refine jf (.slice (some ⟨b, off, none⟩) n c) hB0 0 load_ints ?_;refine jc (.int .i64 tt) (fun X hX hF => mo (rsmK _ l X (HV.out X (Since.next hb hX)) HK.out) (by rw [HT.out])) ?_;refine jc (rt (rN (rk x tt)) (rP (rk x tt)) (rD (rk x tt))) (fun X hX hF => rptC x tt X hxi hti ht0) ?_;refine jm (.slice (some ⟨b2, off2, none⟩) nf cf) ?_;refine jm (.int .i64 (t : Int)) ?_;refine jm (.int .i64 (i : Int)) ?_;refine jv (.int .i64 (j : Int)) (exec_sub _ _ _ _ (by rfl) (t : Int) (i : Int) (j : Int) (by rfl) (by rfl) (by omega) (by omega) (by omega)) ?_;refine jv (.pointer (some ⟨b2, off2 + j * 3, none⟩)) (exec_ixv Tryz.underlying52 info_rat _ _ (by rfl) b2 (off2) nf cf j (by omega) (by rfl) (by rfl) rfl) ?_;refine jg (rt (rN y) (rP y) (rD y)) (fun X hX hF => exec_ldc 34 _ (by rfl) b2 (off2 + j * 3) (by rfl) Tryz.underlying34 rfl [.bool (rN y), .string ⟨(rP y).toArray⟩, .string ⟨(rD y).toArray⟩] X (Cl.part (hcx2.below hX hbb2) 0 _ (by rfl)) info_rat) ?_
         refine jc (rt (rN ((rk x tt) * y)) (rP ((rk x tt) * y)) (rD ((rk x tt) * y))) (fun X hX hF => mulS (rN (rk x tt)) (rP (rk x tt)) (rD (rk x tt)) (rN y) (rP y) (rD y) (rq_rb (rk x tt)) (rq_rb y) X (tzR LB0 (by omega)) (tzR LB1 (by omega))) ?_;refine jc (.agg #[.bool (rN (s + ((rk x tt) * y))), st (rP (s + ((rk x tt) * y))), st (rD (s + ((rk x tt) * y)))]) (fun X hX hF => addS (rN s) (rP s) (rD s) (rN ((rk x tt) * y)) (rP ((rk x tt) * y)) (rD ((rk x tt) * y)) (rq_rb s) (rq_rb ((rk x tt) * y)) X (tzR LB2 (by omega)) (tzR LB3 (by omega))) ?_;refine jzb hb fun X3 hX3 hb => ?_;have hOW := own_since hOW hX3;replace hB0 := hB0.bel hX3;replace hB1 := hB1.bel hX3;replace hD10 := hD10.bel hX3;have hcx := hcx.below hX3 hbb;have hcx2 := hcx2.below hX3 hbb2;replace hbb := Nat.lt_of_lt_of_le hbb (hX3).size;replace hbb2 := Nat.lt_of_lt_of_le hbb2 (hX3).size;clear hX3;refine op_store_blkg rfl 34 (.tmp 10) (.tmp 89) rfl g10 34 _ hD10 rfl [.bool (rN (s + ((rk x tt) * y))), .string ⟨(rP (s + ((rk x tt) * y))).toArray⟩, .string ⟨(rD (s + ((rk x tt) * y))).toArray⟩] rfl (by rfl) (by intro u hu; simp only [List.mem_cons, List.not_mem_nil, or_false] at hu; rcases hu with rfl | rfl | rfl <;> rfl) info_rat ?_;intro w1s hR9 hG9;have hb := bel_grown hG9 hb hb.size (by omega);have hB0 := blk_grown hG9 hB0 (by omega);have hB1 := blk_grown hG9 hB1 (by omega);have hOW := own_grown hOW hG9 (fun g h h9 => by injection h with h; have h8 := hog _ h9; omega);have hD10 := hR9;clear hG9 hR9
         have HS3 : Hid ((s + ((rk x tt) * y)) = pR l ys (i + 1) t) := by
          show _ = _
          rw [pR_succ, if_pos (by omega), HS.out, HX.out, HT.out, HYJ.out, show t - i = j by omega]
         have hs3 : szR (s + ((rk x tt) * y)) ((i + 1) * 35 + 1) := (szR_add hs (szR_mul (szR_rk x tt hxi hti) hyB)).mono (by omega);go_upto_region 19 with fail;refine jp ?_;refine jm (.int .i64 (i : Int)) ?_;refine jv (.int .i64 ((i + 1 : Nat) : Int)) (exec_add _ _ _ _ (by rfl) (i : Int) 1 ((i + 1 : Nat) : Int) (by rfl) (by rfl) (by omega) (by omega) (by omega)) ?_;refine jm (.int .i64 ((i + 1 : Nat) : Int)) ?_;refine jzb hb fun X4 hX4 hb => ?_;have hOW := own_since hOW hX4;replace hB0 := hB0.bel hX4;replace hB1 := hB1.bel hX4;replace hD10 := hD10.bel hX4;clear hX4
         go_wp2
         go_roundw
         case rel => exact ⟨i + 1, (s + ((rk x tt) * y)), by omega, rfl, HS3, hs3, hD10, hOW, hB0, hB1, hb⟩
         case measure => simp [intOf]; omega
        ·have HS3 : Hid (s = pR l ys (i + 1) t) := by
          show _ = _
          rw [pR_succ];rw [if_pos (by omega), yq_out (by rw [HLM.out]; omega), Rat.mul_zero, Rat.add_zero];exact HS.out
         go_upto_region 20 with fail;refine jp ?_;refine jm (.int .i64 (t : Int)) ?_;refine jm (.int .i64 (i : Int)) ?_;refine jv (.int .i64 (j : Int)) (exec_sub _ _ _ _ (by rfl) (t : Int) (i : Int) (j : Int) (by rfl) (by rfl) (by omega) (by omega) (by omega)) ?_;refine jv (.bool true) (exec_geq _ _ _ _ (by rfl) .i64 (j : Int) 0 (by rfl) (by rfl) true (decide_eq_true (by omega))) ?_;refine jm (.bool true) ?_;refine jm (.int .i64 (t : Int)) ?_;refine jm (.int .i64 (i : Int)) ?_;refine jv (.int .i64 (j : Int)) (exec_sub _ _ _ _ (by rfl) (t : Int) (i : Int) (j : Int) (by rfl) (by rfl) (by omega) (by omega) (by omega)) ?_;refine jm (.slice AF nf cf) ?_;refine jv (.int .i64 (nf : Int)) (exec_lenv Tryz.underlying52 _ (by rfl) AF nf cf (by rfl) _ rfl) ?_;refine jv (.bool false) (exec_lss _ _ _ _ (by rfl) .i64 (j : Int) (nf : Int) (by rfl) (by rfl) false (decide_eq_false (by omega))) ?_;refine jm (.bool false) ?_;refine jzb hb fun X2 hX2 hb => ?_;have hOW := own_since hOW hX2;replace hB0 := hB0.bel hX2;replace hB1 := hB1.bel hX2;replace hD10 := hD10.bel hX2;clear hX2;go_upto_region 19 with fail;refine jp ?_;refine jm (.int .i64 (i : Int)) ?_;refine jv (.int .i64 ((i + 1 : Nat) : Int)) (exec_add _ _ _ _ (by rfl) (i : Int) 1 ((i + 1 : Nat) : Int) (by rfl) (by rfl) (by omega) (by omega) (by omega)) ?_;refine jm (.int .i64 ((i + 1 : Nat) : Int)) ?_;refine jzb hb fun X3 hX3 hb => ?_;have hOW := own_since hOW hX3;replace hB0 := hB0.bel hX3;replace hB1 := hB1.bel hX3;replace hD10 := hD10.bel hX3
         clear hX3
         go_wp2
         go_roundw
         case rel => exact ⟨i + 1, s, by omega, rfl, HS3, (hs.mono (by omega)), hD10, hOW, hB0, hB1, hb⟩
         case measure => simp [intOf]; omega
      ·obtain rfl : n = i := by omega
       obtain ⟨y, y9⟩ : ∃ y, y = s := ⟨_, rfl⟩
       have HYT : Hid (s = yq (rtl l ys) t) := by
        show _ = _
        rw [HS.out, ← HLN.out, pR_all]
        unfold rtl
        rw [if_neg HYN.out, yq_range _ (by rw [HLM.out, HLN.out]; omega)]
       clear y9;go_upto_region 18 with fail;refine jp ?_;refine jm (.int .i64 (n : Int)) ?_;refine jn (.pointer (some ⟨w.heap.size, 0, none⟩)) ?_;refine jf (.slice A n c) hB0 0 load_ints ?_;refine jv (.int .i64 (n : Int)) (exec_lenv Tryz.underlying22 _ (by rfl) A n c (by rfl) _ rfl) ?_;refine jv (.bool false) (exec_lss _ _ _ _ (by rfl) .i64 (n : Int) (n : Int) (by rfl) (by rfl) false (decide_eq_false (by omega))) ?_;refine jzb hb fun X1 hX1 hb => ?_;have hOW := own_since hOW hX1;replace hB0 := hB0.bel hX1;replace hB1 := hB1.bel hX1;replace hD10 := hD10.bel hX1;clear hX1;have hszA := hb.size;have h1l := hB1.lt;have hDl := hD10.lt;go_upto_region 22 with fail
       have hbA : (w.heap.size + 2) ≤ X1.heap.size := by omega
       have hn_hB0 : (Value.ownBlock (.slice A6 t c6)) ≠ some w.heap.size := fun h9 => by have h8 := own_base hOW _ h9; omega
       have hn_hB1 : (Value.ownBlock (.slice A6 t c6)) ≠ some (w.heap.size + 1) := fun h9 => by have h8 := own_base hOW _ h9; omega
       have hn_hD10 : (Value.ownBlock (.slice A6 t c6)) ≠ some g10 := fun h9 => by have h8 := hog _ h9; omega
       refine la_plain (⟨(w.heap.size + 2), 34, 3, .slice A6 t c6, t, (fl rc ((rtl l ys).take t)), [.bool (rN s), .string ⟨(rP s).toArray⟩, .string ⟨(rD s).toArray⟩]⟩ : Ar) 3 [none, none, some (Anew (⟨(w.heap.size + 2), 34, 3, .slice A6 t c6, t, (fl rc ((rtl l ys).take t)), [.bool (rN s), .string ⟨(rP s).toArray⟩, .string ⟨(rD s).toArray⟩]⟩ : Ar) 34), some (Aout (⟨(w.heap.size + 2), 34, 3, .slice A6 t c6, t, (fl rc ((rtl l ys).take t)), [.bool (rN s), .string ⟨(rP s).toArray⟩, .string ⟨(rD s).toArray⟩]⟩ : Ar))] (la_none (la_none (la_some (fun v X Y h hR => Anew.lasts v X Y h hR) (la_some (fun v X Y h hR => Aout.lasts v X Y h hR) (la_nil))))) ?_;simp only [iB, Nat.reduceAdd];refine am (.slice A6 t c6) ?_;refine ag hOW hbA (.agg #[.bool (rN s), .string ⟨(rP s).toArray⟩, .string ⟨(rD s).toArray⟩]) (fun X σ hX hF => exec_lda 34 _ (by rfl) g10 (by rfl) Tryz.underlying34 rfl X (hX.blk hD10 hn_hD10) info_rat) ?_;refine ab hOW 34 (fun X => by unfold execOp; go_simp) ?_;intro v92;refine aa hOW hbA 34 2 v92 List.mem_cons_self Tryz.underlying52 info_rtz9 rfl (show 0 < 3 by decide) (by rfl) (by intro u hu; simp only [List.mem_cons, List.not_mem_nil, or_false] at hu; rcases hu with rfl | rfl | rfl <;> rfl) (show t + 1 ≤ maxLen by unfold maxLen; omega) (show (t + 1) * 40 ≤ 140737488355328 by omega) ?_;intro v93;refine am (v93) ?_;refine az hOW hbA ?_;intro X2 σ hX hF;have hO93 : X2.ownsRow (w.heap.size + 2) 34 3 v93 (t + 1) ((fl rc ((rtl l ys).take t)) ++ [.bool (rN s), .string ⟨(rP s).toArray⟩, .string ⟨(rD s).toArray⟩]) := (hF _ _ List.mem_cons_self).2
       have hB0 := hX.blk hB0 hn_hB0;have hB1 := hX.blk hB1 hn_hB1;have hD10 := hX.blk hD10 hn_hD10;have hb := hb.trans (hX.below.mono (show w.heap.size ≤ (w.heap.size + 2) by omega));clear hF hn_hB0 hn_hB1 hn_hD10;obtain ⟨A7, c7, rfl, _, _⟩ := (Rd.of_own hO93).form
       have HAQ : Hid ((fl rc ((rtl l ys).take (t + 1))) = (fl rc ((rtl l ys).take t)) ++ [.bool (rN s), .string ⟨(rP s).toArray⟩, .string ⟨(rD s).toArray⟩]) := by
        show _ = _
        rw [take_snocK (by rw [HRM.out]; exact hlt2), fl_snocT, ← yq_in, ← HYT.out]
        rfl
       have hOW : X2.ownsRow (w.heap.size + 2) 34 3 (.slice A7 (t + 1) c7) (t + 1) (fl rc ((rtl l ys).take (t + 1))) := by rw [HAQ.out]; exact hO93
       clear hO93;go_upto_region 15 with fail;refine jp ?_;refine jm (.int .i64 (t : Int)) ?_;refine jv (.int .i64 ((t + 1 : Nat) : Int)) (exec_add _ _ _ _ (by rfl) (t : Int) 1 ((t + 1 : Nat) : Int) (by rfl) (by rfl) (by omega) (by omega) (by omega)) ?_;refine jm (.int .i64 ((t + 1 : Nat) : Int)) ?_;refine jzb hb fun X3 hX3 hb => ?_;have hOW := own_since hOW hX3;replace hB0 := hB0.bel hX3;replace hB1 := hB1.bel hX3;clear hX3
       go_wp2
       go_roundw
       case rel => exact ⟨t + 1, c7, A7, by omega, rfl, rfl, hOW, hB0, hB1, hb⟩
       case measure => simp [intOf]; omega
    ·obtain rfl : M = t := by omega
     go_upto_region 14 with fail;refine jp ?_;refine jm (.int .i64 (M : Int)) ?_;refine jm (.slice AF nf cf) ?_;refine jv (.int .i64 (nf : Int)) (exec_lenv Tryz.underlying52 _ (by rfl) AF nf cf (by rfl) _ rfl) ?_;refine jn (.pointer (some ⟨w.heap.size, 0, none⟩)) ?_;refine jf (.slice A n c) hB0 0 load_ints ?_;refine jv (.int .i64 (n : Int)) (exec_lenv Tryz.underlying22 _ (by rfl) A n c (by rfl) _ rfl) ?_;refine jv (.int .i64 ((M + 1 : Nat) : Int)) (exec_add _ _ _ _ (by rfl) (nf : Int) (n : Int) ((M + 1 : Nat) : Int) (by rfl) (by rfl) (by omega) (by omega) (by omega)) ?_;refine jv (.int .i64 (M : Int)) (exec_sub _ _ _ _ (by rfl) ((M + 1 : Nat) : Int) 1 (M : Int) (by rfl) (by rfl) (by omega) (by omega) (by omega)) ?_;refine jv (.bool false) (exec_lss _ _ _ _ (by rfl) .i64 (M : Int) (M : Int) (by rfl) (by rfl) false (decide_eq_false (by omega))) ?_;refine jm (.bool false) ?_;refine js ?_;refine js ?_;refine js ?_;refine jm (.bool false) ?_;refine jzb hb fun X1 hX1 hb => ?_;have hOW := own_since hOW hX1;replace hB0 := hB0.bel hX1;replace hB1 := hB1.bel hX1;clear hX1
     have hOW2 : X1.ownsRow (w.heap.size + 2) 34 3 (.slice A6 M c6) M (fl rc (rtl l ys)) := by
      rw [List.take_of_length_le (by rw [HRM.out]; exact Nat.le_refl _)] at hOW; exact hOW
     go_upto_region 23 with fail;refine jq 2 ?_;refine jm (.slice A6 M c6) ?_;refine jn (.agg #[.slice A6 M c6, .int .i64 0]) ?_;refine jzb hb fun X2 hX2 hb => ?_;have hOW2 := own_since hOW2 hX2;replace hB0 := hB0.bel hX2;replace hB1 := hB1.bel hX2;clear hX2;refine osb 64 4 95 (w.heap.size + 1) 64 hB1 [.slice A6 M c6, .int .i64 0] info_rt31 ?_;intro w9 hR9 hO9 hB9 hs9;have hb9 := hB9 _ _ hb (by omega);have hB0 := hO9 _ _ _ (by omega) hB0;have hO8 := hO9;clear hO9 hB9
     go_wp2
     refine post_cell rfl rfl (by rfl) Tryz.underlying64 rfl hR9 info_rt31 ⟨_, rfl, rq_ownT (own_blkK (Y := w9) hOW2 (fun g t zs hg hz => hO8 _ _ _ (by have := own_base hOW2 _ hg; omega) hz)) HRM.out, hb9⟩
end Go.Proofs.YtcpedbpldgndmaaGreatDoor
