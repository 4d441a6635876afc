/-
  kernel: Route of valid flows.
-/
import Derived.Test.YtcpedbpldgndmaaDoorKf
set_option linter.unusedSimpArgs false
set_option linter.unusedVariables false
set_option maxRecDepth 100000
set_option maxHeartbeats 1600000
namespace Go.Proofs.YtcpedbpldgndmaaDoor
open Go.RowKit
theorem rte3 (v vf : Value) (l : List Int) (xs : List Tr) (w : World) (hv : Ks l v w) (hvf : Rl xs vf w) (HK : Hid (Kok l)) (h4 : xs.length ≤ 4000) (HF : Hid (∀ k, k < xs.length → tz (xt xs k).2.1 (xt xs k).2.2 1000000)) (HB : Hid (vds xs = true)) (HN : Hid (xs = [])) : Calls Tryd.prog 18 #[.agg #[v], vf] w fun e w' => e = .returned (.tuple #[.slice none 0 0, .int .i64 0]) ∧ Since w w' := by
 have HV : Hid (∀ X, Since w X → Ks l v X) := fun X h => Ks.lasts l _ _ _ hv h
 clear hv;have HC : Hid (kcE l = 0) := kcE_ok.2 HK.out;obtain ⟨AF, nf, cf, rfl, hlf, hnf1, hrf⟩ := hvf.at;clear hvf
 have HRF : Hid (∀ X, Since w X → Rd X 3 (.slice AF nf cf) nf (fl trc xs)) := fun X h => hrf.below h
 have HLF := Lib.hid hlf
 have HAV : Hid (∀ k, k < nf → vd (xt xs k).1 (xt xs k).2.1 (xt xs k).2.2 = true) := fun k hk => by
  rw [xt_in (by rw [HLF.out]; exact hk)];exact List.all_eq_true.1 HB.out _ (List.getElem_mem _)
 clear hrf;rw [hlf] at h4
 go_enter Tryd.func18, Tryd.ntmps18
 go_upto_region 1 with fail;obtain ⟨W0, hW0, hB0, hb⟩ := start1 w 24 [v];rw [← hW0];clear hW0;refine jp ?_;refine ja hB0 Tryd.underlying24 (by rfl) info_kn ?_;refine jc (.int .i64 0) (fun X hX hF => mo (kchC _ l X (HV.out X (Since.next hb hX))) (by rw [HC.out])) ?_;refine jm (.int .i64 0) ?_;refine jzb hb fun X1 hX1 hb => ?_;replace hB0 := hB0.bel hX1;clear hX1;go_upto_region 2 with fail;refine jp ?_;refine jm (.int .i64 0) ?_;refine jv (.bool false) (exec_nei _ _ _ _ (by rfl) .i64 0 0 (by rfl) (by rfl) false (by rw [decide_eq_true (by omega)]; rfl)) ?_;refine jzb hb fun X2 hX2 hb => ?_;replace hB0 := hB0.bel hX2;clear hX2;go_upto_region 4 with fail;refine jp ?_;refine jm (.slice AF nf cf) ?_;refine jv (.int .i64 (nf : Int)) (exec_lenv Tryd.underlying43 _ (by rfl) AF nf cf (by rfl) _ rfl) ?_;refine jv (.bool false) (exec_gtr _ _ _ _ (by rfl) .i64 (nf : Int) 4000 (by rfl) (by rfl) false (decide_eq_false (by omega))) ?_;refine jzb hb fun X3 hX3 hb => ?_;replace hB0 := hB0.bel hX3;clear hX3;go_upto_region 6 with fail;refine jp ?_;refine jm (.slice AF nf cf) ?_;refine jv (.int .i64 (nf : Int)) (exec_lenv Tryd.underlying43 _ (by rfl) AF nf cf (by rfl) _ rfl) ?_;refine jm (.int .i64 0) ?_;refine jzb hb fun X4 hX4 hb => ?_;replace hB0 := hB0.bel hX4;clear hX4
 go_wp2
 go_loopw [25] (fun kv wr => ∃ k : Nat, k ≤ nf ∧ kv = .int .i64 (k : Int) ∧ Hid (∀ j, j < k → vd (xt xs j).1 (xt xs j).2.1 (xt xs j).2.2 = true) ∧ Blk wr w.heap.size 24 [v] ∧ Below w.heap.size w wr) (fun kv _ => nf - (intOf kv).toNat)
 case atStart => exact ⟨0, by omega, rfl, (fun j hj => by omega), hB0, hb⟩
 case round =>
  clear hB0 hb;obtain ⟨k, hk, rfl, HZ, hB0, hb⟩ := hrel
  rcases Nat.lt_or_ge k nf with hlt | hlt
  ·obtain ⟨b, off, rfl, hbb, hcx⟩ := Rl.xtAt (HRF.out _ hb) HLF.out hlt
   obtain ⟨x, x9⟩ : ∃ x, x = xt xs k := ⟨_, rfl⟩;have HX := Lib.hid x9;clear x9;rw [← HX.out] at hcx
   have hx : tz x.2.1 x.2.2 1000000 := by rw [HX.out]; exact HF.out k (by rw [HLF.out]; exact hlt)
   go_upto_region 7 with fail;refine jp ?_;refine jv (.bool true) (exec_lss _ _ _ _ (by rfl) .i64 (k : Int) (nf : Int) (by rfl) (by rfl) true (decide_eq_true (by omega))) ?_;refine jzb hb fun X1 hX1 hb => ?_;replace hB0 := hB0.bel hX1;have hcx := hcx.below hX1 hbb;replace hbb := Nat.lt_of_lt_of_le hbb (hX1).size;clear hX1;go_upto_region 8 with fail;refine jq 2 ?_;refine jv (.pointer (some ⟨b, off + k * 3, none⟩)) (exec_ixv Tryd.underlying43 info_rat _ _ (by rfl) b (off) nf cf k (by omega) (by rfl) (by rfl) rfl) ?_;refine jg (.agg #[.bool x.1, st x.2.1, st x.2.2]) (fun X hX hF => exec_ldc 38 _ (by rfl) b (off + k * 3) (by rfl) Tryd.underlying38 rfl [.bool x.1, .string ⟨x.2.1.toArray⟩, .string ⟨x.2.2.toArray⟩] X (Cl.part (hcx.below hX hbb) 0 _ (by rfl)) info_rat) ?_;refine jzb hb fun X2 hX2 hb => ?_;replace hB0 := hB0.bel hX2;have hcx := hcx.below hX2 hbb;replace hbb := Nat.lt_of_lt_of_le hbb (hX2).size;clear hX2;go_upto_region 9 with (refine osn 38 8 28 #[.bool x.1, .string ⟨x.2.1.toArray⟩, .string ⟨x.2.2.toArray⟩] info_rat ?_);obtain ⟨Y2, hY9, hD8, hS9⟩ := start1 X2 38 [.bool x.1, .string ⟨x.2.1.toArray⟩, .string ⟨x.2.2.toArray⟩];rw [← hY9];clear hY9;have hgs8 := hb.size;have hlt8x0 := hB0.lt;have hcx := hcx.below hS9 hbb;replace hbb := Nat.lt_of_lt_of_le hbb (hS9).size;have hB0 := hB0.bel hS9;have hb := bel_next hb hS9;clear hS9;generalize X2.heap.size = g8 at *
   have HVX : Hid (vd x.1 x.2.1 x.2.2 = true) := by
    show _ = _
    rw [HX.out]; exact HAV.out k hlt
   refine jp ?_;refine ja hD8 Tryd.underlying38 (by rfl) info_rat ?_;refine jc (.bool true) (fun X hX hF => mo (validG x.1 x.2.1 x.2.2 X (hx.mono (by omega))) (by rw [HVX.out])) ?_;refine jm (.bool false) ?_;refine jzb hb fun X3 hX3 hb => ?_;replace hB0 := hB0.bel hX3;replace hD8 := hD8.bel hX3;clear hX3
   have HZ2 : Hid (∀ j, j < k + 1 → vd (xt xs j).1 (xt xs j).2.1 (xt xs j).2.2 = true) := fun j hj => by
    rcases Nat.lt_or_ge j k with h9 | h9
    ·exact HZ.out j h9
    ·rw [show j = k by omega, ← HX.out]; exact HVX.out
   go_upto_region 11 with fail;refine jp ?_;refine jv (.int .i64 ((k + 1 : Nat) : Int)) (exec_add _ _ _ _ (by rfl) (k : Int) 1 ((k + 1 : Nat) : Int) (by rfl) (by rfl) (by omega) (by omega) (by omega)) ?_;refine jm (.int .i64 ((k + 1 : Nat) : Int)) ?_;refine jzb hb fun X4 hX4 hb => ?_;replace hB0 := hB0.bel hX4;replace hD8 := hD8.bel hX4;clear hX4
   go_wp2
   go_roundw
   case rel => exact ⟨k + 1, by omega, rfl, HZ2, hB0, hb⟩
   case measure => simp [intOf]; omega
  ·obtain rfl : k = nf := by omega
   have hk0 : k = 0 := by rw [← HLF.out, HN.out]; rfl
   go_upto_region 7 with fail;refine jp ?_;refine jv (.bool false) (exec_lss _ _ _ _ (by rfl) .i64 (k : Int) (k : Int) (by rfl) (by rfl) false (decide_eq_false (by omega))) ?_;refine jzb hb fun X1 hX1 hb => ?_;replace hB0 := hB0.bel hX1;clear hX1;go_upto_region 12 with fail;refine jp ?_;refine jm (.slice AF k cf) ?_;refine jv (.int .i64 (k : Int)) (exec_lenv Tryd.underlying43 _ (by rfl) AF k cf (by rfl) _ rfl) ?_;refine jv (.bool true) (exec_eqi _ _ _ _ (by rfl) .i64 (k : Int) 0 (by rfl) (by rfl) true (decide_eq_true (by omega))) ?_;refine jzb hb fun X2 hX2 hb => ?_;replace hB0 := hB0.bel hX2;clear hX2;go_upto_region 13 with fail;refine jp ?_;refine jm (.slice none 0 0) ?_;refine jm (.int .i64 0) ?_;refine jzb hb fun X3 hX3 hb => ?_;replace hB0 := hB0.bel hX3;clear hX3
   go_wp2
   go_ret2
   exact ⟨rfl, hb⟩
theorem rte4 (v vf : Value) (l : List Int) (xs : List Tr) (w : World) (hv : Ks l v w) (hvf : Rl xs vf w) (HK : Hid (Kok l)) (h4 : xs.length ≤ 4000) (HF : Hid (∀ k, k < xs.length → tz (xt xs k).2.1 (xt xs k).2.2 1000000)) (HB : Hid (vds xs = true)) (ys : List Rat) (HY : Hid (xs = ys.map tr)) (hn0 : 0 < ys.length) (hl60 : l.length ≤ 100) (B : Nat) (hB4 : B ≤ 4000) (HSZ : Hid (∀ k, szR (yq ys k) B)) (hm : ys.length ≤ 4000) : Calls Tryd.prog 18 #[.agg #[v], vf] w fun e w' => ∃ v', e = .returned (.tuple #[v', .int .i64 0]) ∧ Rm (rtl l ys) w.heap.size v' w' ∧ (∀ u, szR (yq (rtl l ys) u) (l.length * (B + 15) + 1)) ∧ Since w w' := by
 obtain ⟨n, hln9⟩ : ∃ n, l.length = n := ⟨_, rfl⟩
 have hn60 : n ≤ 100 := by omega
 have hn1 : 1 ≤ n := by have := HK.out.len1; omega
 have HLN := Lib.hid hln9;clear hl60 hln9
 have HV : Hid (∀ X, Since w X → Ks l v X) := fun X h => Ks.lasts l _ _ _ hv h
 clear hv;have HC : Hid (kcE l = 0) := kcE_ok.2 HK.out;obtain ⟨AF, nf, cf, rfl, hlf, hnf1, hrf⟩ := hvf.at;clear hvf
 have HRF : Hid (∀ X, Since w X → Rd X 3 (.slice AF nf cf) nf (fl trc xs)) := fun X h => hrf.below h
 have HLF := Lib.hid hlf
 have HAV : Hid (∀ k, k < nf → vd (xt xs k).1 (xt xs k).2.1 (xt xs k).2.2 = true) := fun k hk => by
  rw [xt_in (by rw [HLF.out]; exact hk)];exact List.all_eq_true.1 HB.out _ (List.getElem_mem _)
 clear hrf
 have hlm : ys.length = nf := by
  have h9 := HY.out;rw [h9, List.length_map] at hlf;exact hlf
 have HLM := Lib.hid hlm;rw [hlf] at h4;rw [hlm] at hn0;clear hlf hlm hm;obtain ⟨D, hD⟩ : ∃ D, D = B + 15 := ⟨_, rfl⟩
 have hD4 : D ≤ 4015 := by omega
 go_enter Tryd.func18, Tryd.ntmps18
 go_upto_region 1 with fail;obtain ⟨W0, hW0, hB0, hb⟩ := start1 w 24 [v];rw [← hW0];clear hW0;refine jp ?_;refine ja hB0 Tryd.underlying24 (by rfl) info_kn ?_;refine jc (.int .i64 0) (fun X hX hF => mo (kchC _ l X (HV.out X (Since.next hb hX))) (by rw [HC.out])) ?_;refine jm (.int .i64 0) ?_;refine jzb hb fun X1 hX1 hb => ?_;replace hB0 := hB0.bel hX1;clear hX1;go_upto_region 2 with fail;refine jp ?_;refine jm (.int .i64 0) ?_;refine jv (.bool false) (exec_nei _ _ _ _ (by rfl) .i64 0 0 (by rfl) (by rfl) false (by rw [decide_eq_true (by omega)]; rfl)) ?_;refine jzb hb fun X2 hX2 hb => ?_;replace hB0 := hB0.bel hX2;clear hX2;go_upto_region 4 with fail;refine jp ?_;refine jm (.slice AF nf cf) ?_;refine jv (.int .i64 (nf : Int)) (exec_lenv Tryd.underlying43 _ (by rfl) AF nf cf (by rfl) _ rfl) ?_;refine jv (.bool false) (exec_gtr _ _ _ _ (by rfl) .i64 (nf : Int) 4000 (by rfl) (by rfl) false (decide_eq_false (by omega))) ?_;refine jzb hb fun X3 hX3 hb => ?_;replace hB0 := hB0.bel hX3;clear hX3;go_upto_region 6 with fail;refine jp ?_;refine jm (.slice AF nf cf) ?_;refine jv (.int .i64 (nf : Int)) (exec_lenv Tryd.underlying43 _ (by rfl) AF nf cf (by rfl) _ rfl) ?_;refine jm (.int .i64 0) ?_;refine jzb hb fun X4 hX4 hb => ?_;replace hB0 := hB0.bel hX4;clear hX4
 go_wp2
 go_loopw [25] (fun kv wr => ∃ k : Nat, k ≤ nf ∧ kv = .int .i64 (k : Int) ∧ Hid (∀ j, j < k → vd (xt xs j).1 (xt xs j).2.1 (xt xs j).2.2 = true) ∧ Blk wr w.heap.size 24 [v] ∧ Below w.heap.size w wr) (fun kv _ => nf - (intOf kv).toNat)
 case atStart => exact ⟨0, by omega, rfl, (fun j hj => by omega), hB0, hb⟩
 case round =>
  clear hB0 hb;obtain ⟨k, hk, rfl, HZ, hB0, hb⟩ := hrel
  rcases Nat.lt_or_ge k nf with hlt | hlt
  ·obtain ⟨b, off, rfl, hbb, hcx⟩ := Rl.xtAt (HRF.out _ hb) HLF.out hlt
   obtain ⟨x, x9⟩ : ∃ x, x = xt xs k := ⟨_, rfl⟩;have HX := Lib.hid x9;clear x9;rw [← HX.out] at hcx
   have hx : tz x.2.1 x.2.2 1000000 := by rw [HX.out]; exact HF.out k (by rw [HLF.out]; exact hlt)
   go_upto_region 7 with fail;refine jp ?_;refine jv (.bool true) (exec_lss _ _ _ _ (by rfl) .i64 (k : Int) (nf : Int) (by rfl) (by rfl) true (decide_eq_true (by omega))) ?_;refine jzb hb fun X1 hX1 hb => ?_;replace hB0 := hB0.bel hX1;have hcx := hcx.below hX1 hbb;replace hbb := Nat.lt_of_lt_of_le hbb (hX1).size;clear hX1;go_upto_region 8 with fail;refine jq 2 ?_;refine jv (.pointer (some ⟨b, off + k * 3, none⟩)) (exec_ixv Tryd.underlying43 info_rat _ _ (by rfl) b (off) nf cf k (by omega) (by rfl) (by rfl) rfl) ?_;refine jg (.agg #[.bool x.1, st x.2.1, st x.2.2]) (fun X hX hF => exec_ldc 38 _ (by rfl) b (off + k * 3) (by rfl) Tryd.underlying38 rfl [.bool x.1, .string ⟨x.2.1.toArray⟩, .string ⟨x.2.2.toArray⟩] X (Cl.part (hcx.below hX hbb) 0 _ (by rfl)) info_rat) ?_;refine jzb hb fun X2 hX2 hb => ?_;replace hB0 := hB0.bel hX2;have hcx := hcx.below hX2 hbb;replace hbb := Nat.lt_of_lt_of_le hbb (hX2).size;clear hX2;go_upto_region 9 with (refine osn 38 8 28 #[.bool x.1, .string ⟨x.2.1.toArray⟩, .string ⟨x.2.2.toArray⟩] info_rat ?_);obtain ⟨Y2, hY9, hD8, hS9⟩ := start1 X2 38 [.bool x.1, .string ⟨x.2.1.toArray⟩, .string ⟨x.2.2.toArray⟩];rw [← hY9];clear hY9;have hgs8 := hb.size;have hlt8x0 := hB0.lt;have hcx := hcx.below hS9 hbb;replace hbb := Nat.lt_of_lt_of_le hbb (hS9).size;have hB0 := hB0.bel hS9;have hb := bel_next hb hS9;clear hS9;generalize X2.heap.size = g8 at *
   have HVX : Hid (vd x.1 x.2.1 x.2.2 = true) := by
    show _ = _
    rw [HX.out]; exact HAV.out k hlt
   refine jp ?_;refine ja hD8 Tryd.underlying38 (by rfl) info_rat ?_;refine jc (.bool true) (fun X hX hF => mo (validG x.1 x.2.1 x.2.2 X (hx.mono (by omega))) (by rw [HVX.out])) ?_;refine jm (.bool false) ?_;refine jzb hb fun X3 hX3 hb => ?_;replace hB0 := hB0.bel hX3;replace hD8 := hD8.bel hX3;clear hX3
   have HZ2 : Hid (∀ j, j < k + 1 → vd (xt xs j).1 (xt xs j).2.1 (xt xs j).2.2 = true) := fun j hj => by
    rcases Nat.lt_or_ge j k with h9 | h9
    ·exact HZ.out j h9
    ·rw [show j = k by omega, ← HX.out]; exact HVX.out
   go_upto_region 11 with fail;refine jp ?_;refine jv (.int .i64 ((k + 1 : Nat) : Int)) (exec_add _ _ _ _ (by rfl) (k : Int) 1 ((k + 1 : Nat) : Int) (by rfl) (by rfl) (by omega) (by omega) (by omega)) ?_;refine jm (.int .i64 ((k + 1 : Nat) : Int)) ?_;refine jzb hb fun X4 hX4 hb => ?_;replace hB0 := hB0.bel hX4;replace hD8 := hD8.bel hX4;clear hX4
   go_wp2
   go_roundw
   case rel => exact ⟨k + 1, by omega, rfl, HZ2, hB0, hb⟩
   case measure => simp [intOf]; omega
  ·obtain rfl : k = nf := by omega
   clear HZ;go_upto_region 7 with fail;refine jp ?_;refine jv (.bool false) (exec_lss _ _ _ _ (by rfl) .i64 (k : Int) (k : Int) (by rfl) (by rfl) false (decide_eq_false (by omega))) ?_;refine jzb hb fun X1 hX1 hb => ?_;replace hB0 := hB0.bel hX1;clear hX1;go_upto_region 12 with fail;refine jp ?_;refine jm (.slice AF k cf) ?_;refine jv (.int .i64 (k : Int)) (exec_lenv Tryd.underlying43 _ (by rfl) AF k cf (by rfl) _ rfl) ?_;refine jv (.bool false) (exec_eqi _ _ _ _ (by rfl) .i64 (k : Int) 0 (by rfl) (by rfl) false (decide_eq_false (by omega))) ?_;refine jzb hb fun X2 hX2 hb => ?_;replace hB0 := hB0.bel hX2;clear hX2;obtain ⟨A, n', c, e9, hln9, hn9, _⟩ := (HV.out _ hb).at
   obtain rfl : n' = n := by rw [← hln9]; exact HLN.out
   subst e9
   have HRX : Hid (∀ X, Since w X → Rd X 1 (.slice A n' c) n' (l.map I64)) := fun X h => by
    obtain ⟨A2, n2, c2, e2, _, _, h2⟩ := (HV.out X h).at
    injection e2 with e3 e4 e5
    subst e3 e4 e5;exact h2
   clear hln9 hn9;obtain ⟨M, hM⟩ : ∃ M, M + 1 = k + n' := ⟨k + n' - 1, by omega⟩;go_upto_region 14 with fail;refine lx_plain [none, none, none, none, none, none, none, some (Rm (List.replicate M 0) (w.heap.size + 1))] (lasts_none (lasts_none (lasts_none (lasts_none (lasts_none (lasts_none (lasts_none (lasts_some (Rm.lasts _ _) (lasts_nil))))))))) ?_;simp only [iX, Nat.reduceAdd];refine jm (.slice AF k cf) ?_;refine jv (.int .i64 (k : Int)) (exec_lenv Tryd.underlying43 _ (by rfl) AF k cf (by rfl) _ rfl) ?_;refine jn (.pointer (some ⟨w.heap.size, 0, none⟩)) ?_;refine jf (.slice A n' c) hB0 0 load_ints ?_;refine jv (.int .i64 (n' : Int)) (exec_lenv Tryd.underlying22 _ (by rfl) A n' c (by rfl) _ rfl) ?_;refine jv (.int .i64 ((M + 1 : Nat) : Int)) (exec_add _ _ _ _ (by rfl) (k : Int) (n' : Int) ((M + 1 : Nat) : Int) (by rfl) (by rfl) (by omega) (by omega) (by omega)) ?_;refine jv (.int .i64 (M : Int)) (exec_sub _ _ _ _ (by rfl) ((M + 1 : Nat) : Int) 1 (M : Int) (by rfl) (by rfl) (by omega) (by omega) (by omega)) ?_;refine lx_new (by rfl) (fun X hX hF => exec_makeR _ _ (by rfl) M (w.heap.size + 1) (by rfl) (by rfl) rfl (by omega) X (hB0.bel hX).lt) ?_;intro v43;simp only [pX];refine jm (v43) ?_;refine lx_nil ?_;intro X3 hX3 hF;have hv43 := hF _ _ List.mem_cons_self;replace hB0 := hB0.bel hX3;have hb := bel_next hb hX3;clear hF hX3;obtain ⟨g, rfl, hg, _, hBg⟩ := hv43;rw [List.length_replicate];obtain ⟨t, t9⟩ : ∃ t, t = tot l := ⟨_, rfl⟩;have HT := Lib.hid t9
   have hti : insB t = true := by rw [t9]; exact HK.out.inst
   have ht0 : t ≠ 0 := by rw [t9]; exact HK.out.tne0
   clear t9;go_upto_region 15 with fail;refine jp ?_;refine ja hB0 Tryd.underlying24 (by rfl) info_kn ?_;refine jc (.int .i64 t) (fun X hX hF => mo (totK _ l X (HV.out X (Since.next hb hX)) HK.out) (by rw [HT.out])) ?_;refine jm (.int .i64 t) ?_;refine jzb hb fun X4 hX4 hb => ?_;replace hB0 := hB0.bel hX4;replace hBg := hBg.bel hX4;clear hX4;go_upto_region 16 with fail;refine jp ?_;refine jn (.pointer (some ⟨w.heap.size, 0, none⟩)) ?_;refine jf (.slice A n' c) hB0 0 load_ints ?_;refine jv (.int .i64 (n' : Int)) (exec_lenv Tryd.underlying22 _ (by rfl) A n' c (by rfl) _ rfl) ?_;refine jm (.int .i64 0) ?_;refine jzb hb fun X5 hX5 hb => ?_;replace hB0 := hB0.bel hX5;replace hBg := hBg.bel hX5;clear hX5
   go_wp2
   go_loopw [49] (fun iv w2 => ∃ (i : Nat) (O : List Rat), i ≤ n' ∧ iv = .int .i64 (i : Int) ∧ Hid (O.length = M) ∧ Hid (∀ u, u < M → yq O u = pR l ys i u) ∧ Hid (∀ u, szR (yq O u) (i * D + 1)) ∧ Blk w2 g 38 (fl rc O) ∧ Blk w2 w.heap.size 24 [.slice A n' c] ∧ Below w.heap.size w w2) (fun iv _ => n' - (intOf iv).toNat)
   case atStart => exact ⟨0, List.replicate M 0, by omega, rfl, List.length_replicate, (fun u hu => by rw [yq_in (by simpa using hu), List.getElem_replicate]; rfl), (fun u => by
    have h9 : yq (List.replicate M 0) u = 0 := by
     rcases Nat.lt_or_ge u M with h8 | h8
     ·rw [yq_in (by simpa using h8), List.getElem_replicate]
     ·exact yq_out (by simpa using h8)
    rw [h9]
    exact szR_zero.mono (by omega)), hBg, hB0, hb⟩
   case round =>
    clear hBg hB0 hb;obtain ⟨i, O, hi, rfl, HO, HW, HS, hBg, hB0, hb⟩ := hrel
    rcases Nat.lt_or_ge i n' with hlti | hlti
    ·obtain ⟨b, off, rfl, hbb, hcx⟩ := wtIn (HRX.out _ hb) HLN.out hlti
     obtain ⟨x, hx9⟩ : ∃ x, x = wt l i := ⟨_, rfl⟩;have HX := Lib.hid hx9;clear hx9;rw [← HX.out] at hcx
     have hxi : insB x = true := by rw [HX.out]; exact HK.out.insw i
     have hiD : i * D ≤ 100 * 4015 := Nat.mul_le_mul (by omega) hD4;have hiD2 : (i + 1) * D = i * D + D := Nat.succ_mul i D;go_upto_region 17 with fail;refine jp ?_;refine jv (.bool true) (exec_lss _ _ _ _ (by rfl) .i64 (i : Int) (n' : Int) (by rfl) (by rfl) true (decide_eq_true (by omega))) ?_;refine jzb hb fun X1 hX1 hb => ?_;replace hB0 := hB0.bel hX1;replace hBg := hBg.bel hX1;have hcx := hcx.below hX1 hbb;replace hbb := Nat.lt_of_lt_of_le hbb (hX1).size;clear hX1;go_upto_region 18 with fail;refine jp ?_;refine jm (.int .i64 (i : Int)) ?_;refine jv (.pointer (some ⟨b, off + i * 1, none⟩)) (exec_ixv Tryd.underlying22 info_i1 _ _ (by rfl) b (off) n' c i (by omega) (by rfl) (by rfl) rfl) ?_;refine jg (.int .i64 x) (fun X hX hF => exec_ld 3 _ (by rfl) b (off + i * 1) (by rfl) _ X ((hcx.below hX hbb) 0 _ rfl) (fun X u h => load_int b (off + i * 1) X u h)) ?_;refine jm (.int .i64 (i : Int)) ?_;refine jm (.int .i64 x) ?_;refine jzb hb fun X2 hX2 hb => ?_;replace hB0 := hB0.bel hX2;replace hBg := hBg.bel hX2;have hcx := hcx.below hX2 hbb;replace hbb := Nat.lt_of_lt_of_le hbb (hX2).size;clear hX2
     by_cases h0 : x = 0
     ·have HW2 : Hid (∀ u, u < M → yq O u = pR l ys (i + 1) u) := fun u hu => by
       rw [HW.out u hu, pR_succ, ← HX.out, h0]
       have h9 : rk 0 (tot l) = 0 := by
        show ((0 : Int) : Rat) / _ = 0
        rw [show ((0 : Int) : Rat) = 0 from rfl, Rat.div_def, Rat.zero_mul]
       rw [h9, Rat.zero_mul, ite_self, Rat.add_zero]
      have HS2 : Hid (∀ u, szR (yq O u) ((i + 1) * D + 1)) := fun u => (HS.out u).mono (by omega)
      go_upto_region 19 with fail;refine jp ?_;refine jm (.int .i64 x) ?_;refine jv (.bool true) (exec_eqi _ _ _ _ (by rfl) .i64 x 0 (by rfl) (by rfl) true (decide_eq_true (by omega))) ?_;refine jzb hb fun X3 hX3 hb => ?_;replace hB0 := hB0.bel hX3;replace hBg := hBg.bel hX3;clear hX3;go_upto_region 25 with fail;refine jp ?_;refine jv (.int .i64 ((i + 1 : Nat) : Int)) (exec_add _ _ _ _ (by rfl) (i : Int) 1 ((i + 1 : Nat) : Int) (by rfl) (by rfl) (by omega) (by omega) (by omega)) ?_;refine jm (.int .i64 ((i + 1 : Nat) : Int)) ?_;refine jzb hb fun X4 hX4 hb => ?_;replace hB0 := hB0.bel hX4;replace hBg := hBg.bel hX4;clear hX4
      go_wp2
      go_roundw
      case rel => exact ⟨i + 1, O, by omega, rfl, HO, HW2, HS2, hBg, hB0, hb⟩
      case measure => simp [intOf]; omega
     ·go_upto_region 19 with fail
      refine jp ?_;refine jm (.int .i64 x) ?_;refine jv (.bool false) (exec_eqi _ _ _ _ (by rfl) .i64 x 0 (by rfl) (by rfl) false (decide_eq_false (by omega))) ?_;refine jzb hb fun X3 hX3 hb => ?_;replace hB0 := hB0.bel hX3;replace hBg := hBg.bel hX3;clear hX3;go_upto_region 20 with fail;refine jp ?_;refine jm (.slice AF k cf) ?_;refine jv (.int .i64 (k : Int)) (exec_lenv Tryd.underlying43 _ (by rfl) AF k cf (by rfl) _ rfl) ?_;refine jm (.int .i64 0) ?_;refine jzb hb fun X4 hX4 hb => ?_;replace hB0 := hB0.bel hX4;replace hBg := hBg.bel hX4;clear hX4
      go_wp2
      go_loopw [58] (fun jv w3 => ∃ (j : Nat) (O : List Rat), j ≤ k ∧ jv = .int .i64 (j : Int) ∧ Hid (O.length = M) ∧ Hid (∀ u, u < M → yq O u = pR l ys i u + if i ≤ u ∧ u < i + j then rk x t * yq ys (u - i) else 0) ∧ Hid (∀ u, szR (yq O u) ((i + 1) * D + 1) ∧ (i + j ≤ u → szR (yq O u) (i * D + 1))) ∧ Blk w3 g 38 (fl rc O) ∧ Blk w3 w.heap.size 24 [.slice (some ⟨b, off, none⟩) n' c] ∧ Below w.heap.size w w3) (fun jv _ => k - (intOf jv).toNat)
      case atStart => exact ⟨0, O, by omega, rfl, HO, (fun u hu => by rw [if_neg (by omega), Rat.add_zero]; exact HW.out u hu), (fun u => ⟨(HS.out u).mono (by omega), fun _ => HS.out u⟩), hBg, hB0, hb⟩
      case round =>
       clear hBg hB0 hb HO HW HS;obtain ⟨j, O, hj, rfl, HO, HW, HS, hBg, hB0, hb⟩ := hrel
       rcases Nat.lt_or_ge j k with hltj | hltj
       ·obtain ⟨b2, off2, rfl, hbf, hcf⟩ := Rl.xtAt (HRF.out _ hb) HLF.out hltj
        obtain ⟨y, y9⟩ : ∃ y, y = yq ys j := ⟨_, rfl⟩;have HYJ := Lib.hid y9
        have hxy : xt xs j = tr y := by
         rw [xt_in (by rw [HLF.out]; exact hltj), y9, yq_in (by rw [HLM.out]; exact hltj)];have h9 := HY.out;subst h9;rw [List.getElem_map]
        rw [hxy] at hcf;have hcf : Cl wr b2 (off2 + j * 3) [.bool (rN y), .string ⟨(rP y).toArray⟩, .string ⟨(rD y).toArray⟩] := hcf
        have hyB : szR y B := by rw [y9]; exact HSZ.out j
        have hy9 : szR y 4000 := hyB.mono hB4;clear y9 hxy
        have hijM : i + j < M := by omega
        obtain ⟨u, hu⟩ : ∃ u, u = i + j := ⟨_, rfl⟩
        have huM : u < M := by omega
        obtain ⟨s, s9⟩ : ∃ s, s = yq O u := ⟨_, rfl⟩;have HSS := Lib.hid s9
        have hs0 : szR s (i * D + 1) := by rw [s9]; exact (HS.out u).2 (by omega)
        have hs9 : szR s 401501 := hs0.mono (by omega);have hce := blk_rc hBg (k := u) (by rw [HO.out]; exact huM);rw [← s9] at hce;have hce : Cl wr g (0 + u * 3) [.bool (rN s), .string ⟨(rP s).toArray⟩, .string ⟨(rD s).toArray⟩] := hce;have hge := hBg.lt;clear s9;have LB0 : szR (rk x t) 14 := szR_rk x t hxi hti;have LB1 : szR y 4000 := hy9;have LB2 : szR s 401501 := hs9;have LB3 : szR ((rk x t) * y) 4014 := szR_mul LB0 LB1
        skip
        go_upto_region 21 with fail;refine jp ?_;refine jv (.bool true) (exec_lss _ _ _ _ (by rfl) .i64 (j : Int) (k : Int) (by rfl) (by rfl) true (decide_eq_true (by omega))) ?_;refine jzb hb fun X1 hX1 hb => ?_;replace hB0 := hB0.bel hX1;replace hBg := hBg.bel hX1;have hcf := hcf.below hX1 hbf;have hce := hce.below hX1 hge;replace hbf := Nat.lt_of_lt_of_le hbf (hX1).size;replace hge := Nat.lt_of_lt_of_le hge (hX1).size;clear hX1;go_upto_region 22 with fail;refine jq 3 ?_;refine jm (.int .i64 (j : Int)) ?_;refine jv (.pointer (some ⟨b2, off2 + j * 3, none⟩)) (exec_ixv Tryd.underlying43 info_rat _ _ (by rfl) b2 (off2) k cf j (by omega) (by rfl) (by rfl) rfl) ?_;refine jg (rt (rN y) (rP y) (rD y)) (fun X hX hF => exec_ldc 38 _ (by rfl) b2 (off2 + j * 3) (by rfl) Tryd.underlying38 rfl [.bool (rN y), .string ⟨(rP y).toArray⟩, .string ⟨(rD y).toArray⟩] X (Cl.part (hcf.below hX hbf) 0 _ (by rfl)) info_rat) ?_;refine jzb hb fun X2 hX2 hb => ?_;replace hB0 := hB0.bel hX2;replace hBg := hBg.bel hX2;have hcf := hcf.below hX2 hbf;have hce := hce.below hX2 hge;replace hbf := Nat.lt_of_lt_of_le hbf (hX2).size;replace hge := Nat.lt_of_lt_of_le hge (hX2).size;clear hX2;go_upto_region 23 with (refine osn 38 14 62 #[.bool (rN y), .string ⟨(rP y).toArray⟩, .string ⟨(rD y).toArray⟩] info_rat ?_);obtain ⟨Y2, hY9, hD14, hS9⟩ := start1 X2 38 [.bool (rN y), .string ⟨(rP y).toArray⟩, .string ⟨(rD y).toArray⟩];rw [← hY9];clear hY9;have hgs14 := hb.size;have hlt14x0 := hB0.lt;have hlt14x1 := hBg.lt;have hcf := hcf.below hS9 hbf
        have hce := hce.below hS9 hge;replace hbf := Nat.lt_of_lt_of_le hbf (hS9).size;replace hge := Nat.lt_of_lt_of_le hge (hS9).size;have hB0 := hB0.bel hS9;have hBg := hBg.bel hS9;have hb := bel_next hb hS9;clear hS9;generalize X2.heap.size = g14 at *;refine lx_region_tail [] (by kernel_rfl) (by kernel_rfl) (by kernel_rfl) rfl (lasts_nil) ?_;simp only [its, List.dropLast, Nat.zero_add, Nat.reduceAdd];refine jm (.slice (some ⟨g, 0, none⟩) M M) ?_;refine jm (.int .i64 (j : Int)) ?_;refine jm (.int .i64 (i : Int)) ?_;refine jv (.int .i64 (u : Int)) (exec_add _ _ _ _ (by rfl) (j : Int) (i : Int) (u : Int) (by rfl) (by rfl) (by omega) (by omega) (by omega)) ?_;refine jm (.slice (some ⟨g, 0, none⟩) M M) ?_;refine jm (.int .i64 (j : Int)) ?_;refine jm (.int .i64 (i : Int)) ?_;refine jv (.int .i64 (u : Int)) (exec_add _ _ _ _ (by rfl) (j : Int) (i : Int) (u : Int) (by rfl) (by rfl) (by omega) (by omega) (by omega)) ?_;refine jv (.pointer (some ⟨g, 0 + u * 3, none⟩)) (exec_ixv Tryd.underlying43 info_rat _ _ (by rfl) g (0) M M u huM (by rfl) (by rfl) rfl) ?_;refine jg (rt (rN s) (rP s) (rD s)) (fun X hX hF => exec_ldc 38 _ (by rfl) g (0 + u * 3) (by rfl) Tryd.underlying38 rfl [.bool (rN s), .string ⟨(rP s).toArray⟩, .string ⟨(rD s).toArray⟩] X (Cl.part (hce.below hX hge) 0 _ (by rfl)) info_rat) ?_;refine jm (.int .i64 x) ?_;refine jm (.int .i64 t) ?_;refine jc (rt (rN (rk x t)) (rP (rk x t)) (rD (rk x t))) (fun X hX hF => partC x t X hxi hti ht0) ?_;refine ja hD14 Tryd.underlying38 (by rfl) info_rat ?_
        refine jc (rt (rN ((rk x t) * y)) (rP ((rk x t) * y)) (rD ((rk x t) * y))) (fun X hX hF => mulG (rN (rk x t)) (rP (rk x t)) (rD (rk x t)) (rN y) (rP y) (rD y) (rq_rb (rk x t)) (rq_rb y) X (tzR LB0 (by omega)) (tzR LB1 (by omega))) ?_;refine jc (.agg #[.bool (rN (s + ((rk x t) * y))), st (rP (s + ((rk x t) * y))), st (rD (s + ((rk x t) * y)))]) (fun X hX hF => addG (rN s) (rP s) (rD s) (rN ((rk x t) * y)) (rP ((rk x t) * y)) (rD ((rk x t) * y)) (rq_rb s) (rq_rb ((rk x t) * y)) X (tzR LB2 (by omega)) (tzR LB3 (by omega))) ?_;refine jv (.pointer (some ⟨g, 0 + u * 3, none⟩)) (exec_ixv Tryd.underlying43 info_rat _ _ (by rfl) g (0) M M u huM (by rfl) (by rfl) rfl) ?_;refine jzb hb fun X3 hX3 hb => ?_;replace hB0 := hB0.bel hX3;replace hBg := hBg.bel hX3;replace hD14 := hD14.bel hX3;have hce := hce.below hX3 hge;replace hge := Nat.lt_of_lt_of_le hge (hX3).size;clear hX3;refine op_store_rc rfl (.tmp 79) (.tmp 78) rfl g O hBg u (by rw [HO.out]; exact huM) rfl (s + (rk x t * y)) rfl ?_;intro w4 hR9 hG9;have hb := grown_bel hG9 hb hb.size (by omega);have hB0 := grown_blk hG9 hB0 (by omega);have hBg := hR9;clear hR9 hG9
        have HO2 : Hid ((O.set u (s + (rk x t * y))).length = M) := by
         show _ = _
         rw [List.length_set]; exact HO.out
        have HW2 : Hid (∀ v, v < M → yq (O.set u (s + (rk x t * y))) v = pR l ys i v + if i ≤ v ∧ v < i + (j + 1) then rk x t * yq ys (v - i) else 0) := fun v hv => by
         rw [yq_set (by rw [HO.out]; exact huM)]
         by_cases h9 : v = u
         ·rw [if_pos h9, h9, if_pos (by omega), HSS.out, HW.out u huM, if_neg (by omega), Rat.add_zero, HYJ.out, show u - i = j by omega]
         ·rw [if_neg h9, HW.out v hv]
          by_cases h8 : i ≤ v ∧ v < i + j
          ·rw [if_pos h8, if_pos (by omega)]
          ·rw [if_neg h8, if_neg (by omega)]
        have HS2 : Hid (∀ v, szR (yq (O.set u (s + (rk x t * y))) v) ((i + 1) * D + 1) ∧ (i + (j + 1) ≤ v → szR (yq (O.set u (s + (rk x t * y))) v) (i * D + 1))) := fun v => by
         rw [yq_set (by rw [HO.out]; exact huM)]
         by_cases h9 : v = u
         ·rw [if_pos h9]
          exact ⟨(szR_add hs0 (szR_mul (szR_rk x t hxi hti) hyB)).mono (by omega), fun h8 => by omega⟩
         ·rw [if_neg h9]
          exact ⟨(HS.out v).1, fun h8 => (HS.out v).2 (by omega)⟩
        go_upto_region 24 with fail;refine jp ?_;refine jv (.int .i64 ((j + 1 : Nat) : Int)) (exec_add _ _ _ _ (by rfl) (j : Int) 1 ((j + 1 : Nat) : Int) (by rfl) (by rfl) (by omega) (by omega) (by omega)) ?_;refine jm (.int .i64 ((j + 1 : Nat) : Int)) ?_;refine jzb hb fun X4 hX4 hb => ?_;replace hB0 := hB0.bel hX4;replace hBg := hBg.bel hX4;clear hX4
        go_wp2
        go_roundw
        case rel => exact ⟨j + 1, _, by omega, rfl, HO2, HW2, HS2, hBg, hB0, hb⟩
        case measure => simp [intOf]; omega
       ·obtain rfl : j = k := by omega
        have HW2 : Hid (∀ u, u < M → yq O u = pR l ys (i + 1) u) := fun u hu => by
         rw [HW.out u hu, pR_succ, ← HX.out, ← HT.out]
         by_cases h9 : i ≤ u
         ·rw [if_pos h9]
          by_cases h8 : u < i + j
          ·rw [if_pos ⟨h9, h8⟩]
          ·rw [if_neg (by omega), yq_out (l := ys) (by rw [HLM.out]; omega), Rat.mul_zero]
         ·rw [if_neg h9, if_neg (by omega)]
        have HS2 : Hid (∀ u, szR (yq O u) ((i + 1) * D + 1)) := fun u => (HS.out u).1
        go_upto_region 21 with fail;refine jp ?_;refine jv (.bool false) (exec_lss _ _ _ _ (by rfl) .i64 (j : Int) (j : Int) (by rfl) (by rfl) false (decide_eq_false (by omega))) ?_;refine jzb hb fun X1 hX1 hb => ?_;replace hB0 := hB0.bel hX1;replace hBg := hBg.bel hX1;clear hX1;go_upto_region 25 with fail;refine jp ?_;refine jv (.int .i64 ((i + 1 : Nat) : Int)) (exec_add _ _ _ _ (by rfl) (i : Int) 1 ((i + 1 : Nat) : Int) (by rfl) (by rfl) (by omega) (by omega) (by omega)) ?_;refine jm (.int .i64 ((i + 1 : Nat) : Int)) ?_;refine jzb hb fun X2 hX2 hb => ?_;replace hB0 := hB0.bel hX2;replace hBg := hBg.bel hX2;clear hX2
        go_wp2
        go_roundw
        case rel => exact ⟨i + 1, O, by omega, rfl, HO, HW2, HS2, hBg, hB0, hb⟩
        case measure => simp [intOf]; omega
    ·obtain rfl : i = n' := by omega
     have HRT : Hid (O = rtl l ys) := by
      show _ = _
      have hne : ys ≠ [] := fun h9 => by
       have h8 := HLM.out;rw [h9] at h8
       simp at h8
       omega
      unfold rtl
      rw [if_neg hne];refine yq_ext (by rw [HO.out, List.length_map, List.length_range, HLM.out, HLN.out]; omega) fun u hu => ?_;rw [HO.out] at hu;rw [HW.out u hu, yq_range _ (by rw [HLM.out, HLN.out]; omega), ← pR_all, HLN.out]
     rw [HRT.out] at hBg
     have HRL : Hid ((rtl l ys).length = M) := by
      show _ = _
      rw [← HRT.out]; exact HO.out
     have HRS : Hid (∀ u, szR (yq (rtl l ys) u) (l.length * (B + 15) + 1)) := fun u => by
      have h9 := HS.out u;rw [HRT.out, hD, ← HLN.out] at h9;exact h9
     go_upto_region 17 with fail;refine jp ?_;refine jv (.bool false) (exec_lss _ _ _ _ (by rfl) .i64 (i : Int) (i : Int) (by rfl) (by rfl) false (decide_eq_false (by omega))) ?_;refine jzb hb fun X1 hX1 hb => ?_;replace hB0 := hB0.bel hX1;replace hBg := hBg.bel hX1;clear hX1;go_upto_region 26 with fail;refine jp ?_;refine jm (.slice (some ⟨g, 0, none⟩) M M) ?_;refine jm (.slice (some ⟨g, 0, none⟩) M M) ?_;refine jm (.int .i64 0) ?_;refine jzb hb fun X2 hX2 hb => ?_;replace hB0 := hB0.bel hX2;replace hBg := hBg.bel hX2;clear hX2
     go_wp2
     go_ret2
     exact ⟨.slice (some ⟨g, 0, none⟩) M M, rfl, ⟨g, by rw [HRL.out], by omega, by rw [HRL.out]; omega, hBg⟩, HRS.out, hb⟩
end Go.Proofs.YtcpedbpldgndmaaDoor
