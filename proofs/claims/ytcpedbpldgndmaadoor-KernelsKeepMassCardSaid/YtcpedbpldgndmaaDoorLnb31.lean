/-
  law 31: KernelsKeepMass.
-/
import Derived.Test.YtcpedbpldgndmaaDoorLna31
import Derived.Test.YtcpedbpldgndmaaDoorLcv
set_option linter.unusedSimpArgs false
set_option linter.unusedVariables false
set_option maxRecDepth 100000
set_option maxHeartbeats 1600000
namespace Go.Proofs.YtcpedbpldgndmaaDoor
open Go.RowKit
theorem info_rtz : (Tryd.prog.info? 38).map (fun i => (i.zero, i.size, i.bytes)) = some (some (.agg #[.bool false, .string ⟨#[]⟩, .string ⟨#[]⟩]), 3, 40) := by kernel_rfl
theorem kkm5 (u1 vf vg : Value) (l : List Int) (xs zs : List Tr) (w : World) (h1 : Ks l u1 w) (hf : Rl xs vf w) (hg : Rl zs vg w) (HA : Hid (fewK l.length = true)) (HS : Hid (fewS xs 60 = true)) (HT : Hid (fewS zs 60 = true)) (HC : Hid (kcE l = 0)) (HV : Hid (vds xs = true)) : Calls Tryd.prog 5 #[.agg #[u1], vf, vg] w fun e w' => e = .returned (.bool true) ∧ Since w w' := by
  have HKL : Hid (Kok l) := kcE_ok.1 HC.out
  have hl30 := few_len HKL.out HA.out
  have hxs60 : xs.length ≤ 60 := (fewS_t HS.out).1
  have hzs60 : zs.length ≤ 60 := (fewS_t HT.out).1
  obtain ⟨A, n, c, e1, _, _, _⟩ := h1.at
  subst e1
  obtain ⟨AF, nf, cf, e3, hlf, hnf1, hrf⟩ := hf.at
  subst e3
  obtain ⟨AG, ng, cg, e4, hlg, hng1, hrg⟩ := hg.at
  subst e4
  have H1 : Hid (∀ X, Since w X → Ks l (.slice A n c) X) := fun X h => Ks.lasts l _ _ _ h1 h
  have H3 : Hid (∀ X, Since w X → Rl xs (.slice AF nf cf) X) := fun X h => Rl.lasts xs _ _ _ hf h
  have H4 : Hid (∀ X, Since w X → Rl zs (.slice AG ng cg) X) := fun X h => Rl.lasts zs _ _ _ hg h
  have HRF : Hid (Rd w 3 (.slice AF nf cf) nf (fl trc xs)) := hrf
  have HRG : Hid (Rd w 3 (.slice AG ng cg) ng (fl trc zs)) := hrg
  have HLF := Lib.hid hlf
  have HLG := Lib.hid hlg
  clear hrf hrg hlf hlg
  go_enter Tryd.func5, Tryd.ntmps5
  go_upto_region 1 with (fail)
  obtain ⟨W0, hW0, hB0, hb⟩ := start1 w 24 [.slice A n c]
  rw [← hW0]
  clear hW0
  replace h1 := H1.out _ hb
  replace hf := H3.out _ hb
  replace hg := H4.out _ hb
  refine jp ?_
  refine jm (.slice AF nf cf) ?_
  refine jc (.bool true) (fun X hX hF => mo (fwsV _ _ 60 X ((Rl.lasts xs) _ _ _ hf hX)) (by rw [HS.out])) ?_
  refine jm (.bool true) ?_
  refine jz fun X1 hX1 => ?_
  replace h1 := (Ks.lasts l) _ _ _ h1 hX1
  replace hf := (Rl.lasts xs) _ _ _ hf hX1
  replace hg := (Rl.lasts zs) _ _ _ hg hX1
  replace hB0 := hB0.bel hX1
  have hb := bel_next hb hX1
  clear hX1
  go_upto_region 2 with (fail)
  refine jp ?_
  refine jm (.slice AG ng cg) ?_
  refine jc (.bool true) (fun X hX hF => mo (fwsV _ _ 60 X ((Rl.lasts zs) _ _ _ hg hX)) (by rw [HT.out])) ?_
  refine jm (.bool true) ?_
  refine jz fun X2 hX2 => ?_
  replace h1 := (Ks.lasts l) _ _ _ h1 hX2
  replace hf := (Rl.lasts xs) _ _ _ hf hX2
  replace hg := (Rl.lasts zs) _ _ _ hg hX2
  replace hB0 := hB0.bel hX2
  have hb := bel_next hb hX2
  clear hX2
  go_upto_region 3 with (fail)
  refine jp ?_
  refine ja hB0 Tryd.underlying24 (by rfl) info_kn ?_
  refine jc (.bool true) (fun X hX hF => mo (fewV _ l X ⟨_, rfl, ((Ks.lasts l) _ _ _ h1 hX)⟩) (by rw [HA.out])) ?_
  refine jm (.bool false) ?_
  refine jm (.bool false) ?_
  refine jm (.bool true) ?_
  refine jm (.bool false) ?_
  refine jm (.bool false) ?_
  refine jm (.bool false) ?_
  refine jm (.bool true) ?_
  refine jm (.bool false) ?_
  refine jm (.bool false) ?_
  refine jm (.bool false) ?_
  refine ja hB0 Tryd.underlying24 (by rfl) info_kn ?_
  refine jc (.int .i64 0) (fun X hX hF => kchV _ l X ⟨_, rfl, ((Ks.lasts l) _ _ _ h1 hX)⟩ HC.out) ?_
  refine jv (.bool false) (exec_nei _ _ _ _ (by rfl) .i64 0 0 (by rfl) (by rfl) false (by rw [decide_eq_true (by omega)]; rfl)) ?_
  refine jm (.bool false) ?_
  refine jz fun X3 hX3 => ?_
  replace h1 := (Ks.lasts l) _ _ _ h1 hX3
  replace hf := (Rl.lasts xs) _ _ _ hf hX3
  replace hg := (Rl.lasts zs) _ _ _ hg hX3
  replace hB0 := hB0.bel hX3
  have hb := bel_next hb hX3
  clear hX3
  obtain ⟨ys, y9⟩ : ∃ ys, xs.map trq = ys := ⟨_, rfl⟩
  have HYE : Hid (ys.map tr = xs) := by
    show _ = _
    rw [← y9]; exact vds_tr HV.out
  have HYS : Hid (∀ k, szR (yq ys k) 20) := by rw [← y9]; exact few_sz HS.out HV.out
  have hlys : ys.length = nf := by rw [← y9, List.length_map]; exact HLF.out
  have hnf60 : nf ≤ 60 := by rw [← HLF.out]; exact hxs60
  have hng60 : ng ≤ 60 := by rw [← HLG.out]; exact hzs60
  have hrq : Rq ys (.slice AF nf cf) X3 := by
    show Rl (ys.map tr) _ _
    rw [HYE.out]; exact hf
  clear hf y9
  have hr9 := rtl_len2 l ys
  have HR1 : Hid (∀ k, szR (yq (rtl l ys) k) 1051) := fun k => (rtl_sz HKL.out HYS.out k).mono (by omega)
  have HSM : szR (sml ys) 1261 := (sm_sz HYS.out _).mono (by omega)
  have HMO : szR (mom ys ys.length) 1681 := (mom_sz HYS.out _ (by omega)).mono (by omega)
  have HML : szR (mean l) 661 := (mean_sz HKL.out).mono (by omega)
  go_upto_region 5 with (fail)
  refine lx_plain [none, none, some (Tp (Rq (rtl l ys)) 0), none, some (Rq (rtl l ys))] (lasts_none (lasts_none (lasts_some (Tp.lasts (Rq.lasts (rtl l ys)) _) (lasts_none (lasts_some (Rq.lasts (rtl l ys)) (lasts_nil)))))) ?_
  simp only [iX, Nat.reduceAdd]
  refine ja hB0 Tryd.underlying24 (by rfl) info_kn ?_
  refine jm (.slice AF nf cf) ?_
  refine jk (fun X hX hF => rteV _ _ l ys X ⟨_, rfl, ((Ks.lasts l) _ _ _ h1 hX)⟩ ((Rq.lasts ys) _ _ _ hrq hX) HKL.out (by omega) (by omega) 20 (by omega) HYS.out) ?_
  intro v53
  refine jm (v53) ?_
  refine lx_new (by rfl) (fun X hX hF => by obtain ⟨u9, h9, h8⟩ := (hF _ _ List.mem_cons_self rfl); subst h9; exact ⟨u9, X, rfl, h8, Below.refl _ _⟩) ?_
  intro v54
  simp only [pX]
  refine jg (.int .i64 0) (fun X hX hF => by obtain ⟨u9, h9, _⟩ := (hF _ _ (List.mem_cons_of_mem _ List.mem_cons_self) rfl); subst h9; rfl) ?_
  refine jm (v54) ?_
  refine jm (.int .i64 0) ?_
  refine lx_nil ?_
  intro X4 hX4 hF
  replace h1 := (Ks.lasts l) _ _ _ h1 hX4
  replace hg := (Rl.lasts zs) _ _ _ hg hX4
  replace hrq := (Rq.lasts ys) _ _ _ hrq hX4
  have hv53 := hF _ _ (List.mem_cons_of_mem _ List.mem_cons_self)
  have hv54 := hF _ _ List.mem_cons_self
  replace hB0 := hB0.bel hX4
  have hb := bel_next hb hX4
  clear hF hX4
  obtain ⟨AO, nO, cO, eO, hlO, hncO, hnO1, _, _⟩ := Rq.at hv54
  subst eO
  have HLO := Lib.hid hlO
  have hO := hv54
  clear hv54
  have hOl : nO ≤ nf + l.length := by rw [← hlO, ← hlys]; exact rtl_len2 l ys
  clear hlO
  go_upto_region 6 with (fail)
  refine jp ?_
  refine jm (.bool false) ?_
  refine jz fun X5 hX5 => ?_
  replace h1 := (Ks.lasts l) _ _ _ h1 hX5
  replace hg := (Rl.lasts zs) _ _ _ hg hX5
  replace hrq := (Rq.lasts ys) _ _ _ hrq hX5
  replace hv53 := (Tp.lasts (Rq.lasts (rtl l ys)) _) _ _ _ hv53 hX5
  replace hO := (Rq.lasts (rtl l ys)) _ _ _ hO hX5
  replace hB0 := hB0.bel hX5
  have hb := bel_next hb hX5
  clear hX5
  go_upto_region 7 with (fail)
  refine jp ?_
  refine jm (.slice AF nf cf) ?_
  refine jv (.int .i64 (nf : Int)) (exec_lenv Tryd.underlying43 _ (by rfl) AF nf cf (by rfl) _ rfl) ?_
  refine jm (.int .i64 0) ?_
  refine jz fun X6 hX6 => ?_
  replace h1 := (Ks.lasts l) _ _ _ h1 hX6
  replace hg := (Rl.lasts zs) _ _ _ hg hX6
  replace hrq := (Rq.lasts ys) _ _ _ hrq hX6
  replace hv53 := (Tp.lasts (Rq.lasts (rtl l ys)) _) _ _ _ hv53 hX6
  replace hO := (Rq.lasts (rtl l ys)) _ _ _ hO hX6
  replace hB0 := hB0.bel hX6
  have hb := bel_next hb hX6
  clear hX6
  go_wp2
  go_loopw [11, 58] (fun bv kv wr => ∃ (k : Nat) (nb : Bool), k ≤ nf ∧ bv = .bool nb ∧ kv = .int .i64 (k : Int) ∧ Hid (∀ j, j < k → vd (xt xs j).1 (xt xs j).2.1 (xt xs j).2.2 = true) ∧ Hid (nb = false → ∀ j, j < k → (xt xs j).1 = false) ∧ Blk wr w.heap.size 24 [.slice A n c] ∧ Below w.heap.size w wr ∧ Rq (rtl l ys) (.slice AO nO cO) wr) (fun _ kv _ => nf - (intOf kv).toNat)
  case atStart => exact ⟨0, false, by omega, rfl, rfl, (fun j hj => by omega), (fun _ j hj => by omega), hB0, hb, hO⟩
  case round =>
    clear hB0 hb hO
    obtain ⟨k, nb, hk, rfl, rfl, HZ, HN, hB0, hb, hO⟩ := hrel
    replace h1 := H1.out _ hb
    replace hg := H4.out _ hb
    rcases Nat.lt_or_ge k nf with hlt | hlt
    · obtain ⟨b, off, rfl, hbb, hcx⟩ := Rl.xtAt HRF.out HLF.out hlt
      have hcx := hcx.below hb hbb
      replace hbb := Nat.lt_of_lt_of_le hbb hb.size
      obtain ⟨x, x9⟩ : ∃ x, x = xt xs k := ⟨_, rfl⟩
      have HX := Lib.hid x9
      clear x9
      rw [← HX.out] at hcx
      have hx : tz x.2.1 x.2.2 20 := by rw [HX.out]; exact (fewS_t HS.out).2 k
      go_upto_region 8 with (fail)
      refine jp ?_
      refine jv (.bool true) (exec_lss _ _ _ _ (by rfl) .i64 (k : Int) (nf : Int) (by rfl) (by rfl) true (decide_eq_true (by omega))) ?_
      refine jz fun X1 hX1 => ?_
      replace h1 := (Ks.lasts l) _ _ _ h1 hX1
      replace hg := (Rl.lasts zs) _ _ _ hg hX1
      replace hO := (Rq.lasts (rtl l ys)) _ _ _ hO hX1
      replace hB0 := hB0.bel hX1
      have hcx := hcx.below hX1 hbb
      replace hbb := Nat.lt_of_lt_of_le hbb (hX1).size
      have hb := bel_next hb hX1
      clear hX1
      go_upto_region 9 with (fail)
      refine jq 2 ?_
      refine jv (.pointer (some ⟨b, off + k * 3, none⟩)) (exec_ixv Tryd.underlying43 info_rat _ _ (by rfl) b (off) nf cf k (by omega) (by rfl) (by rfl) rfl) ?_
      refine jg (.agg #[.bool x.1, st x.2.1, st x.2.2]) (fun X hX hF => exec_ldc 38 _ (by rfl) b (off + k * 3) (by rfl) Tryd.underlying38 rfl [.bool x.1, .string ⟨x.2.1.toArray⟩, .string ⟨x.2.2.toArray⟩] X (Cl.part (hcx.below hX hbb) 0 _ (by rfl)) info_rat) ?_
      refine jz fun X2 hX2 => ?_
      replace h1 := (Ks.lasts l) _ _ _ h1 hX2
      replace hg := (Rl.lasts zs) _ _ _ hg hX2
      replace hO := (Rq.lasts (rtl l ys)) _ _ _ hO hX2
      replace hB0 := hB0.bel hX2
      have hcx := hcx.below hX2 hbb
      replace hbb := Nat.lt_of_lt_of_le hbb (hX2).size
      have hb := bel_next hb hX2
      clear hX2
      go_upto_region 10 with (refine osn 38 13 61 #[.bool x.1, .string ⟨x.2.1.toArray⟩, .string ⟨x.2.2.toArray⟩] info_rat ?_)
      obtain ⟨Y2, hY9, hD13, hS9⟩ := start1 X2 38 [.bool x.1, .string ⟨x.2.1.toArray⟩, .string ⟨x.2.2.toArray⟩]
      rw [← hY9]
      clear hY9
      have hgs13 := hb.size
      have hlt13x0 := hB0.lt
      have hcx := hcx.below hS9 hbb
      replace hbb := Nat.lt_of_lt_of_le hbb (hS9).size
      have hB0 := hB0.bel hS9
      have h1 := (Ks.lasts l) _ _ _ h1 hS9
      have hg := (Rl.lasts zs) _ _ _ hg hS9
      have hO := (Rq.lasts (rtl l ys)) _ _ _ hO hS9
      have hb := bel_next hb hS9
      clear hS9
      generalize X2.heap.size = g13 at *
      have HVX : Hid (vd x.1 x.2.1 x.2.2 = true) := by
        show _ = _
        rw [HX.out, xt_in (by rw [HLF.out]; exact hlt)]
        exact List.all_eq_true.1 HV.out _ (List.getElem_mem _)
      refine jp ?_
      refine ja hD13 Tryd.underlying38 (by rfl) info_rat ?_
      refine jc (.bool true) (fun X hX hF => mo (validG x.1 x.2.1 x.2.2 X (hx.mono (by omega))) (by rw [HVX.out])) ?_
      refine jm (.bool false) ?_
      refine jz fun X3 hX3 => ?_
      replace h1 := (Ks.lasts l) _ _ _ h1 hX3
      replace hg := (Rl.lasts zs) _ _ _ hg hX3
      replace hO := (Rq.lasts (rtl l ys)) _ _ _ hO hX3
      replace hB0 := hB0.bel hX3
      replace hD13 := hD13.bel hX3
      have hb := bel_next hb hX3
      clear hX3
      have HZ2 : Hid (∀ j, j < k + 1 → vd (xt xs j).1 (xt xs j).2.1 (xt xs j).2.2 = true) := fun j hj => by
        rcases Nat.lt_or_ge j k with h9 | h9
        · exact HZ.out j h9
        · rw [show j = k by omega, ← HX.out]; exact HVX.out
      cases nb
      · have HN2 : Hid (x.1 = false → ∀ j, j < k + 1 → (xt xs j).1 = false) := fun h8 j hj => by
          rcases Nat.lt_or_ge j k with h9 | h9
          · exact HN.out rfl j h9
          · rw [show j = k by omega, ← HX.out]; exact h8
        go_upto_region 12 with (fail)
        refine jp ?_
        refine jm (.bool false) ?_
        refine jm (.bool false) ?_
        refine jn (.pointer (some ⟨g13, 0, none⟩)) ?_
        refine jf (.bool x.1) hD13 0 load_bool ?_
        refine jm (.bool x.1) ?_
        refine jm (.bool x.1) ?_
        refine jz fun X4 hX4 => ?_
        replace h1 := (Ks.lasts l) _ _ _ h1 hX4
        replace hg := (Rl.lasts zs) _ _ _ hg hX4
        replace hO := (Rq.lasts (rtl l ys)) _ _ _ hO hX4
        replace hB0 := hB0.bel hX4
        replace hD13 := hD13.bel hX4
        have hb := bel_next hb hX4
        clear hX4
        go_upto_region 13 with (fail)
        refine jp ?_
        refine jv (.int .i64 ((k + 1 : Nat) : Int)) (exec_add _ _ _ _ (by rfl) (k : Int) 1 ((k + 1 : Nat) : Int) (by rfl) (by rfl) (by omega) (by omega) (by omega)) ?_
        refine jm (.int .i64 ((k + 1 : Nat) : Int)) ?_
        refine jz fun X5 hX5 => ?_
        replace h1 := (Ks.lasts l) _ _ _ h1 hX5
        replace hg := (Rl.lasts zs) _ _ _ hg hX5
        replace hO := (Rq.lasts (rtl l ys)) _ _ _ hO hX5
        replace hB0 := hB0.bel hX5
        replace hD13 := hD13.bel hX5
        have hb := bel_next hb hX5
        clear hX5
        go_wp2
        go_roundw
        case rel => exact ⟨k + 1, x.1, by omega, rfl, rfl, HZ2, HN2, hB0, hb, hO⟩
        case measure => simp [intOf]; omega
      · have HN2 : Hid (true = false → ∀ j, j < k + 1 → (xt xs j).1 = false) := fun h8 => by cases h8
        go_upto_region 12 with (fail)
        refine jp ?_
        refine jm (.bool true) ?_
        refine jm (.bool true) ?_
        refine js ?_
        refine js ?_
        refine jm (.bool true) ?_
        refine jm (.bool true) ?_
        refine jz fun X4 hX4 => ?_
        replace h1 := (Ks.lasts l) _ _ _ h1 hX4
        replace hg := (Rl.lasts zs) _ _ _ hg hX4
        replace hO := (Rq.lasts (rtl l ys)) _ _ _ hO hX4
        replace hB0 := hB0.bel hX4
        replace hD13 := hD13.bel hX4
        have hb := bel_next hb hX4
        clear hX4
        go_upto_region 13 with (fail)
        refine jp ?_
        refine jv (.int .i64 ((k + 1 : Nat) : Int)) (exec_add _ _ _ _ (by rfl) (k : Int) 1 ((k + 1 : Nat) : Int) (by rfl) (by rfl) (by omega) (by omega) (by omega)) ?_
        refine jm (.int .i64 ((k + 1 : Nat) : Int)) ?_
        refine jz fun X5 hX5 => ?_
        replace h1 := (Ks.lasts l) _ _ _ h1 hX5
        replace hg := (Rl.lasts zs) _ _ _ hg hX5
        replace hO := (Rq.lasts (rtl l ys)) _ _ _ hO hX5
        replace hB0 := hB0.bel hX5
        replace hD13 := hD13.bel hX5
        have hb := bel_next hb hX5
        clear hX5
        go_wp2
        go_roundw
        case rel => exact ⟨k + 1, true, by omega, rfl, rfl, HZ2, HN2, hB0, hb, hO⟩
        case measure => simp [intOf]; omega
    · obtain rfl : nf = k := by omega
      clear HZ
      have HNN : Hid (nb = false → ∀ j, rN (yq ys j) = false) := fun h9 j => by
        rcases Nat.lt_or_ge j nf with h8 | h8
        · have h7 := HN.out h9 j h8
          rw [← HYE.out, xt_map] at h7
          exact h7
        · rw [yq_out (by omega)]
          decide
      clear HN
      have hrq : Rq ys (.slice AF nf cf) wr := by
        show Rl (ys.map tr) _ _
        rw [HYE.out]; exact H3.out _ hb
      go_upto_region 8 with (fail)
      refine jp ?_
      refine jv (.bool false) (exec_lss _ _ _ _ (by rfl) .i64 (nf : Int) (nf : Int) (by rfl) (by rfl) false (decide_eq_false (by omega))) ?_
      refine jz fun X1 hX1 => ?_
      replace h1 := (Ks.lasts l) _ _ _ h1 hX1
      replace hg := (Rl.lasts zs) _ _ _ hg hX1
      replace hO := (Rq.lasts (rtl l ys)) _ _ _ hO hX1
      replace hrq := (Rq.lasts ys) _ _ _ hrq hX1
      replace hB0 := hB0.bel hX1
      have hb := bel_next hb hX1
      clear hX1
      go_upto_region 14 with (fail)
      refine jp ?_
      refine jm (.int .i64 0) ?_
      refine jv (.bool false) (exec_nei _ _ _ _ (by rfl) .i64 0 0 (by rfl) (by rfl) false (by rw [decide_eq_true (by omega)]; rfl)) ?_
      refine jm (.bool false) ?_
      refine jm (.slice AO nO cO) ?_
      refine jc (rt (rN (sml ys)) (rP (sml ys)) (rD (sml ys))) (fun X hX hF => mo (sumV _ (rtl l ys) 1051 X ((Rq.lasts (rtl l ys)) _ _ _ hO hX) HR1.out (by omega) (by omega) (by omega)) (by rw [(show sml (rtl l ys) = sml ys from sml_rtl HKL.out ys)])) ?_
      refine jm (.slice AF nf cf) ?_
      refine jc (rt (rN (sml ys)) (rP (sml ys)) (rD (sml ys))) (fun X hX hF => sumV _ ys 20 X ((Rq.lasts ys) _ _ _ hrq hX) HYS.out (by omega) (by omega) (by omega)) ?_
      refine jv (.bool false) (exec_ner _ _ (by rfl) (rN (sml ys)) (rP (sml ys)) (rD (sml ys)) (rN (sml ys)) (rP (sml ys)) (rD (sml ys)) (by rfl) (by rfl) false (by simp)) ?_
      refine jm (.bool false) ?_
      refine jz fun X2 hX2 => ?_
      replace h1 := (Ks.lasts l) _ _ _ h1 hX2
      replace hg := (Rl.lasts zs) _ _ _ hg hX2
      replace hO := (Rq.lasts (rtl l ys)) _ _ _ hO hX2
      replace hrq := (Rq.lasts ys) _ _ _ hrq hX2
      replace hB0 := hB0.bel hX2
      have hb := bel_next hb hX2
      clear hX2
      go_upto_region 16 with (fail)
      refine jp ?_
      refine jm (.func (.func 22) #[] #[]) ?_
      refine jz fun X3 hX3 => ?_
      replace h1 := (Ks.lasts l) _ _ _ h1 hX3
      replace hg := (Rl.lasts zs) _ _ _ hg hX3
      replace hO := (Rq.lasts (rtl l ys)) _ _ _ hO hX3
      replace hrq := (Rq.lasts ys) _ _ _ hrq hX3
      replace hB0 := hB0.bel hX3
      have hb := bel_next hb hX3
      clear hX3
      go_upto_region 17 with (fail)
      refine jp ?_
      refine jm (.slice AO nO cO) ?_
      refine jv (.int .i64 (nO : Int)) (exec_lenv Tryd.underlying43 _ (by rfl) AO nO cO (by rfl) _ rfl) ?_
      refine jm (.int .i64 0) ?_
      refine jz fun X4 hX4 => ?_
      replace h1 := (Ks.lasts l) _ _ _ h1 hX4
      replace hg := (Rl.lasts zs) _ _ _ hg hX4
      replace hO := (Rq.lasts (rtl l ys)) _ _ _ hO hX4
      replace hrq := (Rq.lasts ys) _ _ _ hrq hX4
      replace hB0 := hB0.bel hX4
      have hb := bel_next hb hX4
      clear hX4
      go_wp2
      go_loopw [87] (fun kv w2 => ∃ k2 : Nat, k2 ≤ nO ∧ kv = .int .i64 (k2 : Int) ∧ Blk w2 w.heap.size 24 [.slice A n c] ∧ Below w.heap.size w w2 ∧ Rq (rtl l ys) (.slice AO nO cO) w2) (fun kv _ => nO - (intOf kv).toNat)
      case atStart => exact ⟨0, by omega, rfl, hB0, hb, hO⟩
      case round =>
        clear hB0 hb hO hrq h1 hg
        obtain ⟨k2, hk2, rfl, hB0, hb, hO⟩ := hrel
        have h1 := H1.out _ hb
        have hg := H4.out _ hb
        have hrq : Rq ys (.slice AF nf cf) wr := by
          show Rl (ys.map tr) _ _
          rw [HYE.out]; exact H3.out _ hb
        rcases Nat.lt_or_ge k2 nO with hlt2 | hlt2
        · obtain ⟨b, off, rfl, hbb, hcx⟩ := rqIn hO HLO.out hlt2
          obtain ⟨y, y9⟩ : ∃ y, y = yq (rtl l ys) k2 := ⟨_, rfl⟩
          have HY := Lib.hid y9
          rw [← y9] at hcx
          clear y9
          obtain ⟨bn, b9⟩ : ∃ bn, bn = rN y := ⟨_, rfl⟩
          have HBN := Lib.hid b9
          have hcx : Cl wr b (off + k2 * 3) [.bool (rN y), .string ⟨(rP y).toArray⟩, .string ⟨(rD y).toArray⟩] := hcx
          rw [← b9] at hcx
          clear b9
          go_upto_region 18 with (fail)
          refine jp ?_
          refine jv (.bool true) (exec_lss _ _ _ _ (by rfl) .i64 (k2 : Int) (nO : Int) (by rfl) (by rfl) true (decide_eq_true (by omega))) ?_
          refine jz fun X1 hX1 => ?_
          replace h1 := (Ks.lasts l) _ _ _ h1 hX1
          replace hg := (Rl.lasts zs) _ _ _ hg hX1
          replace hrq := (Rq.lasts ys) _ _ _ hrq hX1
          replace hO := (Rq.lasts (rtl l ys)) _ _ _ hO hX1
          replace hB0 := hB0.bel hX1
          have hcx := hcx.below hX1 hbb
          replace hbb := Nat.lt_of_lt_of_le hbb (hX1).size
          have hb := bel_next hb hX1
          clear hX1
          go_upto_region 19 with (fail)
          refine jq 2 ?_
          refine jv (.pointer (some ⟨b, off + k2 * 3, none⟩)) (exec_ixv Tryd.underlying43 info_rat _ _ (by rfl) b (off) nO cO k2 (by omega) (by rfl) (by rfl) rfl) ?_
          refine jg (rt bn (rP y) (rD y)) (fun X hX hF => exec_ldc 38 _ (by rfl) b (off + k2 * 3) (by rfl) Tryd.underlying38 rfl [.bool bn, .string ⟨(rP y).toArray⟩, .string ⟨(rD y).toArray⟩] X (Cl.part (hcx.below hX hbb) 0 _ (by rfl)) info_rat) ?_
          refine jz fun X2 hX2 => ?_
          replace h1 := (Ks.lasts l) _ _ _ h1 hX2
          replace hg := (Rl.lasts zs) _ _ _ hg hX2
          replace hrq := (Rq.lasts ys) _ _ _ hrq hX2
          replace hO := (Rq.lasts (rtl l ys)) _ _ _ hO hX2
          replace hB0 := hB0.bel hX2
          have hcx := hcx.below hX2 hbb
          replace hbb := Nat.lt_of_lt_of_le hbb (hX2).size
          have hb := bel_next hb hX2
          clear hX2
          go_upto_region 20 with (refine osn 38 16 90 #[.bool bn, .string ⟨(rP y).toArray⟩, .string ⟨(rD y).toArray⟩] info_rat ?_)
          obtain ⟨Y2, hY9, hD16, hS9⟩ := start1 X2 38 [.bool bn, .string ⟨(rP y).toArray⟩, .string ⟨(rD y).toArray⟩]
          rw [← hY9]
          clear hY9
          have hgs16 := hb.size
          have hlt16x0 := hB0.lt
          have hcx := hcx.below hS9 hbb
          replace hbb := Nat.lt_of_lt_of_le hbb (hS9).size
          have hB0 := hB0.bel hS9
          have h1 := (Ks.lasts l) _ _ _ h1 hS9
          have hg := (Rl.lasts zs) _ _ _ hg hS9
          have hrq := (Rq.lasts ys) _ _ _ hrq hS9
          have hO := (Rq.lasts (rtl l ys)) _ _ _ hO hS9
          have hb := bel_next hb hS9
          clear hS9
          generalize X2.heap.size = g16 at *
          cases bn
          · refine jp ?_
            refine jn (.pointer (some ⟨g16, 0, none⟩)) ?_
            refine jf (.bool false) hD16 0 load_bool ?_
            refine jm (.bool false) ?_
            refine js ?_
            refine js ?_
            refine jm (.bool false) ?_
            refine jz fun X3 hX3 => ?_
            replace h1 := (Ks.lasts l) _ _ _ h1 hX3
            replace hg := (Rl.lasts zs) _ _ _ hg hX3
            replace hrq := (Rq.lasts ys) _ _ _ hrq hX3
            replace hO := (Rq.lasts (rtl l ys)) _ _ _ hO hX3
            replace hB0 := hB0.bel hX3
            replace hD16 := hD16.bel hX3
            have hb := bel_next hb hX3
            clear hX3
            go_upto_region 22 with (fail)
            refine jp ?_
            refine jv (.int .i64 ((k2 + 1 : Nat) : Int)) (exec_add _ _ _ _ (by rfl) (k2 : Int) 1 ((k2 + 1 : Nat) : Int) (by rfl) (by rfl) (by omega) (by omega) (by omega)) ?_
            refine jm (.int .i64 ((k2 + 1 : Nat) : Int)) ?_
            refine jz fun X4 hX4 => ?_
            replace h1 := (Ks.lasts l) _ _ _ h1 hX4
            replace hg := (Rl.lasts zs) _ _ _ hg hX4
            replace hrq := (Rq.lasts ys) _ _ _ hrq hX4
            replace hO := (Rq.lasts (rtl l ys)) _ _ _ hO hX4
            replace hB0 := hB0.bel hX4
            replace hD16 := hD16.bel hX4
            have hb := bel_next hb hX4
            clear hX4
            go_wp2
            go_roundw
            case rel => exact ⟨k2 + 1, by omega, rfl, hB0, hb, hO⟩
            case measure => simp [intOf]; omega
          · obtain rfl : nb = true := by
              cases nb
              · exfalso
                have h9 := rtl_nn HKL.out (HNN.out rfl) k2
                rw [← HY.out, ← HBN.out] at h9
                cases h9
              · rfl
            refine jp ?_
            refine jn (.pointer (some ⟨g16, 0, none⟩)) ?_
            refine jf (.bool true) hD16 0 load_bool ?_
            refine jm (.bool true) ?_
            refine jm (.bool true) ?_
            refine jm (.bool false) ?_
            refine jm (.bool false) ?_
            refine jz fun X3 hX3 => ?_
            replace h1 := (Ks.lasts l) _ _ _ h1 hX3
            replace hg := (Rl.lasts zs) _ _ _ hg hX3
            replace hrq := (Rq.lasts ys) _ _ _ hrq hX3
            replace hO := (Rq.lasts (rtl l ys)) _ _ _ hO hX3
            replace hB0 := hB0.bel hX3
            replace hD16 := hD16.bel hX3
            have hb := bel_next hb hX3
            clear hX3
            go_upto_region 22 with (fail)
            refine jp ?_
            refine jv (.int .i64 ((k2 + 1 : Nat) : Int)) (exec_add _ _ _ _ (by rfl) (k2 : Int) 1 ((k2 + 1 : Nat) : Int) (by rfl) (by rfl) (by omega) (by omega) (by omega)) ?_
            refine jm (.int .i64 ((k2 + 1 : Nat) : Int)) ?_
            refine jz fun X4 hX4 => ?_
            replace h1 := (Ks.lasts l) _ _ _ h1 hX4
            replace hg := (Rl.lasts zs) _ _ _ hg hX4
            replace hrq := (Rq.lasts ys) _ _ _ hrq hX4
            replace hO := (Rq.lasts (rtl l ys)) _ _ _ hO hX4
            replace hB0 := hB0.bel hX4
            replace hD16 := hD16.bel hX4
            have hb := bel_next hb hX4
            clear hX4
            go_wp2
            go_roundw
            case rel => exact ⟨k2 + 1, by omega, rfl, hB0, hb, hO⟩
            case measure => simp [intOf]; omega
        · obtain rfl : nO = k2 := by omega
          go_upto_region 18 with (fail)
          refine jp ?_
          refine jv (.bool false) (exec_lss _ _ _ _ (by rfl) .i64 (nO : Int) (nO : Int) (by rfl) (by rfl) false (decide_eq_false (by omega))) ?_
          refine jz fun X1 hX1 => ?_
          replace h1 := (Ks.lasts l) _ _ _ h1 hX1
          replace hg := (Rl.lasts zs) _ _ _ hg hX1
          replace hrq := (Rq.lasts ys) _ _ _ hrq hX1
          replace hO := (Rq.lasts (rtl l ys)) _ _ _ hO hX1
          replace hB0 := hB0.bel hX1
          have hb := bel_next hb hX1
          clear hX1
          go_upto_region 23 with (fail)
          refine jq 5 ?_
          refine ja hB0 Tryd.underlying24 (by rfl) info_kn ?_
          refine jc (.tuple #[rt (rN (mean l)) (rP (mean l)) (rD (mean l)), .int .i64 0]) (fun X hX hF => meaV _ l X ⟨_, rfl, ((Ks.lasts l) _ _ _ h1 hX)⟩ HKL.out) ?_
          refine jm (.tuple #[rt (rN (mean l)) (rP (mean l)) (rD (mean l)), .int .i64 0]) ?_
          refine jm (rt (rN (mean l)) (rP (mean l)) (rD (mean l))) ?_
          refine jm (.int .i64 0) ?_
          refine jz fun X2 hX2 => ?_
          replace h1 := (Ks.lasts l) _ _ _ h1 hX2
          replace hg := (Rl.lasts zs) _ _ _ hg hX2
          replace hrq := (Rq.lasts ys) _ _ _ hrq hX2
          replace hO := (Rq.lasts (rtl l ys)) _ _ _ hO hX2
          replace hB0 := hB0.bel hX2
          have hb := bel_next hb hX2
          clear hX2
          go_upto_region 24 with (refine osn 38 17 101 #[.bool (rN (mean l)), .string ⟨(rP (mean l)).toArray⟩, .string ⟨(rD (mean l)).toArray⟩] info_rat ?_)
          obtain ⟨Y2, hY9, hD17, hS9⟩ := start1 X2 38 [.bool (rN (mean l)), .string ⟨(rP (mean l)).toArray⟩, .string ⟨(rD (mean l)).toArray⟩]
          rw [← hY9]
          clear hY9
          have hgs17 := hb.size
          have hlt17x0 := hB0.lt
          have hB0 := hB0.bel hS9
          have h1 := (Ks.lasts l) _ _ _ h1 hS9
          have hg := (Rl.lasts zs) _ _ _ hg hS9
          have hrq := (Rq.lasts ys) _ _ _ hrq hS9
          have hO := (Rq.lasts (rtl l ys)) _ _ _ hO hS9
          have hb := bel_next hb hS9
          clear hS9
          generalize X2.heap.size = g17 at *
          have LB0 : szR (mean l) 661 := HML
          have LB1 : szR (sml ys) 1261 := HSM
          have LB2 : szR (mom ys ys.length) 1681 := HMO
          have LB3 : szR ((mean l) * (sml ys)) 1922 := szR_mul LB0 LB1
          refine jd ?_
          refine jm (.int .i64 0) ?_
          refine jv (.bool false) (exec_nei _ _ _ _ (by rfl) .i64 0 0 (by rfl) (by rfl) false (by rw [decide_eq_true (by omega)]; rfl)) ?_
          refine jm (.bool false) ?_
          refine jm (.func (.func 22) #[] #[]) ?_
          refine jm (.slice AO nO cO) ?_
          refine lx_callv (by rfl) 22 _ _ _ (by rfl) (by rfl) (.agg #[.bool (rN ((mom ys ys.length) + ((mean l) * (sml ys)))), .string ⟨(rP ((mom ys ys.length) + ((mean l) * (sml ys)))).toArray⟩, .string ⟨(rD ((mom ys ys.length) + ((mean l) * (sml ys)))).toArray⟩]) [.slice AO nO cO] (by rfl) (by kernel_rfl) (fun _ => by go_simp) (fun X hX hF => (momC _ (rtl l ys) X ((Rq.lasts (rtl l ys)) _ _ _ hO hX) (by omega) 1051 (by omega) HR1).mono fun e X' ⟨h1, h2⟩ => ⟨by rw [h1, (show mom (rtl l ys) (rtl l ys).length = mom ys ys.length + mean l * sml ys from mom_rtl HKL.out ys)], h2⟩) ?_
          simp only [pX]
          refine jm (.func (.func 22) #[] #[]) ?_
          refine jm (.slice AF nf cf) ?_
          refine lx_callv (by rfl) 22 _ _ _ (by rfl) (by rfl) (.agg #[.bool (rN (mom ys ys.length)), .string ⟨(rP (mom ys ys.length)).toArray⟩, .string ⟨(rD (mom ys ys.length)).toArray⟩]) [.slice AF nf cf] (by rfl) (by kernel_rfl) (fun _ => by go_simp) (fun X hX hF => momC _ ys X ((Rq.lasts ys) _ _ _ hrq hX) (by omega) 20 (by omega) HYS) ?_
          simp only [pX]
          refine ja hD17 Tryd.underlying38 (by rfl) info_rat ?_
          refine jm (.slice AF nf cf) ?_
          refine jc (rt (rN (sml ys)) (rP (sml ys)) (rD (sml ys))) (fun X hX hF => sumV _ ys 20 X ((Rq.lasts ys) _ _ _ hrq hX) HYS.out (by omega) (by omega) (by omega)) ?_
          refine jc (rt (rN ((mean l) * (sml ys))) (rP ((mean l) * (sml ys))) (rD ((mean l) * (sml ys)))) (fun X hX hF => mulG (rN (mean l)) (rP (mean l)) (rD (mean l)) (rN (sml ys)) (rP (sml ys)) (rD (sml ys)) (rq_rb (mean l)) (rq_rb (sml ys)) X (tzR LB0 (by omega)) (tzR LB1 (by omega))) ?_
          refine jc (.agg #[.bool (rN ((mom ys ys.length) + ((mean l) * (sml ys)))), st (rP ((mom ys ys.length) + ((mean l) * (sml ys)))), st (rD ((mom ys ys.length) + ((mean l) * (sml ys))))]) (fun X hX hF => addG (rN (mom ys ys.length)) (rP (mom ys ys.length)) (rD (mom ys ys.length)) (rN ((mean l) * (sml ys))) (rP ((mean l) * (sml ys))) (rD ((mean l) * (sml ys))) (rq_rb (mom ys ys.length)) (rq_rb ((mean l) * (sml ys))) X (tzR LB2 (by omega)) (tzR LB3 (by omega))) ?_
          refine jv (.bool false) (exec_ner _ _ (by rfl) (rN ((mom ys ys.length) + ((mean l) * (sml ys)))) (rP ((mom ys ys.length) + ((mean l) * (sml ys)))) (rD ((mom ys ys.length) + ((mean l) * (sml ys)))) (rN ((mom ys ys.length) + ((mean l) * (sml ys)))) (rP ((mom ys ys.length) + ((mean l) * (sml ys)))) (rD ((mom ys ys.length) + ((mean l) * (sml ys)))) (by rfl) (by rfl) false (by simp)) ?_
          refine jm (.bool false) ?_
          refine jz fun X3 hX3 => ?_
          replace h1 := (Ks.lasts l) _ _ _ h1 hX3
          replace hg := (Rl.lasts zs) _ _ _ hg hX3
          replace hrq := (Rq.lasts ys) _ _ _ hrq hX3
          replace hO := (Rq.lasts (rtl l ys)) _ _ _ hO hX3
          replace hB0 := hB0.bel hX3
          replace hD17 := hD17.bel hX3
          have hb := bel_next hb hX3
          clear hX3
          by_cases hlen : ng = nf
          · go_upto_region 26 with (fail)
            refine jp ?_
            refine jm (.slice AG ng cg) ?_
            refine jv (.int .i64 (ng : Int)) (exec_lenv Tryd.underlying43 _ (by rfl) AG ng cg (by rfl) _ rfl) ?_
            refine jm (.slice AF nf cf) ?_
            refine jv (.int .i64 (nf : Int)) (exec_lenv Tryd.underlying43 _ (by rfl) AF nf cf (by rfl) _ rfl) ?_
            refine jv (.bool false) (exec_nei _ _ _ _ (by rfl) .i64 (ng : Int) (nf : Int) (by rfl) (by rfl) false (by rw [decide_eq_true (by omega)]; rfl)) ?_
            refine jz fun X4 hX4 => ?_
            replace h1 := (Ks.lasts l) _ _ _ h1 hX4
            replace hg := (Rl.lasts zs) _ _ _ hg hX4
            replace hrq := (Rq.lasts ys) _ _ _ hrq hX4
            replace hO := (Rq.lasts (rtl l ys)) _ _ _ hO hX4
            replace hB0 := hB0.bel hX4
            have hb := bel_next hb hX4
            clear hX4
            go_upto_region 28 with (fail)
            refine jp ?_
            refine jm (.slice none 0 0) ?_
            refine jm (.slice none 0 0) ?_
            refine jz fun X5 hX5 => ?_
            replace h1 := (Ks.lasts l) _ _ _ h1 hX5
            replace hg := (Rl.lasts zs) _ _ _ hg hX5
            replace hrq := (Rq.lasts ys) _ _ _ hrq hX5
            replace hO := (Rq.lasts (rtl l ys)) _ _ _ hO hX5
            replace hB0 := hB0.bel hX5
            have hb := bel_next hb hX5
            clear hX5
            rcases hw : vds zs with _ | _
            · have HW := Lib.hid hw
              clear hw
              go_upto_region 29 with (fail)
              refine jp ?_
              refine ja hB0 Tryd.underlying24 (by rfl) info_kn ?_
              refine jm (.slice AG ng cg) ?_
              refine jc (.tuple #[.slice none 0 0, .int .i64 1]) (fun X hX hF => rteVI _ _ l zs X ⟨_, rfl, ((Ks.lasts l) _ _ _ h1 hX)⟩ ((Rl.lasts zs) _ _ _ hg hX) HKL.out (by omega) (fun k _ => ((fewS_t HT.out).2 k).mono (by decide)) HW.out) ?_
              refine jm (.tuple #[.slice none 0 0, .int .i64 1]) ?_
              refine jm (.slice none 0 0) ?_
              refine jm (.int .i64 1) ?_
              refine jm (.slice none 0 0) ?_
              refine jm (.int .i64 1) ?_
              refine jz fun X6 hX6 => ?_
              replace h1 := (Ks.lasts l) _ _ _ h1 hX6
              replace hg := (Rl.lasts zs) _ _ _ hg hX6
              replace hrq := (Rq.lasts ys) _ _ _ hrq hX6
              replace hO := (Rq.lasts (rtl l ys)) _ _ _ hO hX6
              replace hB0 := hB0.bel hX6
              have hb := bel_next hb hX6
              clear hX6
              go_upto_region 30 with (fail)
              refine jp ?_
              refine jm (.slice AF nf cf) ?_
              refine jv (.int .i64 (nf : Int)) (exec_lenv Tryd.underlying43 _ (by rfl) AF nf cf (by rfl) _ rfl) ?_
              refine jm (.int .i64 0) ?_
              refine jz fun X7 hX7 => ?_
              replace h1 := (Ks.lasts l) _ _ _ h1 hX7
              replace hg := (Rl.lasts zs) _ _ _ hg hX7
              replace hrq := (Rq.lasts ys) _ _ _ hrq hX7
              replace hO := (Rq.lasts (rtl l ys)) _ _ _ hO hX7
              replace hB0 := hB0.bel hX7
              have hb := bel_next hb hX7
              clear hX7
              obtain ⟨WB, rfl⟩ : ∃ W, W = X7 := ⟨_, rfl⟩
              have hbwWB := hb
              have Kh1 : Hid (∀ X, Since WB X → Ks l (.slice A n c) X) := fun X h => (Ks.lasts l) _ _ _ h1 h
              have Khg : Hid (∀ X, Since WB X → Rl zs (.slice AG ng cg) X) := fun X h => (Rl.lasts zs) _ _ _ hg h
              have Khrq : Hid (∀ X, Since WB X → Rq ys (.slice AF nf cf) X) := fun X h => (Rq.lasts ys) _ _ _ hrq h
              have KhO : Hid (∀ X, Since WB X → Rq (rtl l ys) (.slice AO nO cO) X) := fun X h => (Rq.lasts (rtl l ys)) _ _ _ hO h
              have KhB0 : Hid (∀ X, Since WB X → Blk X (w.heap.size) 24 [.slice A n c]) := fun X h => hB0.bel h
              have lthB0 := hB0.lt
              clear h1 hg hrq hO hB0 hb
              go_wp2
              go_loopw [19, 133] (fun sv kv w3 => ∃ (k3 c5 : Nat) (A5 : Option Addr) (S : List Rat), k3 ≤ nf ∧ sv = .slice A5 k3 c5 ∧ kv = .int .i64 (k3 : Int) ∧ Hid (S.length = k3) ∧ Hid (∀ j, j < k3 → vd (xt zs j).1 (xt zs j).2.1 (xt zs j).2.2 = true) ∧ w3.ownsRow WB.heap.size 38 3 (.slice A5 k3 c5) k3 (fl rc S) ∧ Below WB.heap.size WB w3) (fun _ kv _ => nf - (intOf kv).toNat)
              case atStart => exact ⟨0, 0, none, [], by omega, rfl, rfl, rfl, (fun j hj => by omega), ⟨rfl, .inl ⟨rfl, rfl⟩⟩, Below.refl _ _⟩
              case round =>
                obtain ⟨k3, c5, A5, S, hk3, rfl, rfl, HSL, HZ3, hOW, hb⟩ := hrel
                rcases Nat.lt_or_ge k3 nf with hlt3 | hlt3
                · obtain ⟨b, off, rfl, hbw, hcw⟩ := Rl.xtAt HRF.out HLF.out hlt3
                  rw [← HYE.out, xt_map] at hcw
                  obtain ⟨y, y9⟩ : ∃ y, y = yq ys k3 := ⟨_, rfl⟩
                  have HY := Lib.hid y9
                  have hyB : szR y 20 := by rw [y9]; exact HYS.out k3
                  rw [← y9] at hcw
                  clear y9
                  have hbB := Nat.lt_of_lt_of_le hbw hbwWB.size
                  have hcx : Cl wr b (off + k3 * 3) [.bool (rN y), .string ⟨(rP y).toArray⟩, .string ⟨(rD y).toArray⟩] := (hcw.below hbwWB hbw).below hb hbB
                  have hbb : b < wr.heap.size := Nat.lt_of_lt_of_le hbB hb.size
                  obtain ⟨b2, off2, rfl, hbw2, hcw2⟩ := Rl.xtAt HRG.out HLG.out (show k3 < ng by omega)
                  have hbB2 := Nat.lt_of_lt_of_le hbw2 hbwWB.size
                  obtain ⟨x, x9⟩ : ∃ x, x = xt zs k3 := ⟨_, rfl⟩
                  have HX := Lib.hid x9
                  clear x9
                  rw [← HX.out] at hcw2
                  have hcx2 := (hcw2.below hbwWB hbw2).below hb hbB2
                  have hbb2 : b2 < wr.heap.size := Nat.lt_of_lt_of_le hbB2 hb.size
                  have hx : tz x.2.1 x.2.2 20 := by rw [HX.out]; exact (fewS_t HT.out).2 k3
                  have h1 := Kh1.out _ hb
                  have hg := Khg.out _ hb
                  have hrq := Khrq.out _ hb
                  have hO := KhO.out _ hb
                  go_upto_region 31 with (fail)
                  refine jp ?_
                  refine jv (.bool true) (exec_lss _ _ _ _ (by rfl) .i64 (k3 : Int) (nf : Int) (by rfl) (by rfl) true (decide_eq_true (by omega))) ?_
                  refine jz fun X1 hX1 => ?_
                  replace h1 := (Ks.lasts l) _ _ _ h1 hX1
                  replace hg := (Rl.lasts zs) _ _ _ hg hX1
                  replace hrq := (Rq.lasts ys) _ _ _ hrq hX1
                  replace hO := (Rq.lasts (rtl l ys)) _ _ _ hO hX1
                  have hOW := own_since hOW hX1
                  have hcx := hcx.below hX1 hbb
                  have hcx2 := hcx2.below hX1 hbb2
                  replace hbb := Nat.lt_of_lt_of_le hbb (hX1).size
                  replace hbb2 := Nat.lt_of_lt_of_le hbb2 (hX1).size
                  have hb := bel_next hb hX1
                  clear hX1
                  go_upto_region 32 with (fail)
                  refine jq 3 ?_
                  refine jm (.int .i64 (k3 : Int)) ?_
                  refine jv (.pointer (some ⟨b, off + k3 * 3, none⟩)) (exec_ixv Tryd.underlying43 info_rat _ _ (by rfl) b (off) nf cf k3 (by omega) (by rfl) (by rfl) rfl) ?_
                  refine jg (rt (rN y) (rP y) (rD y)) (fun X hX hF => exec_ldc 38 _ (by rfl) b (off + k3 * 3) (by rfl) Tryd.underlying38 rfl [.bool (rN y), .string ⟨(rP y).toArray⟩, .string ⟨(rD y).toArray⟩] X (Cl.part (hcx.below hX hbb) 0 _ (by rfl)) info_rat) ?_
                  refine jz fun X2 hX2 => ?_
                  replace h1 := (Ks.lasts l) _ _ _ h1 hX2
                  replace hg := (Rl.lasts zs) _ _ _ hg hX2
                  replace hrq := (Rq.lasts ys) _ _ _ hrq hX2
                  replace hO := (Rq.lasts (rtl l ys)) _ _ _ hO hX2
                  have hog := fun (b9 : Nat) (h9 : (Value.slice A5 k3 c5).ownBlock = some b9) => (own_base hOW b9 h9).2
                  have hOW := own_since hOW hX2
                  have hcx := hcx.below hX2 hbb
                  have hcx2 := hcx2.below hX2 hbb2
                  replace hbb := Nat.lt_of_lt_of_le hbb (hX2).size
                  replace hbb2 := Nat.lt_of_lt_of_le hbb2 (hX2).size
                  have hb := bel_next hb hX2
                  clear hX2
                  go_upto_region 33 with (refine osn 38 24 137 #[.bool (rN y), .string ⟨(rP y).toArray⟩, .string ⟨(rD y).toArray⟩] info_rat ?_)
                  obtain ⟨Y2, hY9, hD24, hS9⟩ := start1 X2 38 [.bool (rN y), .string ⟨(rP y).toArray⟩, .string ⟨(rD y).toArray⟩]
                  rw [← hY9]
                  clear hY9
                  have hgs24 := hb.size
                  have hog := fun (b9 : Nat) (h9 : (Value.slice A5 k3 c5).ownBlock = some b9) => (own_base hOW b9 h9).2
                  have hOW := own_since hOW hS9
                  have hcx := hcx.below hS9 hbb
                  have hcx2 := hcx2.below hS9 hbb2
                  replace hbb := Nat.lt_of_lt_of_le hbb (hS9).size
                  replace hbb2 := Nat.lt_of_lt_of_le hbb2 (hS9).size
                  have h1 := (Ks.lasts l) _ _ _ h1 hS9
                  have hg := (Rl.lasts zs) _ _ _ hg hS9
                  have hrq := (Rq.lasts ys) _ _ _ hrq hS9
                  have hO := (Rq.lasts (rtl l ys)) _ _ _ hO hS9
                  have hb := bel_next hb hS9
                  clear hS9
                  generalize X2.heap.size = g24 at *
                  rcases hvx : vd x.1 x.2.1 x.2.2 with _ | _
                  · have HVX := Lib.hid hvx
                    refine jp ?_
                    refine jm (.slice (some ⟨b2, off2, none⟩) ng cg) ?_
                    refine jm (.int .i64 (k3 : Int)) ?_
                    refine jv (.pointer (some ⟨b2, off2 + k3 * 3, none⟩)) (exec_ixv Tryd.underlying43 info_rat _ _ (by rfl) b2 (off2) ng cg k3 (by omega) (by rfl) (by rfl) rfl) ?_
                    refine jg (.agg #[.bool x.1, st x.2.1, st x.2.2]) (fun X hX hF => exec_ldc 38 _ (by rfl) b2 (off2 + k3 * 3) (by rfl) Tryd.underlying38 rfl [.bool x.1, .string ⟨x.2.1.toArray⟩, .string ⟨x.2.2.toArray⟩] X (Cl.part (hcx2.below hX hbb2) 0 _ (by rfl)) info_rat) ?_
                    refine jc (.bool false) (fun X hX hF => mo (validG x.1 x.2.1 x.2.2 X (hx.mono (by omega))) (by rw [HVX.out])) ?_
                    refine jm (.bool true) ?_
                    refine jz fun X3 hX3 => ?_
                    replace h1 := (Ks.lasts l) _ _ _ h1 hX3
                    replace hg := (Rl.lasts zs) _ _ _ hg hX3
                    replace hrq := (Rq.lasts ys) _ _ _ hrq hX3
                    replace hO := (Rq.lasts (rtl l ys)) _ _ _ hO hX3
                    have hOW := own_since hOW hX3
                    replace hD24 := hD24.bel hX3
                    have hcx := hcx.below hX3 hbb
                    have hcx2 := hcx2.below hX3 hbb2
                    replace hbb := Nat.lt_of_lt_of_le hbb (hX3).size
                    replace hbb2 := Nat.lt_of_lt_of_le hbb2 (hX3).size
                    have hb := bel_next hb hX3
                    clear hX3
                    go_upto_region 34 with (fail)
                    refine jp ?_
                    refine jc (.bool true) (fun X hX hF => sanC X) ?_
                    refine jm (.bool true) ?_
                    refine jz fun X4 hX4 => ?_
                    replace h1 := (Ks.lasts l) _ _ _ h1 hX4
                    replace hg := (Rl.lasts zs) _ _ _ hg hX4
                    replace hrq := (Rq.lasts ys) _ _ _ hrq hX4
                    replace hO := (Rq.lasts (rtl l ys)) _ _ _ hO hX4
                    have hOW := own_since hOW hX4
                    replace hD24 := hD24.bel hX4
                    have hcx := hcx.below hX4 hbb
                    have hcx2 := hcx2.below hX4 hbb2
                    replace hbb := Nat.lt_of_lt_of_le hbb (hX4).size
                    replace hbb2 := Nat.lt_of_lt_of_le hbb2 (hX4).size
                    have hb := bel_next hb hX4
                    clear hX4
                    go_wp2
                    go_ret
                    exact ⟨rfl, hbwWB.trans (hb.mono hbwWB.size)⟩
                  · have HVX := Lib.hid hvx
                    refine jp ?_
                    refine jm (.slice (some ⟨b2, off2, none⟩) ng cg) ?_
                    refine jm (.int .i64 (k3 : Int)) ?_
                    refine jv (.pointer (some ⟨b2, off2 + k3 * 3, none⟩)) (exec_ixv Tryd.underlying43 info_rat _ _ (by rfl) b2 (off2) ng cg k3 (by omega) (by rfl) (by rfl) rfl) ?_
                    refine jg (.agg #[.bool x.1, st x.2.1, st x.2.2]) (fun X hX hF => exec_ldc 38 _ (by rfl) b2 (off2 + k3 * 3) (by rfl) Tryd.underlying38 rfl [.bool x.1, .string ⟨x.2.1.toArray⟩, .string ⟨x.2.2.toArray⟩] X (Cl.part (hcx2.below hX hbb2) 0 _ (by rfl)) info_rat) ?_
                    refine jc (.bool true) (fun X hX hF => mo (validG x.1 x.2.1 x.2.2 X (hx.mono (by omega))) (by rw [HVX.out])) ?_
                    refine jm (.bool false) ?_
                    refine jz fun X3 hX3 => ?_
                    replace h1 := (Ks.lasts l) _ _ _ h1 hX3
                    replace hg := (Rl.lasts zs) _ _ _ hg hX3
                    replace hrq := (Rq.lasts ys) _ _ _ hrq hX3
                    replace hO := (Rq.lasts (rtl l ys)) _ _ _ hO hX3
                    have hOW := own_since hOW hX3
                    replace hD24 := hD24.bel hX3
                    have hcx := hcx.below hX3 hbb
                    have hcx2 := hcx2.below hX3 hbb2
                    replace hbb := Nat.lt_of_lt_of_le hbb (hX3).size
                    replace hbb2 := Nat.lt_of_lt_of_le hbb2 (hX3).size
                    have hb := bel_next hb hX3
                    clear hX3
                    have HZ4 : Hid (∀ j, j < k3 + 1 → vd (xt zs j).1 (xt zs j).2.1 (xt zs j).2.2 = true) := fun j hj => by
                      rcases Nat.lt_or_ge j k3 with h9 | h9
                      · exact HZ3.out j h9
                      · rw [show j = k3 by omega, ← HX.out]; exact HVX.out
                    obtain ⟨z, z9⟩ : ∃ z, x = tr z := ⟨trq x, (tr_of_vd HVX.out).symm⟩
                    subst z9
                    have hzB : szR z 20 := szR_tz (rq_rb z) hx
                    have hcx2 : Cl X3 b2 (off2 + k3 * 3) [.bool (rN z), .string ⟨(rP z).toArray⟩, .string ⟨(rD z).toArray⟩] := hcx2
                    have LB0 : szR y 20 := hyB
                    have LB1 : szR z 20 := hzB
                    have hszA := hb.size
                    go_upto_region 35 with (fail)
                    have hbA : WB.heap.size ≤ X3.heap.size := by omega
                    have hn_hD24 : (Value.ownBlock (.slice A5 k3 c5)) ≠ some g24 := fun h9 => by have h8 := hog _ h9; omega
                    refine la_region (⟨WB.heap.size, 38, 3, .slice A5 k3 c5, k3, (fl rc S), [.bool (rN (y + z)), .string ⟨(rP (y + z)).toArray⟩, .string ⟨(rD (y + z)).toArray⟩]⟩ : Ar) 8 [none, none, none, none, none, none, none, some (Anew (⟨WB.heap.size, 38, 3, .slice A5 k3 c5, k3, (fl rc S), [.bool (rN (y + z)), .string ⟨(rP (y + z)).toArray⟩, .string ⟨(rD (y + z)).toArray⟩]⟩ : Ar) 38), some (Aout (⟨WB.heap.size, 38, 3, .slice A5 k3 c5, k3, (fl rc S), [.bool (rN (y + z)), .string ⟨(rP (y + z)).toArray⟩, .string ⟨(rD (y + z)).toArray⟩]⟩ : Ar))] (by kernel_rfl) (by kernel_rfl) (la_none (la_none (la_none (la_none (la_none (la_none (la_none (la_some (fun v X Y h hR => Anew.lasts v X Y h hR) (la_some (fun v X Y h hR => Aout.lasts v X Y h hR) (la_nil)))))))))) ?_
                    simp only [iB, Nat.reduceAdd]
                    refine am (.slice A5 k3 c5) ?_
                    refine ag hOW hbA (.agg #[.bool (rN y), .string ⟨(rP y).toArray⟩, .string ⟨(rD y).toArray⟩]) (fun X σ hX hF => exec_lda 38 _ (by rfl) g24 (by rfl) Tryd.underlying38 rfl X (hX.blk hD24 hn_hD24) info_rat) ?_
                    refine am (.slice (some ⟨b2, off2, none⟩) ng cg) ?_
                    refine am (.int .i64 (k3 : Int)) ?_
                    refine ag hOW hbA (.pointer (some ⟨b2, off2 + k3 * 3, none⟩)) (fun X σ hX hF => exec_ixv Tryd.underlying43 info_rat _ _ (by rfl) b2 (off2) ng cg k3 (by omega) (by rfl) (by rfl) rfl X) ?_
                    refine ag hOW hbA (.agg #[.bool (rN z), .string ⟨(rP z).toArray⟩, .string ⟨(rD z).toArray⟩]) (fun X σ hX hF => exec_ldc 38 _ (by rfl) b2 (off2 + k3 * 3) (by rfl) Tryd.underlying38 rfl [.bool (rN z), .string ⟨(rP z).toArray⟩, .string ⟨(rD z).toArray⟩] X (Cl.part (hcx2.below hX.below hbB2) 0 _ (by rfl)) info_rat) ?_
                    refine ac hOW hbA (f := 15) (args := [.agg #[.bool (rN y), .string ⟨(rP y).toArray⟩, .string ⟨(rD y).toArray⟩], .agg #[.bool (rN z), .string ⟨(rP z).toArray⟩, .string ⟨(rD z).toArray⟩]]) (.agg #[.bool (rN (y + z)), .string ⟨(rP (y + z)).toArray⟩, .string ⟨(rD (y + z)).toArray⟩]) (fun X σ hX hF => addG (rN y) (rP y) (rD y) (rN z) (rP z) (rD z) (rq_rb y) (rq_rb z) X (tzR LB0 (by omega)) (tzR LB1 (by omega))) ?_
                    refine ab hOW 38 (fun X => by unfold execOp; go_simp) ?_
                    intro v152
                    refine aa hOW hbA 38 7 v152 List.mem_cons_self Tryd.underlying43 info_rtz rfl (show 0 < 3 by decide) (by rfl) (by intro u hu; simp only [List.mem_cons, List.not_mem_nil, or_false] at hu; rcases hu with rfl | rfl | rfl <;> rfl) (show k3 + 1 ≤ maxLen by unfold maxLen; omega) (show (k3 + 1) * 40 ≤ 140737488355328 by omega) ?_
                    intro v153
                    refine am (v153) ?_
                    refine az hOW hbA ?_
                    intro X4 σ hX hF
                    have hO153 : X4.ownsRow WB.heap.size 38 3 v153 (k3 + 1) ((fl rc S) ++ [.bool (rN (y + z)), .string ⟨(rP (y + z)).toArray⟩, .string ⟨(rD (y + z)).toArray⟩]) := (hF _ _ List.mem_cons_self).2
                    have hD24 := hX.blk hD24 hn_hD24
                    have hb := hb.trans (hX.below.mono (show WB.heap.size ≤ WB.heap.size by omega))
                    clear hF hn_hD24
                    obtain ⟨A7, c7, rfl, _, _⟩ := (Rd.of_own hO153).form
                    have HAQ : Hid (fl rc (S ++ [y + z]) = fl rc S ++ [.bool (rN (y + z)), .string ⟨(rP (y + z)).toArray⟩, .string ⟨(rD (y + z)).toArray⟩]) := fl_snoc _ _
                    have HSL2 : Hid ((S ++ [y + z]).length = k3 + 1) := by
                      show _ = _
                      rw [List.length_append, HSL.out]; rfl
                    have hOW : X4.ownsRow WB.heap.size 38 3 (.slice A7 (k3 + 1) c7) (k3 + 1) (fl rc (S ++ [y + z])) := by rw [HAQ.out]; exact hO153
                    clear hO153
                    go_upto_region 36 with (fail)
                    refine jp ?_
                    refine jv (.int .i64 ((k3 + 1 : Nat) : Int)) (exec_add _ _ _ _ (by rfl) (k3 : Int) 1 ((k3 + 1 : Nat) : Int) (by rfl) (by rfl) (by omega) (by omega) (by omega)) ?_
                    refine jm (.int .i64 ((k3 + 1 : Nat) : Int)) ?_
                    refine jz fun X5 hX5 => ?_
                    have hOW := own_since hOW hX5
                    replace hD24 := hD24.bel hX5
                    have hb := bel_next hb hX5
                    clear hX5
                    go_wp2
                    go_roundw
                    case rel => exact ⟨k3 + 1, c7, A7, S ++ [y + z], by omega, rfl, rfl, HSL2, HZ4, hOW, hb⟩
                    case measure => simp [intOf]; omega
                · obtain rfl : nf = k3 := by omega
                  exfalso
                  have h9 := HW.out
                  have h8 : vds zs = true := List.all_eq_true.2 fun t ht => by
                    obtain ⟨i, hi, rfl⟩ := List.getElem_of_mem ht
                    rw [← xt_in hi]
                    exact HZ3.out i (by rw [HLG.out] at hi; omega)
                  rw [h8] at h9
                  cases h9
            · have HW := Lib.hid hw
              obtain ⟨zq, z9⟩ : ∃ zq, zs.map trq = zq := ⟨_, rfl⟩
              have HZE : Hid (zq.map tr = zs) := by
                show _ = _
                rw [← z9]; exact vds_tr HW.out
              have HZS : Hid (∀ k, szR (yq zq k) 20) := by rw [← z9]; exact few_sz HT.out HW.out
              have hlz : zq.length = ng := by rw [← z9, List.length_map]; exact HLG.out
              have hrz : Rq zq (.slice AG ng cg) X5 := by
                show Rl (zq.map tr) _ _
                rw [HZE.out]; exact hg
              clear hg z9 hw
              have hz9 := rtl_len2 l zq
              go_upto_region 29 with (fail)
              refine lx_plain [none, none, some (Tp (Rq (rtl l zq)) 0), none, some (Rq (rtl l zq))] (lasts_none (lasts_none (lasts_some (Tp.lasts (Rq.lasts (rtl l zq)) _) (lasts_none (lasts_some (Rq.lasts (rtl l zq)) (lasts_nil)))))) ?_
              simp only [iX, Nat.reduceAdd]
              refine ja hB0 Tryd.underlying24 (by rfl) info_kn ?_
              refine jm (.slice AG ng cg) ?_
              refine jk (fun X hX hF => rteV _ _ l zq X ⟨_, rfl, ((Ks.lasts l) _ _ _ h1 hX)⟩ ((Rq.lasts zq) _ _ _ hrz hX) HKL.out (by omega) (by omega) 20 (by omega) HZS.out) ?_
              intro v128
              refine jm (v128) ?_
              refine lx_new (by rfl) (fun X hX hF => by obtain ⟨u9, h9, h8⟩ := (hF _ _ List.mem_cons_self rfl); subst h9; exact ⟨u9, X, rfl, h8, Below.refl _ _⟩) ?_
              intro v129
              simp only [pX]
              refine jg (.int .i64 0) (fun X hX hF => by obtain ⟨u9, h9, _⟩ := (hF _ _ (List.mem_cons_of_mem _ List.mem_cons_self) rfl); subst h9; rfl) ?_
              refine jm (v129) ?_
              refine jm (.int .i64 0) ?_
              refine lx_nil ?_
              intro X6 hX6 hF
              replace h1 := (Ks.lasts l) _ _ _ h1 hX6
              replace hrq := (Rq.lasts ys) _ _ _ hrq hX6
              replace hO := (Rq.lasts (rtl l ys)) _ _ _ hO hX6
              replace hrz := (Rq.lasts zq) _ _ _ hrz hX6
              have hv128 := hF _ _ (List.mem_cons_of_mem _ List.mem_cons_self)
              have hv129 := hF _ _ List.mem_cons_self
              replace hB0 := hB0.bel hX6
              have hb := bel_next hb hX6
              clear hF hX6
              obtain ⟨AP, nP, cP, eAP, hlP, _, hnP1, _, _⟩ := Rq.at hv129
              subst eAP
              have hP := hv129
              clear hv129
              have hPO : nP = nO := by
                rw [← hlP, ← HLO.out]
                exact rtl_leq l (by omega)
              subst hPO
              have HLP := Lib.hid hlP
              clear hlP
              go_upto_region 30 with (fail)
              refine jp ?_
              refine jm (.slice AF nf cf) ?_
              refine jv (.int .i64 (nf : Int)) (exec_lenv Tryd.underlying43 _ (by rfl) AF nf cf (by rfl) _ rfl) ?_
              refine jm (.int .i64 0) ?_
              refine jz fun X7 hX7 => ?_
              replace h1 := (Ks.lasts l) _ _ _ h1 hX7
              replace hrq := (Rq.lasts ys) _ _ _ hrq hX7
              replace hO := (Rq.lasts (rtl l ys)) _ _ _ hO hX7
              replace hrz := (Rq.lasts zq) _ _ _ hrz hX7
              replace hv128 := (Tp.lasts (Rq.lasts (rtl l zq)) _) _ _ _ hv128 hX7
              replace hP := (Rq.lasts (rtl l zq)) _ _ _ hP hX7
              replace hB0 := hB0.bel hX7
              have hb := bel_next hb hX7
              clear hX7
              obtain ⟨WB, rfl⟩ : ∃ W, W = X7 := ⟨_, rfl⟩
              have hbwWB := hb
              have Kh1 : Hid (∀ X, Since WB X → Ks l (.slice A n c) X) := fun X h => (Ks.lasts l) _ _ _ h1 h
              have Khrq : Hid (∀ X, Since WB X → Rq ys (.slice AF nf cf) X) := fun X h => (Rq.lasts ys) _ _ _ hrq h
              have KhO : Hid (∀ X, Since WB X → Rq (rtl l ys) (.slice AO nP cO) X) := fun X h => (Rq.lasts (rtl l ys)) _ _ _ hO h
              have Khrz : Hid (∀ X, Since WB X → Rq zq (.slice AG ng cg) X) := fun X h => (Rq.lasts zq) _ _ _ hrz h
              have Khv128 : Hid (∀ X, Since WB X → Tp (Rq (rtl l zq)) 0 (v128) X) := fun X h => (Tp.lasts (Rq.lasts (rtl l zq)) _) _ _ _ hv128 h
              have KhP : Hid (∀ X, Since WB X → Rq (rtl l zq) (.slice AP nP cP) X) := fun X h => (Rq.lasts (rtl l zq)) _ _ _ hP h
              have KhB0 : Hid (∀ X, Since WB X → Blk X (w.heap.size) 24 [.slice A n c]) := fun X h => hB0.bel h
              have lthB0 := hB0.lt
              clear h1 hrq hO hrz hv128 hP hB0 hb
              go_wp2
              go_loopw [19, 133] (fun sv kv w3 => ∃ (k3 c5 : Nat) (A5 : Option Addr), k3 ≤ nf ∧ sv = .slice A5 k3 c5 ∧ kv = .int .i64 (k3 : Int) ∧ w3.ownsRow WB.heap.size 38 3 (.slice A5 k3 c5) k3 (fl rc (adq ys zq k3)) ∧ Below WB.heap.size WB w3) (fun _ kv _ => nf - (intOf kv).toNat)
              case atStart => exact ⟨0, 0, none, by omega, rfl, rfl, ⟨rfl, .inl ⟨rfl, rfl⟩⟩, Below.refl _ _⟩
              case round =>
                obtain ⟨k3, c5, A5, hk3, rfl, rfl, hOW, hb⟩ := hrel
                rcases Nat.lt_or_ge k3 nf with hlt3 | hlt3
                · obtain ⟨b, off, rfl, hbw, hcw⟩ := Rl.xtAt HRF.out HLF.out hlt3
                  rw [← HYE.out, xt_map] at hcw
                  obtain ⟨y, y9⟩ : ∃ y, y = yq ys k3 := ⟨_, rfl⟩
                  have HY := Lib.hid y9
                  have hyB : szR y 20 := by rw [y9]; exact HYS.out k3
                  rw [← y9] at hcw
                  clear y9
                  have hbB := Nat.lt_of_lt_of_le hbw hbwWB.size
                  have hcx : Cl wr b (off + k3 * 3) [.bool (rN y), .string ⟨(rP y).toArray⟩, .string ⟨(rD y).toArray⟩] := (hcw.below hbwWB hbw).below hb hbB
                  have hbb : b < wr.heap.size := Nat.lt_of_lt_of_le hbB hb.size
                  obtain ⟨b2, off2, rfl, hbw2, hcw2⟩ := Rl.xtAt HRG.out HLG.out (show k3 < ng by omega)
                  have hbB2 := Nat.lt_of_lt_of_le hbw2 hbwWB.size
                  rw [← HZE.out, xt_map] at hcw2
                  obtain ⟨z, z9⟩ : ∃ z, z = yq zq k3 := ⟨_, rfl⟩
                  have HZ := Lib.hid z9
                  have hzB : szR z 20 := by rw [z9]; exact HZS.out k3
                  rw [← z9] at hcw2
                  clear z9
                  have hcx2 : Cl wr b2 (off2 + k3 * 3) [.bool (rN z), .string ⟨(rP z).toArray⟩, .string ⟨(rD z).toArray⟩] := (hcw2.below hbwWB hbw2).below hb hbB2
                  have hbb2 : b2 < wr.heap.size := Nat.lt_of_lt_of_le hbB2 hb.size
                  have LB0 : szR z 20 := hzB
                  have LB1 : szR y 20 := hyB
                  have h1 := Kh1.out _ hb
                  have hrq := Khrq.out _ hb
                  have hO := KhO.out _ hb
                  have hrz := Khrz.out _ hb
                  have hv128 := Khv128.out _ hb
                  have hP := KhP.out _ hb
                  go_upto_region 31 with (fail)
                  refine jp ?_
                  refine jv (.bool true) (exec_lss _ _ _ _ (by rfl) .i64 (k3 : Int) (nf : Int) (by rfl) (by rfl) true (decide_eq_true (by omega))) ?_
                  refine jz fun X1 hX1 => ?_
                  replace h1 := (Ks.lasts l) _ _ _ h1 hX1
                  replace hrq := (Rq.lasts ys) _ _ _ hrq hX1
                  replace hO := (Rq.lasts (rtl l ys)) _ _ _ hO hX1
                  replace hrz := (Rq.lasts zq) _ _ _ hrz hX1
                  replace hv128 := (Tp.lasts (Rq.lasts (rtl l zq)) _) _ _ _ hv128 hX1
                  replace hP := (Rq.lasts (rtl l zq)) _ _ _ hP hX1
                  have hOW := own_since hOW hX1
                  have hcx := hcx.below hX1 hbb
                  have hcx2 := hcx2.below hX1 hbb2
                  replace hbb := Nat.lt_of_lt_of_le hbb (hX1).size
                  replace hbb2 := Nat.lt_of_lt_of_le hbb2 (hX1).size
                  have hb := bel_next hb hX1
                  clear hX1
                  go_upto_region 32 with (fail)
                  refine jq 3 ?_
                  refine jm (.int .i64 (k3 : Int)) ?_
                  refine jv (.pointer (some ⟨b, off + k3 * 3, none⟩)) (exec_ixv Tryd.underlying43 info_rat _ _ (by rfl) b (off) nf cf k3 (by omega) (by rfl) (by rfl) rfl) ?_
                  refine jg (rt (rN y) (rP y) (rD y)) (fun X hX hF => exec_ldc 38 _ (by rfl) b (off + k3 * 3) (by rfl) Tryd.underlying38 rfl [.bool (rN y), .string ⟨(rP y).toArray⟩, .string ⟨(rD y).toArray⟩] X (Cl.part (hcx.below hX hbb) 0 _ (by rfl)) info_rat) ?_
                  refine jz fun X2 hX2 => ?_
                  replace h1 := (Ks.lasts l) _ _ _ h1 hX2
                  replace hrq := (Rq.lasts ys) _ _ _ hrq hX2
                  replace hO := (Rq.lasts (rtl l ys)) _ _ _ hO hX2
                  replace hrz := (Rq.lasts zq) _ _ _ hrz hX2
                  replace hv128 := (Tp.lasts (Rq.lasts (rtl l zq)) _) _ _ _ hv128 hX2
                  replace hP := (Rq.lasts (rtl l zq)) _ _ _ hP hX2
                  have hog := fun (b9 : Nat) (h9 : (Value.slice A5 k3 c5).ownBlock = some b9) => (own_base hOW b9 h9).2
                  have hOW := own_since hOW hX2
                  have hcx := hcx.below hX2 hbb
                  have hcx2 := hcx2.below hX2 hbb2
                  replace hbb := Nat.lt_of_lt_of_le hbb (hX2).size
                  replace hbb2 := Nat.lt_of_lt_of_le hbb2 (hX2).size
                  have hb := bel_next hb hX2
                  clear hX2
                  go_upto_region 33 with (refine osn 38 24 137 #[.bool (rN y), .string ⟨(rP y).toArray⟩, .string ⟨(rD y).toArray⟩] info_rat ?_)
                  obtain ⟨Y2, hY9, hD24, hS9⟩ := start1 X2 38 [.bool (rN y), .string ⟨(rP y).toArray⟩, .string ⟨(rD y).toArray⟩]
                  rw [← hY9]
                  clear hY9
                  have hgs24 := hb.size
                  have hog := fun (b9 : Nat) (h9 : (Value.slice A5 k3 c5).ownBlock = some b9) => (own_base hOW b9 h9).2
                  have hOW := own_since hOW hS9
                  have hcx := hcx.below hS9 hbb
                  have hcx2 := hcx2.below hS9 hbb2
                  replace hbb := Nat.lt_of_lt_of_le hbb (hS9).size
                  replace hbb2 := Nat.lt_of_lt_of_le hbb2 (hS9).size
                  have h1 := (Ks.lasts l) _ _ _ h1 hS9
                  have hrq := (Rq.lasts ys) _ _ _ hrq hS9
                  have hO := (Rq.lasts (rtl l ys)) _ _ _ hO hS9
                  have hrz := (Rq.lasts zq) _ _ _ hrz hS9
                  have hv128 := (Tp.lasts (Rq.lasts (rtl l zq)) _) _ _ _ hv128 hS9
                  have hP := (Rq.lasts (rtl l zq)) _ _ _ hP hS9
                  have hb := bel_next hb hS9
                  clear hS9
                  generalize X2.heap.size = g24 at *
                  refine jp ?_
                  refine jm (.slice (some ⟨b2, off2, none⟩) ng cg) ?_
                  refine jm (.int .i64 (k3 : Int)) ?_
                  refine jv (.pointer (some ⟨b2, off2 + k3 * 3, none⟩)) (exec_ixv Tryd.underlying43 info_rat _ _ (by rfl) b2 (off2) ng cg k3 (by omega) (by rfl) (by rfl) rfl) ?_
                  refine jg (rt (rN z) (rP z) (rD z)) (fun X hX hF => exec_ldc 38 _ (by rfl) b2 (off2 + k3 * 3) (by rfl) Tryd.underlying38 rfl [.bool (rN z), .string ⟨(rP z).toArray⟩, .string ⟨(rD z).toArray⟩] X (Cl.part (hcx2.below hX hbb2) 0 _ (by rfl)) info_rat) ?_
                  refine jc (.bool true) (fun X hX hF => mo (validG (rN z) (rP z) (rD z) X (tzR LB0 (by omega))) (by rw [(vd_rb z)])) ?_
                  refine jm (.bool false) ?_
                  refine jz fun X3 hX3 => ?_
                  replace h1 := (Ks.lasts l) _ _ _ h1 hX3
                  replace hrq := (Rq.lasts ys) _ _ _ hrq hX3
                  replace hO := (Rq.lasts (rtl l ys)) _ _ _ hO hX3
                  replace hrz := (Rq.lasts zq) _ _ _ hrz hX3
                  replace hv128 := (Tp.lasts (Rq.lasts (rtl l zq)) _) _ _ _ hv128 hX3
                  replace hP := (Rq.lasts (rtl l zq)) _ _ _ hP hX3
                  have hOW := own_since hOW hX3
                  replace hD24 := hD24.bel hX3
                  have hcx := hcx.below hX3 hbb
                  have hcx2 := hcx2.below hX3 hbb2
                  replace hbb := Nat.lt_of_lt_of_le hbb (hX3).size
                  replace hbb2 := Nat.lt_of_lt_of_le hbb2 (hX3).size
                  have hb := bel_next hb hX3
                  clear hX3
                  have hszA := hb.size
                  go_upto_region 35 with (fail)
                  have hbA : WB.heap.size ≤ X3.heap.size := by omega
                  have hn_hD24 : (Value.ownBlock (.slice A5 k3 c5)) ≠ some g24 := fun h9 => by have h8 := hog _ h9; omega
                  refine la_region (⟨WB.heap.size, 38, 3, .slice A5 k3 c5, k3, (fl rc (adq ys zq k3)), [.bool (rN (y + z)), .string ⟨(rP (y + z)).toArray⟩, .string ⟨(rD (y + z)).toArray⟩]⟩ : Ar) 8 [none, none, none, none, none, none, none, some (Anew (⟨WB.heap.size, 38, 3, .slice A5 k3 c5, k3, (fl rc (adq ys zq k3)), [.bool (rN (y + z)), .string ⟨(rP (y + z)).toArray⟩, .string ⟨(rD (y + z)).toArray⟩]⟩ : Ar) 38), some (Aout (⟨WB.heap.size, 38, 3, .slice A5 k3 c5, k3, (fl rc (adq ys zq k3)), [.bool (rN (y + z)), .string ⟨(rP (y + z)).toArray⟩, .string ⟨(rD (y + z)).toArray⟩]⟩ : Ar))] (by kernel_rfl) (by kernel_rfl) (la_none (la_none (la_none (la_none (la_none (la_none (la_none (la_some (fun v X Y h hR => Anew.lasts v X Y h hR) (la_some (fun v X Y h hR => Aout.lasts v X Y h hR) (la_nil)))))))))) ?_
                  simp only [iB, Nat.reduceAdd]
                  refine am (.slice A5 k3 c5) ?_
                  refine ag hOW hbA (.agg #[.bool (rN y), .string ⟨(rP y).toArray⟩, .string ⟨(rD y).toArray⟩]) (fun X σ hX hF => exec_lda 38 _ (by rfl) g24 (by rfl) Tryd.underlying38 rfl X (hX.blk hD24 hn_hD24) info_rat) ?_
                  refine am (.slice (some ⟨b2, off2, none⟩) ng cg) ?_
                  refine am (.int .i64 (k3 : Int)) ?_
                  refine ag hOW hbA (.pointer (some ⟨b2, off2 + k3 * 3, none⟩)) (fun X σ hX hF => exec_ixv Tryd.underlying43 info_rat _ _ (by rfl) b2 (off2) ng cg k3 (by omega) (by rfl) (by rfl) rfl X) ?_
                  refine ag hOW hbA (.agg #[.bool (rN z), .string ⟨(rP z).toArray⟩, .string ⟨(rD z).toArray⟩]) (fun X σ hX hF => exec_ldc 38 _ (by rfl) b2 (off2 + k3 * 3) (by rfl) Tryd.underlying38 rfl [.bool (rN z), .string ⟨(rP z).toArray⟩, .string ⟨(rD z).toArray⟩] X (Cl.part (hcx2.below hX.below hbB2) 0 _ (by rfl)) info_rat) ?_
                  refine ac hOW hbA (f := 15) (args := [.agg #[.bool (rN y), .string ⟨(rP y).toArray⟩, .string ⟨(rD y).toArray⟩], .agg #[.bool (rN z), .string ⟨(rP z).toArray⟩, .string ⟨(rD z).toArray⟩]]) (.agg #[.bool (rN (y + z)), .string ⟨(rP (y + z)).toArray⟩, .string ⟨(rD (y + z)).toArray⟩]) (fun X σ hX hF => addG (rN y) (rP y) (rD y) (rN z) (rP z) (rD z) (rq_rb y) (rq_rb z) X (tzR LB1 (by omega)) (tzR LB0 (by omega))) ?_
                  refine ab hOW 38 (fun X => by unfold execOp; go_simp) ?_
                  intro v152
                  refine aa hOW hbA 38 7 v152 List.mem_cons_self Tryd.underlying43 info_rtz rfl (show 0 < 3 by decide) (by rfl) (by intro u hu; simp only [List.mem_cons, List.not_mem_nil, or_false] at hu; rcases hu with rfl | rfl | rfl <;> rfl) (show k3 + 1 ≤ maxLen by unfold maxLen; omega) (show (k3 + 1) * 40 ≤ 140737488355328 by omega) ?_
                  intro v153
                  refine am (v153) ?_
                  refine az hOW hbA ?_
                  intro X4 σ hX hF
                  have hO153 : X4.ownsRow WB.heap.size 38 3 v153 (k3 + 1) ((fl rc (adq ys zq k3)) ++ [.bool (rN (y + z)), .string ⟨(rP (y + z)).toArray⟩, .string ⟨(rD (y + z)).toArray⟩]) := (hF _ _ List.mem_cons_self).2
                  have hD24 := hX.blk hD24 hn_hD24
                  have hb := hb.trans (hX.below.mono (show WB.heap.size ≤ WB.heap.size by omega))
                  clear hF hn_hD24
                  obtain ⟨A7, c7, rfl, _, _⟩ := (Rd.of_own hO153).form
                  have HAQ : Hid (fl rc (adq ys zq (k3 + 1)) = fl rc (adq ys zq k3) ++ [.bool (rN (y + z)), .string ⟨(rP (y + z)).toArray⟩, .string ⟨(rD (y + z)).toArray⟩]) := by
                    show _ = _
                    rw [adq_snoc, ← HY.out, ← HZ.out]
                    exact fl_snoc _ _
                  have hOW : X4.ownsRow WB.heap.size 38 3 (.slice A7 (k3 + 1) c7) (k3 + 1) (fl rc (adq ys zq (k3 + 1))) := by rw [HAQ.out]; exact hO153
                  clear hO153
                  go_upto_region 36 with (fail)
                  refine jp ?_
                  refine jv (.int .i64 ((k3 + 1 : Nat) : Int)) (exec_add _ _ _ _ (by rfl) (k3 : Int) 1 ((k3 + 1 : Nat) : Int) (by rfl) (by rfl) (by omega) (by omega) (by omega)) ?_
                  refine jm (.int .i64 ((k3 + 1 : Nat) : Int)) ?_
                  refine jz fun X5 hX5 => ?_
                  have hOW := own_since hOW hX5
                  replace hD24 := hD24.bel hX5
                  have hb := bel_next hb hX5
                  clear hX5
                  go_wp2
                  go_roundw
                  case rel => exact ⟨k3 + 1, c7, A7, by omega, rfl, rfl, hOW, hb⟩
                  case measure => simp [intOf]; omega
                · obtain rfl : nf = k3 := by omega
                  have h1 := Kh1.out _ hb
                  have hrq := Khrq.out _ hb
                  have hO := KhO.out _ hb
                  have hrz := Khrz.out _ hb
                  have hv128 := Khv128.out _ hb
                  have hP := KhP.out _ hb
                  have hB0 := KhB0.out _ hb
                  have hSQ : Rq (adq ys zq nf) (.slice A5 nf c5) wr := rq_own hOW (adq_len _ _ _)
                  clear hOW
                  have hb := hbwWB.trans (hb.mono hbwWB.size)
                  go_upto_region 31 with (fail)
                  refine jp ?_
                  refine jv (.bool false) (exec_lss _ _ _ _ (by rfl) .i64 (nf : Int) (nf : Int) (by rfl) (by rfl) false (decide_eq_false (by omega))) ?_
                  refine jz fun X1 hX1 => ?_
                  replace h1 := (Ks.lasts l) _ _ _ h1 hX1
                  replace hrq := (Rq.lasts ys) _ _ _ hrq hX1
                  replace hO := (Rq.lasts (rtl l ys)) _ _ _ hO hX1
                  replace hrz := (Rq.lasts zq) _ _ _ hrz hX1
                  replace hv128 := (Tp.lasts (Rq.lasts (rtl l zq)) _) _ _ _ hv128 hX1
                  replace hP := (Rq.lasts (rtl l zq)) _ _ _ hP hX1
                  replace hSQ := (Rq.lasts (adq ys zq nf)) _ _ _ hSQ hX1
                  replace hB0 := hB0.bel hX1
                  have hb := bel_next hb hX1
                  clear hX1
                  go_upto_region 37 with (fail)
                  refine jp ?_
                  refine jm (.int .i64 0) ?_
                  refine jv (.bool false) (exec_nei _ _ _ _ (by rfl) .i64 0 0 (by rfl) (by rfl) false (by rw [decide_eq_true (by omega)]; rfl)) ?_
                  refine jm (.bool false) ?_
                  refine jm (.slice AP nP cP) ?_
                  refine jv (.int .i64 (nP : Int)) (exec_lenv Tryd.underlying43 _ (by rfl) AP nP cP (by rfl) _ rfl) ?_
                  refine jm (.slice AO nP cO) ?_
                  refine jv (.int .i64 (nP : Int)) (exec_lenv Tryd.underlying43 _ (by rfl) AO nP cO (by rfl) _ rfl) ?_
                  refine jv (.bool false) (exec_nei _ _ _ _ (by rfl) .i64 (nP : Int) (nP : Int) (by rfl) (by rfl) false (by rw [decide_eq_true (by omega)]; rfl)) ?_
                  refine jm (.bool false) ?_
                  refine jz fun X2 hX2 => ?_
                  replace h1 := (Ks.lasts l) _ _ _ h1 hX2
                  replace hrq := (Rq.lasts ys) _ _ _ hrq hX2
                  replace hO := (Rq.lasts (rtl l ys)) _ _ _ hO hX2
                  replace hrz := (Rq.lasts zq) _ _ _ hrz hX2
                  replace hv128 := (Tp.lasts (Rq.lasts (rtl l zq)) _) _ _ _ hv128 hX2
                  replace hP := (Rq.lasts (rtl l zq)) _ _ _ hP hX2
                  replace hSQ := (Rq.lasts (adq ys zq nf)) _ _ _ hSQ hX2
                  replace hB0 := hB0.bel hX2
                  have hb := bel_next hb hX2
                  clear hX2
                  go_upto_region 39 with (fail)
                  refine jp ?_
                  refine jm (.slice AO nP cO) ?_
                  refine jv (.int .i64 (nP : Int)) (exec_lenv Tryd.underlying43 _ (by rfl) AO nP cO (by rfl) _ rfl) ?_
                  refine jm (.int .i64 0) ?_
                  refine jz fun X3 hX3 => ?_
                  replace h1 := (Ks.lasts l) _ _ _ h1 hX3
                  replace hrq := (Rq.lasts ys) _ _ _ hrq hX3
                  replace hO := (Rq.lasts (rtl l ys)) _ _ _ hO hX3
                  replace hrz := (Rq.lasts zq) _ _ _ hrz hX3
                  replace hv128 := (Tp.lasts (Rq.lasts (rtl l zq)) _) _ _ _ hv128 hX3
                  replace hP := (Rq.lasts (rtl l zq)) _ _ _ hP hX3
                  replace hSQ := (Rq.lasts (adq ys zq nf)) _ _ _ hSQ hX3
                  replace hB0 := hB0.bel hX3
                  have hb := bel_next hb hX3
                  clear hX3
                  obtain ⟨WC, rfl⟩ : ∃ W, W = X3 := ⟨_, rfl⟩
                  have hbwWC := hb
                  have Kh1 : Hid (∀ X, Since WC X → Ks l (.slice A n c) X) := fun X h => (Ks.lasts l) _ _ _ h1 h
                  have Khrq : Hid (∀ X, Since WC X → Rq ys (.slice AF nf cf) X) := fun X h => (Rq.lasts ys) _ _ _ hrq h
                  have KhO : Hid (∀ X, Since WC X → Rq (rtl l ys) (.slice AO nP cO) X) := fun X h => (Rq.lasts (rtl l ys)) _ _ _ hO h
                  have Khrz : Hid (∀ X, Since WC X → Rq zq (.slice AG ng cg) X) := fun X h => (Rq.lasts zq) _ _ _ hrz h
                  have Khv128 : Hid (∀ X, Since WC X → Tp (Rq (rtl l zq)) 0 (v128) X) := fun X h => (Tp.lasts (Rq.lasts (rtl l zq)) _) _ _ _ hv128 h
                  have KhP : Hid (∀ X, Since WC X → Rq (rtl l zq) (.slice AP nP cP) X) := fun X h => (Rq.lasts (rtl l zq)) _ _ _ hP h
                  have KhSQ : Hid (∀ X, Since WC X → Rq (adq ys zq nf) (.slice A5 nf c5) X) := fun X h => (Rq.lasts (adq ys zq nf)) _ _ _ hSQ h
                  have KhB0 : Hid (∀ X, Since WC X → Blk X (w.heap.size) 24 [.slice A n c]) := fun X h => hB0.bel h
                  have lthB0 := hB0.lt
                  clear h1 hrq hO hrz hv128 hP hSQ hB0 hb
                  go_wp2
                  go_loopw [20, 166] (fun sv kv w4 => ∃ (k4 c6 : Nat) (A6 : Option Addr), k4 ≤ nP ∧ sv = .slice A6 k4 c6 ∧ kv = .int .i64 (k4 : Int) ∧ w4.ownsRow WC.heap.size 38 3 (.slice A6 k4 c6) k4 (fl rc (adq (rtl l ys) (rtl l zq) k4)) ∧ Below WC.heap.size WC w4) (fun _ kv _ => nP - (intOf kv).toNat)
                  case atStart => exact ⟨0, 0, none, by omega, rfl, rfl, ⟨rfl, .inl ⟨rfl, rfl⟩⟩, Below.refl _ _⟩
                  case round =>
                    obtain ⟨k4, c6, A6, hk4, rfl, rfl, hOW, hb⟩ := hrel
                    rcases Nat.lt_or_ge k4 nP with hlt4 | hlt4
                    · obtain ⟨b, off, rfl, hbB, hcw⟩ := rqIn (KhO.out _ (Below.refl _ _)) HLO.out hlt4
                      obtain ⟨y, y9⟩ : ∃ y, y = yq (rtl l ys) k4 := ⟨_, rfl⟩
                      have HY := Lib.hid y9
                      have hyB : szR y 1051 := by rw [y9]; exact HR1.out k4
                      rw [← y9] at hcw
                      clear y9
                      have hcx : Cl wr b (off + k4 * 3) [.bool (rN y), .string ⟨(rP y).toArray⟩, .string ⟨(rD y).toArray⟩] := hcw.below hb hbB
                      have hbb : b < wr.heap.size := Nat.lt_of_lt_of_le hbB hb.size
                      obtain ⟨b2, off2, rfl, hbB2, hcw2⟩ := rqIn (KhP.out _ (Below.refl _ _)) HLP.out hlt4
                      obtain ⟨z, z9⟩ : ∃ z, z = yq (rtl l zq) k4 := ⟨_, rfl⟩
                      have HZ := Lib.hid z9
                      have hzB : szR z 1051 := by rw [z9]; exact (rtl_sz HKL.out HZS.out k4).mono (by omega)
                      rw [← z9] at hcw2
                      clear z9
                      have hcx2 : Cl wr b2 (off2 + k4 * 3) [.bool (rN z), .string ⟨(rP z).toArray⟩, .string ⟨(rD z).toArray⟩] := hcw2.below hb hbB2
                      have hbb2 : b2 < wr.heap.size := Nat.lt_of_lt_of_le hbB2 hb.size
                      have LB0 : szR y 1051 := hyB
                      have LB1 : szR z 1051 := hzB
                      go_upto_region 40 with (fail)
                      refine jp ?_
                      refine jv (.bool true) (exec_lss _ _ _ _ (by rfl) .i64 (k4 : Int) (nP : Int) (by rfl) (by rfl) true (decide_eq_true (by omega))) ?_
                      refine jz fun X1 hX1 => ?_
                      have hOW := own_since hOW hX1
                      have hcx := hcx.below hX1 hbb
                      have hcx2 := hcx2.below hX1 hbb2
                      replace hbb := Nat.lt_of_lt_of_le hbb (hX1).size
                      replace hbb2 := Nat.lt_of_lt_of_le hbb2 (hX1).size
                      have hb := bel_next hb hX1
                      clear hX1
                      go_upto_region 41 with (fail)
                      refine jq 3 ?_
                      refine jm (.int .i64 (k4 : Int)) ?_
                      refine jv (.pointer (some ⟨b, off + k4 * 3, none⟩)) (exec_ixv Tryd.underlying43 info_rat _ _ (by rfl) b (off) nP cO k4 (by omega) (by rfl) (by rfl) rfl) ?_
                      refine jg (rt (rN y) (rP y) (rD y)) (fun X hX hF => exec_ldc 38 _ (by rfl) b (off + k4 * 3) (by rfl) Tryd.underlying38 rfl [.bool (rN y), .string ⟨(rP y).toArray⟩, .string ⟨(rD y).toArray⟩] X (Cl.part (hcx.below hX hbb) 0 _ (by rfl)) info_rat) ?_
                      refine jz fun X2 hX2 => ?_
                      have hog := fun (b9 : Nat) (h9 : (Value.slice A6 k4 c6).ownBlock = some b9) => (own_base hOW b9 h9).2
                      have hOW := own_since hOW hX2
                      have hcx := hcx.below hX2 hbb
                      have hcx2 := hcx2.below hX2 hbb2
                      replace hbb := Nat.lt_of_lt_of_le hbb (hX2).size
                      replace hbb2 := Nat.lt_of_lt_of_le hbb2 (hX2).size
                      have hb := bel_next hb hX2
                      clear hX2
                      go_upto_region 42 with (refine osn 38 26 170 #[.bool (rN y), .string ⟨(rP y).toArray⟩, .string ⟨(rD y).toArray⟩] info_rat ?_)
                      obtain ⟨Y2, hY9, hD26, hS9⟩ := start1 X2 38 [.bool (rN y), .string ⟨(rP y).toArray⟩, .string ⟨(rD y).toArray⟩]
                      rw [← hY9]
                      clear hY9
                      have hgs26 := hb.size
                      have hog := fun (b9 : Nat) (h9 : (Value.slice A6 k4 c6).ownBlock = some b9) => (own_base hOW b9 h9).2
                      have hOW := own_since hOW hS9
                      have hcx := hcx.below hS9 hbb
                      have hcx2 := hcx2.below hS9 hbb2
                      replace hbb := Nat.lt_of_lt_of_le hbb (hS9).size
                      replace hbb2 := Nat.lt_of_lt_of_le hbb2 (hS9).size
                      have hb := bel_next hb hS9
                      clear hS9
                      generalize X2.heap.size = g26 at *
                      have hszA := hb.size
                      go_upto_region 42 with (fail)
                      have hbA : WC.heap.size ≤ Y2.heap.size := by omega
                      have hn_hD26 : (Value.ownBlock (.slice A6 k4 c6)) ≠ some g26 := fun h9 => by have h8 := hog _ h9; omega
                      refine la_region (⟨WC.heap.size, 38, 3, .slice A6 k4 c6, k4, (fl rc (adq (rtl l ys) (rtl l zq) k4)), [.bool (rN (y + z)), .string ⟨(rP (y + z)).toArray⟩, .string ⟨(rD (y + z)).toArray⟩]⟩ : Ar) 8 [none, none, none, none, none, none, none, some (Anew (⟨WC.heap.size, 38, 3, .slice A6 k4 c6, k4, (fl rc (adq (rtl l ys) (rtl l zq) k4)), [.bool (rN (y + z)), .string ⟨(rP (y + z)).toArray⟩, .string ⟨(rD (y + z)).toArray⟩]⟩ : Ar) 38), some (Aout (⟨WC.heap.size, 38, 3, .slice A6 k4 c6, k4, (fl rc (adq (rtl l ys) (rtl l zq) k4)), [.bool (rN (y + z)), .string ⟨(rP (y + z)).toArray⟩, .string ⟨(rD (y + z)).toArray⟩]⟩ : Ar))] (by kernel_rfl) (by kernel_rfl) (la_none (la_none (la_none (la_none (la_none (la_none (la_none (la_some (fun v X Y h hR => Anew.lasts v X Y h hR) (la_some (fun v X Y h hR => Aout.lasts v X Y h hR) (la_nil)))))))))) ?_
                      simp only [iB, Nat.reduceAdd]
                      refine am (.slice A6 k4 c6) ?_
                      refine ag hOW hbA (.agg #[.bool (rN y), .string ⟨(rP y).toArray⟩, .string ⟨(rD y).toArray⟩]) (fun X σ hX hF => exec_lda 38 _ (by rfl) g26 (by rfl) Tryd.underlying38 rfl X (hX.blk hD26 hn_hD26) info_rat) ?_
                      refine am (.slice (some ⟨b2, off2, none⟩) nP cP) ?_
                      refine am (.int .i64 (k4 : Int)) ?_
                      refine ag hOW hbA (.pointer (some ⟨b2, off2 + k4 * 3, none⟩)) (fun X σ hX hF => exec_ixv Tryd.underlying43 info_rat _ _ (by rfl) b2 (off2) nP cP k4 (by omega) (by rfl) (by rfl) rfl X) ?_
                      refine ag hOW hbA (.agg #[.bool (rN z), .string ⟨(rP z).toArray⟩, .string ⟨(rD z).toArray⟩]) (fun X σ hX hF => exec_ldc 38 _ (by rfl) b2 (off2 + k4 * 3) (by rfl) Tryd.underlying38 rfl [.bool (rN z), .string ⟨(rP z).toArray⟩, .string ⟨(rD z).toArray⟩] X (Cl.part (hcx2.below hX.below hbB2) 0 _ (by rfl)) info_rat) ?_
                      refine ac hOW hbA (f := 15) (args := [.agg #[.bool (rN y), .string ⟨(rP y).toArray⟩, .string ⟨(rD y).toArray⟩], .agg #[.bool (rN z), .string ⟨(rP z).toArray⟩, .string ⟨(rD z).toArray⟩]]) (.agg #[.bool (rN (y + z)), .string ⟨(rP (y + z)).toArray⟩, .string ⟨(rD (y + z)).toArray⟩]) (fun X σ hX hF => addG (rN y) (rP y) (rD y) (rN z) (rP z) (rD z) (rq_rb y) (rq_rb z) X (tzR LB0 (by omega)) (tzR LB1 (by omega))) ?_
                      refine ab hOW 38 (fun X => by unfold execOp; go_simp) ?_
                      intro v178
                      refine aa hOW hbA 38 7 v178 List.mem_cons_self Tryd.underlying43 info_rtz rfl (show 0 < 3 by decide) (by rfl) (by intro u hu; simp only [List.mem_cons, List.not_mem_nil, or_false] at hu; rcases hu with rfl | rfl | rfl <;> rfl) (show k4 + 1 ≤ maxLen by unfold maxLen; omega) (show (k4 + 1) * 40 ≤ 140737488355328 by omega) ?_
                      intro v179
                      refine am (v179) ?_
                      refine az hOW hbA ?_
                      intro X3 σ hX hF
                      have hO179 : X3.ownsRow WC.heap.size 38 3 v179 (k4 + 1) ((fl rc (adq (rtl l ys) (rtl l zq) k4)) ++ [.bool (rN (y + z)), .string ⟨(rP (y + z)).toArray⟩, .string ⟨(rD (y + z)).toArray⟩]) := (hF _ _ List.mem_cons_self).2
                      have hD26 := hX.blk hD26 hn_hD26
                      have hb := hb.trans (hX.below.mono (show WC.heap.size ≤ WC.heap.size by omega))
                      clear hF hn_hD26
                      obtain ⟨A7, c7, rfl, _, _⟩ := (Rd.of_own hO179).form
                      have HAQ : Hid (fl rc (adq (rtl l ys) (rtl l zq) (k4 + 1)) = (fl rc (adq (rtl l ys) (rtl l zq) k4)) ++ [.bool (rN (y + z)), .string ⟨(rP (y + z)).toArray⟩, .string ⟨(rD (y + z)).toArray⟩]) := by
                        show _ = _
                        rw [adq_snoc, ← HY.out, ← HZ.out]
                        exact fl_snoc _ _
                      have hOW : X3.ownsRow WC.heap.size 38 3 (.slice A7 (k4 + 1) c7) (k4 + 1) (fl rc (adq (rtl l ys) (rtl l zq) (k4 + 1))) := by rw [HAQ.out]; exact hO179
                      clear hO179
                      go_upto_region 43 with (fail)
                      refine jp ?_
                      refine jv (.int .i64 ((k4 + 1 : Nat) : Int)) (exec_add _ _ _ _ (by rfl) (k4 : Int) 1 ((k4 + 1 : Nat) : Int) (by rfl) (by rfl) (by omega) (by omega) (by omega)) ?_
                      refine jm (.int .i64 ((k4 + 1 : Nat) : Int)) ?_
                      refine jz fun X4 hX4 => ?_
                      have hOW := own_since hOW hX4
                      replace hD26 := hD26.bel hX4
                      have hb := bel_next hb hX4
                      clear hX4
                      go_wp2
                      go_roundw
                      case rel => exact ⟨k4 + 1, c7, A7, by omega, rfl, rfl, hOW, hb⟩
                      case measure => simp [intOf]; omega
                    · obtain rfl : nP = k4 := by omega
                      have h1 := Kh1.out _ hb
                      have hrq := Khrq.out _ hb
                      have hO := KhO.out _ hb
                      have hrz := Khrz.out _ hb
                      have hv128 := Khv128.out _ hb
                      have hP := KhP.out _ hb
                      have hSQ := KhSQ.out _ hb
                      have hB0 := KhB0.out _ hb
                      have hWQ : Rq (adq (rtl l ys) (rtl l zq) nP) (.slice A6 nP c6) wr := rq_own hOW (adq_len _ _ _)
                      clear hOW
                      have hb := hbwWC.trans (hb.mono hbwWC.size)
                      have HRA : Hid (rtl l (adq ys zq nf) = (adq (rtl l ys) (rtl l zq) nP)) := by
                        have h9 := rtl_adq HKL.out (ys := ys) (zs := zq) (by omega)
                        rw [hlys, HLO.out] at h9
                        exact h9
                      have HAD : Hid (∀ k, szR (yq (adq ys zq nf) k) 41) := fun k => by
                        rw [yq_adq (by omega) (by omega)]
                        exact szR_add (HYS.out k) (HZS.out k)
                      go_upto_region 40 with (fail)
                      refine jp ?_
                      refine jv (.bool false) (exec_lss _ _ _ _ (by rfl) .i64 (nP : Int) (nP : Int) (by rfl) (by rfl) false (decide_eq_false (by omega))) ?_
                      refine jz fun X1 hX1 => ?_
                      replace h1 := (Ks.lasts l) _ _ _ h1 hX1
                      replace hrq := (Rq.lasts ys) _ _ _ hrq hX1
                      replace hO := (Rq.lasts (rtl l ys)) _ _ _ hO hX1
                      replace hrz := (Rq.lasts zq) _ _ _ hrz hX1
                      replace hv128 := (Tp.lasts (Rq.lasts (rtl l zq)) _) _ _ _ hv128 hX1
                      replace hP := (Rq.lasts (rtl l zq)) _ _ _ hP hX1
                      replace hSQ := (Rq.lasts (adq ys zq nf)) _ _ _ hSQ hX1
                      replace hWQ := (Rq.lasts (adq (rtl l ys) (rtl l zq) nP)) _ _ _ hWQ hX1
                      replace hB0 := hB0.bel hX1
                      have hb := bel_next hb hX1
                      clear hX1
                      go_upto_region 44 with (fail)
                      refine lx_plain [none, none, some (Tp (Rq (adq (rtl l ys) (rtl l zq) nP)) 0), none, some (Rq (adq (rtl l ys) (rtl l zq) nP))] (lasts_none (lasts_none (lasts_some (Tp.lasts (Rq.lasts (adq (rtl l ys) (rtl l zq) nP)) _) (lasts_none (lasts_some (Rq.lasts (adq (rtl l ys) (rtl l zq) nP)) (lasts_nil)))))) ?_
                      simp only [iX, Nat.reduceAdd]
                      refine ja hB0 Tryd.underlying24 (by rfl) info_kn ?_
                      refine jm (.slice A5 nf c5) ?_
                      refine jk (fun X hX hF => (rteV _ _ l (adq ys zq nf) X ⟨_, rfl, ((Ks.lasts l) _ _ _ h1 hX)⟩ ((Rq.lasts (adq ys zq nf)) _ _ _ hSQ hX) HKL.out (by rw [adq_len]; omega) (by omega) 41 (by omega) HAD.out).mono fun e X' ⟨v9, h1, h2, h3⟩ => ⟨v9, h1, by rw [HRA.out] at h2; exact h2, h3⟩) ?_
                      intro v184
                      refine jm (v184) ?_
                      refine lx_new (by rfl) (fun X hX hF => by obtain ⟨u9, h9, h8⟩ := (hF _ _ List.mem_cons_self rfl); subst h9; exact ⟨u9, X, rfl, h8, Below.refl _ _⟩) ?_
                      intro v185
                      simp only [pX]
                      refine jg (.int .i64 0) (fun X hX hF => by obtain ⟨u9, h9, _⟩ := (hF _ _ (List.mem_cons_of_mem _ List.mem_cons_self) rfl); subst h9; rfl) ?_
                      refine jm (v185) ?_
                      refine jm (.int .i64 0) ?_
                      refine lx_nil ?_
                      intro X2 hX2 hF
                      replace h1 := (Ks.lasts l) _ _ _ h1 hX2
                      replace hrq := (Rq.lasts ys) _ _ _ hrq hX2
                      replace hO := (Rq.lasts (rtl l ys)) _ _ _ hO hX2
                      replace hrz := (Rq.lasts zq) _ _ _ hrz hX2
                      replace hv128 := (Tp.lasts (Rq.lasts (rtl l zq)) _) _ _ _ hv128 hX2
                      replace hP := (Rq.lasts (rtl l zq)) _ _ _ hP hX2
                      replace hSQ := (Rq.lasts (adq ys zq nf)) _ _ _ hSQ hX2
                      replace hWQ := (Rq.lasts (adq (rtl l ys) (rtl l zq) nP)) _ _ _ hWQ hX2
                      have hv184 := hF _ _ (List.mem_cons_of_mem _ List.mem_cons_self)
                      have hv185 := hF _ _ List.mem_cons_self
                      replace hB0 := hB0.bel hX2
                      have hb := bel_next hb hX2
                      clear hF hX2
                      go_upto_region 45 with (fail)
                      refine jp ?_
                      refine jc (.bool true) (fun X hX hF => sanC X) ?_
                      refine jm (.bool true) ?_
                      refine jm (.int .i64 0) ?_
                      refine jv (.bool true) (exec_eqi _ _ _ _ (by rfl) .i64 0 0 (by rfl) (by rfl) true (decide_eq_true (by omega))) ?_
                      refine jm (.bool true) ?_
                      refine jm (.bool true) ?_
                      refine jm (v185) ?_
                      refine jm (.slice A6 nP c6) ?_
                      refine jc (.bool true) (fun X hX hF => sfC _ _ _ X ((Rq.lasts (adq (rtl l ys) (rtl l zq) nP)) _ _ _ hv185 hX) ((Rq.lasts (adq (rtl l ys) (rtl l zq) nP)) _ _ _ hWQ hX)) ?_
                      refine jm (.bool true) ?_
                      refine jm (.bool true) ?_
                      refine jz fun X3 hX3 => ?_
                      replace h1 := (Ks.lasts l) _ _ _ h1 hX3
                      replace hrq := (Rq.lasts ys) _ _ _ hrq hX3
                      replace hO := (Rq.lasts (rtl l ys)) _ _ _ hO hX3
                      replace hrz := (Rq.lasts zq) _ _ _ hrz hX3
                      replace hv128 := (Tp.lasts (Rq.lasts (rtl l zq)) _) _ _ _ hv128 hX3
                      replace hP := (Rq.lasts (rtl l zq)) _ _ _ hP hX3
                      replace hSQ := (Rq.lasts (adq ys zq nf)) _ _ _ hSQ hX3
                      replace hWQ := (Rq.lasts (adq (rtl l ys) (rtl l zq) nP)) _ _ _ hWQ hX3
                      replace hv184 := (Tp.lasts (Rq.lasts (adq (rtl l ys) (rtl l zq) nP)) _) _ _ _ hv184 hX3
                      replace hv185 := (Rq.lasts (adq (rtl l ys) (rtl l zq) nP)) _ _ _ hv185 hX3
                      replace hB0 := hB0.bel hX3
                      have hb := bel_next hb hX3
                      clear hX3
                      go_wp2
                      go_ret
                      exact ⟨rfl, hb⟩
          · go_upto_region 26 with (fail)
            refine jp ?_
            refine jm (.slice AG ng cg) ?_
            refine jv (.int .i64 (ng : Int)) (exec_lenv Tryd.underlying43 _ (by rfl) AG ng cg (by rfl) _ rfl) ?_
            refine jm (.slice AF nf cf) ?_
            refine jv (.int .i64 (nf : Int)) (exec_lenv Tryd.underlying43 _ (by rfl) AF nf cf (by rfl) _ rfl) ?_
            refine jv (.bool true) (exec_nei _ _ _ _ (by rfl) .i64 (ng : Int) (nf : Int) (by rfl) (by rfl) true (by rw [decide_eq_false (by omega)]; rfl)) ?_
            refine jz fun X4 hX4 => ?_
            replace h1 := (Ks.lasts l) _ _ _ h1 hX4
            replace hg := (Rl.lasts zs) _ _ _ hg hX4
            replace hrq := (Rq.lasts ys) _ _ _ hrq hX4
            replace hO := (Rq.lasts (rtl l ys)) _ _ _ hO hX4
            replace hB0 := hB0.bel hX4
            have hb := bel_next hb hX4
            clear hX4
            go_upto_region 27 with (fail)
            refine jp ?_
            refine jc (.bool true) (fun X hX hF => sanC X) ?_
            refine jm (.bool true) ?_
            refine jz fun X5 hX5 => ?_
            replace h1 := (Ks.lasts l) _ _ _ h1 hX5
            replace hg := (Rl.lasts zs) _ _ _ hg hX5
            replace hrq := (Rq.lasts ys) _ _ _ hrq hX5
            replace hO := (Rq.lasts (rtl l ys)) _ _ _ hO hX5
            replace hB0 := hB0.bel hX5
            have hb := bel_next hb hX5
            clear hX5
            go_wp2
            go_ret
            exact ⟨rfl, hb⟩
end Go.Proofs.YtcpedbpldgndmaaDoor
