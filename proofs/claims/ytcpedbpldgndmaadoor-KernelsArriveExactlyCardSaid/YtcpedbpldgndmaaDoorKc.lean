/-
  kernel: part, Mean.
-/
import Derived.Test.YtcpedbpldgndmaaDoorKb
import Derived.Test.YtcpedbpldgndmaaDoorRk
set_option linter.unusedSimpArgs false
set_option linter.unusedVariables false
set_option maxRecDepth 100000
set_option maxHeartbeats 1600000
namespace Go.Proofs.YtcpedbpldgndmaaDoor
open Go.RowKit
theorem partC (x t : Int) (w : World) (hx : insB x = true) (ht : insB t = true) (h0 : t ≠ 0) : Calls Tryd.prog 33 #[.int .i64 x, .int .i64 t] w fun e w' => e = .returned (rbv (rk x t)) ∧ Since w w' := by
 go_enter Tryd.func33, Tryd.ntmps33
 go_upto_region 1 with fail;obtain ⟨W0, hW0, hB0, hb⟩ := start1 w 38 [.bool false, .string ⟨#[]⟩, .string ⟨#[]⟩];rw [← hW0];clear hW0;refine jq 6 ?_;refine jm (.int .i64 x) ?_;refine jm (.int .i64 t) ?_;refine jc (.tuple #[rt (rN (rk x t)) (rP (rk x t)) (rD (rk x t)), .int .i64 0]) (fun X hX hF => makeC x t X hx ht h0) ?_;refine jm (.tuple #[rt (rN (rk x t)) (rP (rk x t)) (rD (rk x t)), .int .i64 0]) ?_;refine jm (rt (rN (rk x t)) (rP (rk x t)) (rD (rk x t))) ?_;refine jm (.int .i64 0) ?_;refine jzb hb fun X1 hX1 hb => ?_;replace hB0 := hB0.bel hX1;clear hX1;go_upto_region 2 with (refine osn 38 5 11 #[.bool (rN (rk x t)), .string ⟨(rP (rk x t)).toArray⟩, .string ⟨(rD (rk x t)).toArray⟩] info_rat ?_);obtain ⟨Y1, hY9, hD5, hS9⟩ := start1 X1 38 [.bool (rN (rk x t)), .string ⟨(rP (rk x t)).toArray⟩, .string ⟨(rD (rk x t)).toArray⟩];rw [← hY9];clear hY9;have hgs5 := hb.size;have hlt5x0 := hB0.lt;have hB0 := hB0.bel hS9;have hb := bel_next hb hS9;clear hS9;generalize X1.heap.size = g5 at *;refine jq 1 ?_;refine ja hD5 Tryd.underlying38 (by rfl) info_rat ?_;refine jzb hb fun X2 hX2 hb => ?_;replace hB0 := hB0.bel hX2;replace hD5 := hD5.bel hX2;clear hX2;refine osb 38 4 13 w.heap.size 38 hB0 [.bool (rN (rk x t)), .string ⟨(rP (rk x t)).toArray⟩, .string ⟨(rD (rk x t)).toArray⟩] info_rat ?_;intro w9 hR9 hO9 hB9 hs9;have hb9 := hB9 _ _ hb (by omega);clear hO9 hB9
 go_wp2
 refine post_cell rfl rfl (by rfl) Tryd.underlying38 rfl hR9 info_rat ⟨rfl, hb9⟩
theorem insB_nn {n : Int} (h1 : 0 ≤ n) (h2 : n ≤ 999999999999999) : insB n = true := by
 unfold insB
 exact decide_eq_true ⟨by omega, h2⟩
theorem Kok.insw {l : List Int} (h : Kok l) (k : Nat) : insB (wt l k) = true := insB_nn (h.pos k) (Int.le_trans (h.wle k) h.le)
theorem Kok.inst {l : List Int} (h : Kok l) : insB (tot l) = true := insB_nn (Int.le_of_lt h.tpos) h.le
theorem Kok.tne0 {l : List Int} (h : Kok l) : tot l ≠ 0 := by
 have := h.tpos
 omega
/-- The mean of the first weights. -/
def mk (l : List Int) (k : Nat) : Rat := sm k fun i => ((i : Int) : Rat) * rk (wt l i) (tot l)
theorem mk_mean (l : List Int) : mk l l.length = mean l := sm_congr fun i _ => by
 rw [Rat.intCast_natCast]
 rfl
theorem mea1 (v : Value) (l : List Int) (w : World) (hv : Ks l v w) (HK : Hid (Kok l)) : Calls Tryd.prog 14 #[.agg #[v]] w fun e w' => e = .returned (.tuple #[.agg #[.bool (rN (mean l)), .string ⟨(rP (mean l)).toArray⟩, .string ⟨(rD (mean l)).toArray⟩], .int .i64 0]) ∧ Since w w' := by
 have hv' := hv;obtain ⟨A, n, c, rfl, hln, hn1, hr⟩ := hv.at;clear hv
 have HRX : Hid (∀ X, Since w X → Rd X 1 (.slice A n c) n (l.map I64)) := fun X h => hr.below h
 have HLN := Lib.hid hln;have HC : Hid (kcE l = 0) := kcE_ok.2 HK.out;clear hr
 have HV : Hid (∀ X, Since w X → Ks l (.slice A n c) X) := fun X h => Ks.lasts l _ _ _ hv' h
 clear hv'
 go_enter Tryd.func14, Tryd.ntmps14
 go_upto_region 1 with fail;obtain ⟨W0, hW0, hB0, hB1, hb⟩ := start2 w 24 38 [.slice A n c] [.bool false, .string ⟨#[]⟩, .string ⟨#[]⟩];rw [← hW0];clear hW0;refine jp ?_;refine ja hB0 Tryd.underlying24 (by rfl) info_kn ?_;refine jc (.int .i64 0) (fun X hX hF => mo (kchC _ l X (HV.out X (Since.next hb hX))) (by rw [HC.out])) ?_;refine jm (.int .i64 0) ?_;refine jzb hb fun X1 hX1 hb => ?_;replace hB0 := hB0.bel hX1;replace hB1 := hB1.bel hX1;clear hX1;go_upto_region 2 with fail;refine jp ?_;refine jm (.int .i64 0) ?_;refine jv (.bool false) (exec_nei _ _ _ _ (by rfl) .i64 0 0 (by rfl) (by rfl) false (by rw [decide_eq_true (by omega)]; rfl)) ?_;refine jzb hb fun X2 hX2 hb => ?_;replace hB0 := hB0.bel hX2;replace hB1 := hB1.bel hX2;clear hX2;go_upto_region 5 with fail;obtain ⟨Y2, hY9, hD5, hS9⟩ := start1 X2 38 [.bool false, .string ⟨#[]⟩, .string ⟨#[]⟩];rw [← hY9];clear hY9;have hgs5 := hb.size;have hlt5x0 := hB0.lt;have hlt5x1 := hB1.lt;replace hB0 := hB0.bel hS9;replace hB1 := hB1.bel hS9;have hb := bel_next hb hS9;clear hS9;generalize X2.heap.size = g5 at *;refine jp ?_;refine jn (.pointer (some ⟨w.heap.size, 0, none⟩)) ?_;refine jf (.slice A n c) hB0 0 load_ints ?_;refine jv (.int .i64 (n : Int)) (exec_lenv Tryd.underlying22 _ (by rfl) A n c (by rfl) _ rfl) ?_;refine jm (.int .i64 0) ?_;refine jzb hb fun X3 hX3 hb => ?_;replace hB0 := hB0.bel hX3;replace hB1 := hB1.bel hX3;replace hD5 := hD5.bel hX3;clear hX3
 have hn4 : n ≤ 400 := by rw [← HLN.out]; exact HK.out.len2
 go_wp2
 go_loopw [17] (fun kv wr => ∃ (k : Nat) (s : Rat), k ≤ n ∧ kv = .int .i64 (k : Int) ∧ Hid (s = mk l k) ∧ szR s (k * 22 + 1) ∧ Blk wr g5 38 [.bool (rN s), .string ⟨(rP s).toArray⟩, .string ⟨(rD s).toArray⟩] ∧ Blk wr w.heap.size 24 [.slice A n c] ∧ Blk wr (w.heap.size + 1) 38 [.bool false, .string ⟨#[]⟩, .string ⟨#[]⟩] ∧ Below w.heap.size w wr) (fun kv _ => n - (intOf kv).toNat)
 case atStart => exact ⟨0, 0, by omega, rfl, rfl, szR_zero, hD5, hB0, hB1, hb⟩
 case round =>
  clear hD5 hB0 hB1 hb;obtain ⟨k, s, hk, rfl, HS, hs, hD5, hB0, hB1, hb⟩ := hrel
  rcases Nat.lt_or_ge k n with hlt | hlt
  ·obtain ⟨b, off, rfl, hbb, hcx⟩ := wtIn (HRX.out _ hb) HLN.out hlt
   obtain ⟨x, x9⟩ : ∃ x, x = wt l k := ⟨_, rfl⟩;have HX := Lib.hid x9;clear x9;rw [← HX.out] at hcx
   have hxi : insB x = true := by rw [HX.out]; exact HK.out.insw k
   have hki : insB (k : Int) = true := insB_nn (by omega) (by omega);obtain ⟨t, t9⟩ : ∃ t, t = tot l := ⟨_, rfl⟩;have HT := Lib.hid t9
   have hti : insB t = true := by rw [t9]; exact HK.out.inst
   have ht0 : t ≠ 0 := by rw [t9]; exact HK.out.tne0
   clear t9;have hs9 : szR s 8801 := hs.mono (by omega);have LB0 : szR ((k : Int) : Rat) 7 := szR_int hki;have LB1 : szR (rk x t) 14 := szR_rk x t hxi hti;have LB2 : szR s 8801 := hs9;have LB3 : szR (((k : Int) : Rat) * (rk x t)) 21 := szR_mul LB0 LB1;go_upto_region 6 with fail;refine jp ?_;refine jv (.bool true) (exec_lss _ _ _ _ (by rfl) .i64 (k : Int) (n : Int) (by rfl) (by rfl) true (decide_eq_true (by omega))) ?_;refine jzb hb fun X1 hX1 hb => ?_;replace hB0 := hB0.bel hX1;replace hB1 := hB1.bel hX1;replace hD5 := hD5.bel hX1;have hcx := hcx.below hX1 hbb;replace hbb := Nat.lt_of_lt_of_le hbb (hX1).size;clear hX1;go_upto_region 7 with fail;refine jp ?_;refine jm (.int .i64 (k : Int)) ?_;refine jv (.pointer (some ⟨b, off + k * 1, none⟩)) (exec_ixv Tryd.underlying22 info_i1 _ _ (by rfl) b (off) n c k (by omega) (by rfl) (by rfl) rfl) ?_;refine jg (.int .i64 x) (fun X hX hF => exec_ld 3 _ (by rfl) b (off + k * 1) (by rfl) _ X ((hcx.below hX hbb) 0 _ rfl) (fun X u h => load_int b (off + k * 1) X u h)) ?_;refine jm (.int .i64 (k : Int)) ?_;refine jm (.int .i64 x) ?_;refine jzb hb fun X2 hX2 hb => ?_;replace hB0 := hB0.bel hX2;replace hB1 := hB1.bel hX2;replace hD5 := hD5.bel hX2;have hcx := hcx.below hX2 hbb;replace hbb := Nat.lt_of_lt_of_le hbb (hX2).size;clear hX2;go_upto_region 8 with fail;refine lx_region_tail [] (by kernel_rfl) (by kernel_rfl) (by kernel_rfl) rfl (lasts_nil) ?_;simp only [its, List.dropLast, Nat.zero_add, Nat.reduceAdd];refine ja hD5 Tryd.underlying38 (by rfl) info_rat ?_
   refine jm (.int .i64 (k : Int)) ?_;refine jc (rt (rN ((k : Int) : Rat)) (rP ((k : Int) : Rat)) (rD ((k : Int) : Rat))) (fun X hX hF => rintQ ((k : Int)) X hki) ?_;refine jm (.int .i64 x) ?_;refine ja hB0 Tryd.underlying24 (by rfl) info_kn ?_;refine jc (.int .i64 t) (fun X hX hF => mo (totK _ l X (HV.out X (Since.next hb hX)) HK.out) (by rw [HT.out])) ?_;refine jc (rt (rN (rk x t)) (rP (rk x t)) (rD (rk x t))) (fun X hX hF => partC x t X hxi hti ht0) ?_;refine jc (.agg #[.bool (rN (((k : Int) : Rat) * (rk x t))), st (rP (((k : Int) : Rat) * (rk x t))), st (rD (((k : Int) : Rat) * (rk x t)))]) (fun X hX hF => mulG (rN ((k : Int) : Rat)) (rP ((k : Int) : Rat)) (rD ((k : Int) : Rat)) (rN (rk x t)) (rP (rk x t)) (rD (rk x t)) (rq_rb ((k : Int) : Rat)) (rq_rb (rk x t)) X (tzR LB0 (by omega)) (tzR LB1 (by omega))) ?_;refine jc (.agg #[.bool (rN (s + (((k : Int) : Rat) * (rk x t)))), st (rP (s + (((k : Int) : Rat) * (rk x t)))), st (rD (s + (((k : Int) : Rat) * (rk x t))))]) (fun X hX hF => addG (rN s) (rP s) (rD s) (rN (((k : Int) : Rat) * (rk x t))) (rP (((k : Int) : Rat) * (rk x t))) (rD (((k : Int) : Rat) * (rk x t))) (rq_rb s) (rq_rb (((k : Int) : Rat) * (rk x t))) X (tzR LB2 (by omega)) (tzR LB3 (by omega))) ?_;refine jzb hb fun X3 hX3 hb => ?_;replace hB0 := hB0.bel hX3;replace hB1 := hB1.bel hX3;replace hD5 := hD5.bel hX3;clear hX3;refine osb 38 5 30 g5 38 hD5 [.bool (rN (s + (((k : Int) : Rat) * (rk x t)))), .string ⟨(rP (s + (((k : Int) : Rat) * (rk x t)))).toArray⟩, .string ⟨(rD (s + (((k : Int) : Rat) * (rk x t)))).toArray⟩] info_rat ?_
   intro w1s hR9 hO9 hB9 hs9;have hb := hB9 _ _ hb (by omega);have hB0 := hO9 _ _ _ (by omega) hB0;have hB1 := hO9 _ _ _ (by omega) hB1;have hD5 := hR9;clear hO9 hB9 hR9 hs9
   have HS2 : Hid ((s + (((k : Int) : Rat) * (rk x t))) = mk l (k + 1)) := by
    show _ = _
    rw [HS.out, HX.out, HT.out]
    rfl
   have hs2 : szR (s + (((k : Int) : Rat) * (rk x t))) ((k + 1) * 22 + 1) := (szR_add hs (szR_mul (szR_int hki) (szR_rk x t hxi hti))).mono (by omega);go_upto_region 9 with fail;refine jp ?_;refine jv (.int .i64 ((k + 1 : Nat) : Int)) (exec_add _ _ _ _ (by rfl) (k : Int) 1 ((k + 1 : Nat) : Int) (by rfl) (by rfl) (by omega) (by omega) (by omega)) ?_;refine jm (.int .i64 ((k + 1 : Nat) : Int)) ?_;refine jzb hb fun X4 hX4 hb => ?_;replace hB0 := hB0.bel hX4;replace hB1 := hB1.bel hX4;replace hD5 := hD5.bel hX4;clear hX4
   go_wp2
   go_roundw
   case rel => exact ⟨k + 1, (s + (((k : Int) : Rat) * (rk x t))), by omega, rfl, HS2, hs2, hD5, hB0, hB1, hb⟩
   case measure => simp [intOf]; omega
  ·obtain rfl : k = n := by omega
   have HM : Hid (s = mean l) := by
    show _ = _
    rw [HS.out, ← HLN.out]; exact mk_mean l
   go_upto_region 6 with fail;refine jp ?_;refine jv (.bool false) (exec_lss _ _ _ _ (by rfl) .i64 (k : Int) (k : Int) (by rfl) (by rfl) false (decide_eq_false (by omega))) ?_;refine jzb hb fun X1 hX1 hb => ?_;replace hB0 := hB0.bel hX1;replace hB1 := hB1.bel hX1;replace hD5 := hD5.bel hX1;clear hX1;go_upto_region 10 with fail;refine jq 1 ?_;refine ja hD5 Tryd.underlying38 (by rfl) info_rat ?_;refine jzb hb fun X2 hX2 hb => ?_;replace hB0 := hB0.bel hX2;replace hB1 := hB1.bel hX2;replace hD5 := hD5.bel hX2;clear hX2;refine osb 38 2 32 (w.heap.size + 1) 38 hB1 [.bool (rN s), .string ⟨(rP s).toArray⟩, .string ⟨(rD s).toArray⟩] info_rat ?_;intro w9 hR9 hO9 hB9 hs9;have hb9 := hB9 _ _ hb (by omega);have hB0 := hO9 _ _ _ (by omega) hB0;have hD5 := hO9 _ _ _ (by omega) hD5;clear hO9 hB9
   go_wp2
   refine post_cell2 (v := .int .i64 0) rfl rfl (by rfl) (by rfl) Tryd.underlying38 rfl hR9 info_rat ⟨by rw [HM.out], hb9⟩
end Go.Proofs.YtcpedbpldgndmaaDoor
