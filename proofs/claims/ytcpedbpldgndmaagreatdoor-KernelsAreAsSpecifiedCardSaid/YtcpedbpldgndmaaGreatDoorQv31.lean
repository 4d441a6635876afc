/-
  Layer 31: contracts over values, errors and all.
-/
import Derived.Test.YtcpedbpldgndmaaGreatDoorKy
import Derived.Test.YtcpedbpldgndmaaGreatDoorPl31c
import Derived.Test.YtcpedbpldgndmaaGreatDoorQb31
set_option linter.unusedSimpArgs false
set_option linter.unusedVariables false
set_option maxRecDepth 100000
set_option maxHeartbeats 1600000
namespace Go.Proofs.YtcpedbpldgndmaaGreatDoor
open Go.RowKit
theorem fld_made5 (a b c d : Value) (X : World) : (Instr.field 106 (.agg #[a, b, c, d]) 0).run Tryz.prog X = .ok (.agg #[a, b, c]) X := by kernel_rfl
theorem exec_fldv {P : Program} {f : Operand → Value} {o : Oper} (t : TypeId) (x : Operand) (i : Nat) (ho : o.op = .field t x i) {v r : Value} (hx : f x = v) (X : World) (hr : (Instr.field t v i).run P X = .ok r X) : (execOp f o).run P X = .ok (.value r) X := by
 unfold execOp
 simp only [ho, hx, Sem.run_bind, hr, Result.andThen_ok, Sem.run_pure]
theorem rptC (x t : Int) (w : World) (hx : insB x = true) (ht : insB t = true) (h0 : t ≠ 0) : Calls Tryz.prog 40 #[.int .i64 x, .int .i64 t] w fun e w' => e = .returned (rbv (rk x t)) ∧ Since w w' := by
 go_enter Tryz.func40, Tryz.ntmps40
 go_upto_region 1 with fail;obtain ⟨W0, hW0, hB0, hb⟩ := start1 w 34 [.bool false, .string ⟨#[]⟩, .string ⟨#[]⟩];rw [← hW0];clear hW0;refine jq 4 ?_;refine jm (.int .i64 x) ?_;refine jm (.int .i64 t) ?_;refine jc (.agg #[.bool (rN (rk x t)), st (rP (rk x t)), st (rD (rk x t)), .int .i64 0]) (fun X hX hF => makeS x t X hx ht h0) ?_;refine jv (rt (rN (rk x t)) (rP (rk x t)) (rD (rk x t))) (fun X => exec_fldv _ _ _ (by rfl) (by rfl) X (fld_made5 _ _ _ _ X)) ?_;refine jzb hb fun X1 hX1 hb => ?_;replace hB0 := hB0.bel hX1;clear hX1;refine osb 34 4 8 w.heap.size 34 hB0 [.bool (rN (rk x t)), .string ⟨(rP (rk x t)).toArray⟩, .string ⟨(rD (rk x t)).toArray⟩] info_rat ?_;intro w9 hR9 hO9 hB9 hs9;have hb9 := hB9 _ _ hb (by omega);clear hO9 hB9
 go_wp2
 refine post_cell rfl rfl (by rfl) Tryz.underlying34 rfl hR9 info_rat ⟨rfl, hb9⟩
theorem rme0 (v : Value) (l : List Int) (w : World) (hv : Ks l v w) (HE : Hid (kcE l ≠ 0)) : Calls Tryz.prog 14 #[.agg #[v]] w fun e w' => e = .returned (.agg #[.bool false, .string ⟨#[]⟩, .string ⟨#[]⟩, .int .i64 (kcE l)]) ∧ Since w w' := by
 have HV : Hid (∀ X, Since w X → Ks l v X) := fun X h => Ks.lasts l _ _ _ hv h
 clear hv;obtain ⟨z, z9⟩ : ∃ z, z = kcE l := ⟨_, rfl⟩;have HZ := Lib.hid z9
 have hz0 : z ≠ 0 := by rw [z9]; exact HE.out
 clear z9
 go_enter Tryz.func14, Tryz.ntmps14
 go_upto_region 1 with fail;obtain ⟨W0, hW0, hB0, hB1, hb⟩ := start2 w 24 45 [v] [.bool false, .string ⟨#[]⟩, .string ⟨#[]⟩, .int .i64 0];rw [← hW0];clear hW0;refine jp ?_;refine ja hB0 Tryz.underlying24 (by rfl) info_kn ?_;refine jc (.int .i64 z) (fun X hX hF => mo (rckC _ l X (HV.out X (Since.next hb hX))) (by rw [HZ.out])) ?_;refine jm (.int .i64 z) ?_;refine jzb hb fun X1 hX1 hb => ?_;replace hB0 := hB0.bel hX1;replace hB1 := hB1.bel hX1;clear hX1;go_upto_region 2 with fail;refine jp ?_;refine jm (.int .i64 z) ?_;refine jv (.bool true) (exec_nei _ _ _ _ (by rfl) .i64 z 0 (by rfl) (by rfl) true (by rw [decide_eq_false (by omega)]; rfl)) ?_;refine jzb hb fun X2 hX2 hb => ?_;replace hB0 := hB0.bel hX2;replace hB1 := hB1.bel hX2;clear hX2;go_upto_region 3 with fail;refine jq 2 ?_;refine jm (.int .i64 z) ?_;refine jn (.agg #[.bool false, .string ⟨#[]⟩, .string ⟨#[]⟩, .int .i64 z]) ?_;refine jzb hb fun X3 hX3 hb => ?_;replace hB0 := hB0.bel hX3;replace hB1 := hB1.bel hX3;clear hX3;refine osb 45 2 11 (w.heap.size + 1) 45 hB1 [.bool false, .string ⟨#[]⟩, .string ⟨#[]⟩, .int .i64 z] info_vl31 ?_;intro w9 hR9 hO9 hB9 hs9;have hb9 := hB9 _ _ hb (by omega);have hB0 := hO9 _ _ _ (by omega) hB0;clear hO9 hB9
 go_wp2
 refine post_cell rfl rfl (by rfl) Tryz.underlying45 rfl hR9 info_vl31 ⟨by rw [← HZ.out], hb9⟩
theorem rme1 (v : Value) (l : List Int) (w : World) (hv : Ks l v w) (HK : Hid (Kok l)) : Calls Tryz.prog 14 #[.agg #[v]] w fun e w' => e = .returned (.agg #[.bool (rN (mean l)), .string ⟨(rP (mean l)).toArray⟩, .string ⟨(rD (mean l)).toArray⟩, .int .i64 0]) ∧ Since w w' := by
 have hv' := hv;obtain ⟨A, n, c, rfl, hln, hn1, hr⟩ := hv.at;clear hv
 have HRX : Hid (∀ X, Since w X → Rd X 1 (.slice A n c) n (l.map I64)) := fun X h => hr.below h
 have HLN := Lib.hid hln;have HC : Hid (kcE l = 0) := kcE_ok.2 HK.out;clear hr
 have HV : Hid (∀ X, Since w X → Ks l (.slice A n c) X) := fun X h => Ks.lasts l _ _ _ hv' h
 clear hv'
 go_enter Tryz.func14, Tryz.ntmps14
 go_upto_region 1 with fail;obtain ⟨W0, hW0, hB0, hB1, hb⟩ := start2 w 24 45 [.slice A n c] [.bool false, .string ⟨#[]⟩, .string ⟨#[]⟩, .int .i64 0];rw [← hW0];clear hW0;refine jp ?_;refine ja hB0 Tryz.underlying24 (by rfl) info_kn ?_;refine jc (.int .i64 0) (fun X hX hF => mo (rckC _ l X (HV.out X (Since.next hb hX))) (by rw [HC.out])) ?_;refine jm (.int .i64 0) ?_;refine jzb hb fun X1 hX1 hb => ?_;replace hB0 := hB0.bel hX1;replace hB1 := hB1.bel hX1;clear hX1;go_upto_region 2 with fail;refine jp ?_;refine jm (.int .i64 0) ?_;refine jv (.bool false) (exec_nei _ _ _ _ (by rfl) .i64 0 0 (by rfl) (by rfl) false (by rw [decide_eq_true (by omega)]; rfl)) ?_;refine jzb hb fun X2 hX2 hb => ?_;replace hB0 := hB0.bel hX2;replace hB1 := hB1.bel hX2;clear hX2;go_upto_region 4 with fail;refine jq 1 ?_;refine jn (rz) ?_;refine jzb hb fun X3 hX3 hb => ?_;replace hB0 := hB0.bel hX3;replace hB1 := hB1.bel hX3;clear hX3;go_upto_region 5 with (refine osn 34 4 12 #[.bool false, .string ⟨#[]⟩, .string ⟨#[]⟩] info_rat ?_);obtain ⟨Y3, hY9, hD4, hS9⟩ := start1 X3 34 [.bool false, .string ⟨#[]⟩, .string ⟨#[]⟩];rw [← hY9];clear hY9;have hgs4 := hb.size;have hlt4x0 := hB0.lt;have hlt4x1 := hB1.lt;have hB0 := hB0.bel hS9;have hB1 := hB1.bel hS9;have hb := bel_next hb hS9;clear hS9;generalize X3.heap.size = g4 at *;refine jp ?_;refine jm (.int .i64 0) ?_;refine jzb hb fun X4 hX4 hb => ?_;replace hB0 := hB0.bel hX4;replace hB1 := hB1.bel hX4;replace hD4 := hD4.bel hX4;clear hX4
 have hn4 : n ≤ 400 := by rw [← HLN.out]; exact HK.out.len2
 go_wp2
 go_loopw [5] (fun kv wr => ∃ (k : Nat) (s : Rat), k ≤ n ∧ kv = .int .i64 (k : Int) ∧ Hid (s = mk l k) ∧ szR s (k * 22 + 1) ∧ Blk wr g4 34 [.bool (rN s), .string ⟨(rP s).toArray⟩, .string ⟨(rD s).toArray⟩] ∧ Blk wr w.heap.size 24 [.slice A n c] ∧ Blk wr (w.heap.size + 1) 45 [.bool false, .string ⟨#[]⟩, .string ⟨#[]⟩, .int .i64 0] ∧ Below w.heap.size w wr) (fun kv _ => n - (intOf kv).toNat)
 case atStart => exact ⟨0, 0, by omega, rfl, rfl, szR_zero, hD4, hB0, hB1, hb⟩
 case round =>
  clear hD4 hB0 hB1 hb;obtain ⟨k, s, hk, rfl, HS, hs, hD4, hB0, hB1, hb⟩ := hrel
  rcases Nat.lt_or_ge k n with hlt | hlt
  ·obtain ⟨b, off, rfl, hbb, hcx⟩ := wtIn (HRX.out _ hb) HLN.out hlt
   obtain ⟨x, x9⟩ : ∃ x, x = wt l k := ⟨_, rfl⟩;have HX := Lib.hid x9;clear x9;rw [← HX.out] at hcx
   have hxi : insB x = true := by rw [HX.out]; exact HK.out.insw k
   have hki : insB (k : Int) = true := insB_nn (by omega) (by omega);obtain ⟨t, t9⟩ : ∃ t, t = tot l := ⟨_, rfl⟩;have HT := Lib.hid t9
   have hti : insB t = true := by rw [t9]; exact HK.out.inst
   have ht0 : t ≠ 0 := by rw [t9]; exact HK.out.tne0
   clear t9;have hs9 : szR s 8801 := hs.mono (by omega);have LB0 : szR ((k : Int) : Rat) 7 := szR_int hki;have LB1 : szR (rk x t) 14 := szR_rk x t hxi hti;have LB2 : szR s 8801 := hs9;have LB3 : szR (((k : Int) : Rat) * (rk x t)) 21 := szR_mul LB0 LB1;go_upto_region 6 with fail;refine jp ?_;refine jm (.int .i64 (k : Int)) ?_;refine jn (.pointer (some ⟨w.heap.size, 0, none⟩)) ?_;refine jf (.slice (some ⟨b, off, none⟩) n c) hB0 0 load_ints ?_;refine jv (.int .i64 (n : Int)) (exec_lenv Tryz.underlying22 _ (by rfl) (some ⟨b, off, none⟩) n c (by rfl) _ rfl) ?_;refine jv (.bool true) (exec_lss _ _ _ _ (by rfl) .i64 (k : Int) (n : Int) (by rfl) (by rfl) true (decide_eq_true (by omega))) ?_;refine jzb hb fun X1 hX1 hb => ?_;replace hB0 := hB0.bel hX1;replace hB1 := hB1.bel hX1;replace hD4 := hD4.bel hX1;have hcx := hcx.below hX1 hbb;replace hbb := Nat.lt_of_lt_of_le hbb (hX1).size;clear hX1;go_upto_region 8 with fail;refine lx_region_tail [] (by kernel_rfl) (by kernel_rfl) (by kernel_rfl) rfl (lasts_nil) ?_;simp only [its, List.dropLast, Nat.zero_add, Nat.reduceAdd];refine ja hD4 Tryz.underlying34 (by rfl) info_rat ?_;refine jm (.int .i64 (k : Int)) ?_;refine jc (rt (rN ((k : Int) : Rat)) (rP ((k : Int) : Rat)) (rD ((k : Int) : Rat))) (fun X hX hF => intS ((k : Int)) X hki) ?_;refine jn (.pointer (some ⟨w.heap.size, 0, none⟩)) ?_;refine jf (.slice (some ⟨b, off, none⟩) n c) hB0 0 load_ints ?_;refine jm (.int .i64 (k : Int)) ?_;refine jv (.pointer (some ⟨b, off + k * 1, none⟩)) (exec_ixv Tryz.underlying22 info_i1 _ _ (by rfl) b (off) n c k (by omega) (by rfl) (by rfl) rfl) ?_
   refine jg (.int .i64 x) (fun X hX hF => exec_ld 3 _ (by rfl) b (off + k * 1) (by rfl) _ X ((hcx.below hX hbb) 0 _ rfl) (fun X u h => load_int b (off + k * 1) X u h)) ?_;refine jn (.pointer (some ⟨w.heap.size, 0, none⟩)) ?_;refine jf (.slice (some ⟨b, off, none⟩) n c) hB0 0 load_ints ?_;refine jc (.int .i64 t) (fun X hX hF => mo (rsmK _ l X (HV.out X (Since.next hb hX)) HK.out) (by rw [HT.out])) ?_;refine jc (rt (rN (rk x t)) (rP (rk x t)) (rD (rk x t))) (fun X hX hF => rptC x t X hxi hti ht0) ?_;refine jc (.agg #[.bool (rN (((k : Int) : Rat) * (rk x t))), st (rP (((k : Int) : Rat) * (rk x t))), st (rD (((k : Int) : Rat) * (rk x t)))]) (fun X hX hF => mulS (rN ((k : Int) : Rat)) (rP ((k : Int) : Rat)) (rD ((k : Int) : Rat)) (rN (rk x t)) (rP (rk x t)) (rD (rk x t)) (rq_rb ((k : Int) : Rat)) (rq_rb (rk x t)) X (tzR LB0 (by omega)) (tzR LB1 (by omega))) ?_;refine jc (.agg #[.bool (rN (s + (((k : Int) : Rat) * (rk x t)))), st (rP (s + (((k : Int) : Rat) * (rk x t)))), st (rD (s + (((k : Int) : Rat) * (rk x t))))]) (fun X hX hF => addS (rN s) (rP s) (rD s) (rN (((k : Int) : Rat) * (rk x t))) (rP (((k : Int) : Rat) * (rk x t))) (rD (((k : Int) : Rat) * (rk x t))) (rq_rb s) (rq_rb (((k : Int) : Rat) * (rk x t))) X (tzR LB2 (by omega)) (tzR LB3 (by omega))) ?_;refine jzb hb fun X2 hX2 hb => ?_;replace hB0 := hB0.bel hX2;replace hB1 := hB1.bel hX2;replace hD4 := hD4.bel hX2;have hcx := hcx.below hX2 hbb;replace hbb := Nat.lt_of_lt_of_le hbb (hX2).size;clear hX2;refine osb 34 4 33 g4 34 hD4 [.bool (rN (s + (((k : Int) : Rat) * (rk x t)))), .string ⟨(rP (s + (((k : Int) : Rat) * (rk x t)))).toArray⟩, .string ⟨(rD (s + (((k : Int) : Rat) * (rk x t)))).toArray⟩] info_rat ?_
   intro w1s hR9 hO9 hB9 hs9;have hb := hB9 _ _ hb (by omega);have hB0 := hO9 _ _ _ (by omega) hB0;have hB1 := hO9 _ _ _ (by omega) hB1;have hD4 := hR9;clear hO9 hB9 hR9 hs9
   have HS2 : Hid ((s + (((k : Int) : Rat) * (rk x t))) = mk l (k + 1)) := by
    show _ = _
    rw [HS.out, HX.out, HT.out]
    rfl
   have hs2 : szR (s + (((k : Int) : Rat) * (rk x t))) ((k + 1) * 22 + 1) := (szR_add hs (szR_mul (szR_int hki) (szR_rk x t hxi hti))).mono (by omega);go_upto_region 7 with fail;refine jp ?_;refine jm (.int .i64 (k : Int)) ?_;refine jv (.int .i64 ((k + 1 : Nat) : Int)) (exec_add _ _ _ _ (by rfl) (k : Int) 1 ((k + 1 : Nat) : Int) (by rfl) (by rfl) (by omega) (by omega) (by omega)) ?_;refine jm (.int .i64 ((k + 1 : Nat) : Int)) ?_;refine jzb hb fun X3 hX3 hb => ?_;replace hB0 := hB0.bel hX3;replace hB1 := hB1.bel hX3;replace hD4 := hD4.bel hX3;clear hX3
   go_wp2
   go_roundw
   case rel => exact ⟨k + 1, (s + (((k : Int) : Rat) * (rk x t))), by omega, rfl, HS2, hs2, hD4, hB0, hB1, hb⟩
   case measure => simp [intOf]; omega
  ·obtain rfl : k = n := by omega
   have HM : Hid (s = mean l) := by
    show _ = _
    rw [HS.out, ← HLN.out]; exact mk_mean l
   go_upto_region 6 with fail;refine jp ?_;refine jm (.int .i64 (k : Int)) ?_;refine jn (.pointer (some ⟨w.heap.size, 0, none⟩)) ?_;refine jf (.slice A k c) hB0 0 load_ints ?_;refine jv (.int .i64 (k : Int)) (exec_lenv Tryz.underlying22 _ (by rfl) A k c (by rfl) _ rfl) ?_;refine jv (.bool false) (exec_lss _ _ _ _ (by rfl) .i64 (k : Int) (k : Int) (by rfl) (by rfl) false (decide_eq_false (by omega))) ?_;refine jzb hb fun X1 hX1 hb => ?_;replace hB0 := hB0.bel hX1;replace hB1 := hB1.bel hX1;replace hD4 := hD4.bel hX1;clear hX1;go_upto_region 9 with fail;refine jq 2 ?_;refine ja hD4 Tryz.underlying34 (by rfl) info_rat ?_;refine jn (.agg #[.bool (rN s), st (rP s), st (rD s), .int .i64 0]) ?_;refine jzb hb fun X2 hX2 hb => ?_;replace hB0 := hB0.bel hX2;replace hB1 := hB1.bel hX2;replace hD4 := hD4.bel hX2;clear hX2;refine osb 45 2 35 (w.heap.size + 1) 45 hB1 [.bool (rN s), .string ⟨(rP s).toArray⟩, .string ⟨(rD s).toArray⟩, .int .i64 0] info_vl31 ?_;intro w9 hR9 hO9 hB9 hs9;have hb9 := hB9 _ _ hb (by omega);have hB0 := hO9 _ _ _ (by omega) hB0;have hD4 := hO9 _ _ _ (by omega) hD4;clear hO9 hB9
   go_wp2
   refine post_cell rfl rfl (by rfl) Tryz.underlying45 rfl hR9 info_vl31 ⟨by rw [HM.out], hb9⟩
end Go.Proofs.YtcpedbpldgndmaaGreatDoor
namespace Go.Proofs.YtcpedbpldgndmaaGreatDoor
open Go.RowKit
/-- A tick's weight is joined to the last part. -/
def arX (P : List Wp) (tick : Nat) (x : Int) : Prop := 0 < P.length ∧ (pw P (P.length - 1)).2.1 = tick ∧ (pw P (P.length - 1)).2.2 = x
instance (P : List Wp) (tick : Nat) (x : Int) : Decidable (arX P tick x) := by unfold arX; exact inferInstance
end Go.Proofs.YtcpedbpldgndmaaGreatDoor
namespace Go.Proofs.YtcpedbpldgndmaaGreatDoor
open Go.RowKit
/-- A struct of a value with a law and an error. -/
def Sv (L : Value → World → Prop) (e : Int) (v : Value) (X : World) : Prop := ∃ u, v = .agg #[u, .int .i64 e] ∧ L u X
theorem Sv.lasts {L : Value → World → Prop} (hL : Lasts L) (e : Int) : Lasts (Sv L e) := by
 rintro v X Y ⟨u, h1, h2⟩ hS
 exact ⟨u, h1, hL _ _ _ h2 hS⟩
def dlE (t : Int) : Int := if t < 0 ∨ 400 ≤ t then 3 else 0
def dlL (t : Int) : List Int := if t < 0 ∨ 400 ≤ t then [] else dly t.toNat
theorem rckV (v : Value) (l : List Int) (w : World) (h : Kn l v w) {E : Int} (hE : kcE l = E) : Calls Tryz.prog 16 #[v] w fun e w' => e = .returned (.int .i64 E) ∧ Since w w' := by
 obtain ⟨u, rfl, hu⟩ := h;subst hE;exact rckC u l w hu
theorem ttlU (v : Value) (l : List Int) (w : World) (h : Kn l v w) {a z : Int} (ha : totE l = a) (hz : kcE l = z) : Calls Tryz.prog 7 #[v] w fun e w' => e = .returned (.tuple #[.int .i64 a, .int .i64 z]) ∧ Since w w' := by
 obtain ⟨u, rfl, hu⟩ := h;subst ha hz
 by_cases hc : kcE l = 0
 ·have hk := kcE_ok.1 hc
  rw [show totE l = tot l from if_pos hc, hc];exact ttl1 u l w hu hk
 ·rw [show totE l = 0 from if_neg hc]
  exact ttl0 u l w hu hc
theorem rttlU (v : Value) (l : List Int) (w : World) (h : Kn l v w) {a z : Int} (ha : totE l = a) (hz : kcE l = z) : Calls Tryz.prog 11 #[v] w fun e w' => e = .returned (.agg #[.int .i64 a, .int .i64 z]) ∧ Since w w' := by
 obtain ⟨u, rfl, hu⟩ := h;subst ha hz
 by_cases hc : kcE l = 0
 ·have hk := kcE_ok.1 hc
  rw [show totE l = tot l from if_pos hc, hc];exact rtt1 u l w hu hk
 ·rw [show totE l = 0 from if_neg hc]
  exact rtt0 u l w hu hc
theorem meaU (v : Value) (l : List Int) (w : World) (h : Kn l v w) {m : Rat} {z : Int} (ha : meanE l = m) (hz : kcE l = z) : Calls Tryz.prog 10 #[v] w fun e w' => e = .returned (.tuple #[.agg #[.bool (rN m), .string ⟨(rP m).toArray⟩, .string ⟨(rD m).toArray⟩], .int .i64 z]) ∧ Since w w' := by
 obtain ⟨u, rfl, hu⟩ := h;subst ha hz
 by_cases hc : kcE l = 0
 ·have hk := kcE_ok.1 hc
  rw [show meanE l = mean l from if_pos hc, hc];exact mea1 u l w hu hk
 ·rw [show meanE l = 0 from if_neg hc]
  exact mea0 u l w hu hc
theorem rmeaU (v : Value) (l : List Int) (w : World) (h : Kn l v w) {m : Rat} {z : Int} (ha : meanE l = m) (hz : kcE l = z) : Calls Tryz.prog 14 #[v] w fun e w' => e = .returned (.agg #[.bool (rN m), .string ⟨(rP m).toArray⟩, .string ⟨(rD m).toArray⟩, .int .i64 z]) ∧ Since w w' := by
 obtain ⟨u, rfl, hu⟩ := h;subst ha hz
 by_cases hc : kcE l = 0
 ·have hk := kcE_ok.1 hc
  rw [show meanE l = mean l from if_pos hc, hc];exact rme1 u l w hu hk
 ·rw [show meanE l = 0 from if_neg hc]
  exact rme0 u l w hu hc
theorem rduU (v : Value) (l : List Int) (w : World) (h : Kn l v w) {z : Int} (hz : kcE l = z) : Calls Tryz.prog 8 #[v] w fun e w' => ∃ v', e = .returned v' ∧ Tp (Kn (redE l)) z v' w' ∧ Since w w' := by
 obtain ⟨u, rfl, hu⟩ := h;subst hz
 by_cases hc : kcE l = 0
 ·have hk := kcE_ok.1 hc
  rw [show redE l = red l from if_pos hc, hc]
  exact (rdu1 u l w hu hk).mono fun e w' ⟨v', h1, h2, h3⟩ => ⟨_, h1, ⟨_, rfl, ⟨_, rfl, h2.ks⟩⟩, h3⟩
 ·rw [show redE l = [] from if_neg hc]
  exact (rdu0 u l w hu hc).mono fun e w' ⟨h1, h3⟩ => ⟨_, h1, ⟨_, rfl, ⟨_, rfl, ks_nil w'⟩⟩, h3⟩
theorem rrduU (v : Value) (l : List Int) (w : World) (h : Kn l v w) {z : Int} (hz : kcE l = z) : Calls Tryz.prog 12 #[v] w fun e w' => ∃ v', e = .returned v' ∧ Sv (Ks (redE l)) z v' w' ∧ Since w w' := by
 obtain ⟨u, rfl, hu⟩ := h;subst hz
 by_cases hc : kcE l = 0
 ·have hk := kcE_ok.1 hc
  rw [show redE l = red l from if_pos hc, hc]
  exact (rre1 u l w hu hk).mono fun e w' ⟨v', h1, h2, h3⟩ => ⟨_, h1, ⟨_, rfl, h2.ks⟩, h3⟩
 ·rw [show redE l = [] from if_neg hc]
  exact (rre0 u l w hu hc).mono fun e w' ⟨h1, h3⟩ => ⟨_, h1, ⟨_, rfl, ks_nil w'⟩, h3⟩
theorem dlyU (t : Int) (w : World) {z : Int} (hz : dlE t = z) : Calls Tryz.prog 9 #[.int .i64 t] w fun e w' => ∃ v', e = .returned v' ∧ Tp (Kn (dlL t)) z v' w' ∧ Since w w' := by
 subst hz
 rcases (show t < 0 ∨ 400 ≤ t ∨ (0 ≤ t ∧ t < 400) by omega) with h | h | h
 ·rw [show dlE t = 3 from if_pos (.inl h), show dlL t = [] from if_pos (.inl h)]
  exact (dly0 t w h).mono fun e w' ⟨h1, h3⟩ => ⟨_, h1, ⟨_, rfl, ⟨_, rfl, ks_nil w'⟩⟩, h3⟩
 ·rw [show dlE t = 3 from if_pos (.inr h), show dlL t = [] from if_pos (.inr h)]
  exact (dly1 t w h).mono fun e w' ⟨h1, h3⟩ => ⟨_, h1, ⟨_, rfl, ⟨_, rfl, ks_nil w'⟩⟩, h3⟩
 ·obtain ⟨k, rfl⟩ : ∃ k : Nat, t = (k : Int) := ⟨t.toNat, by omega⟩
  rw [show dlE (k : Int) = 0 from if_neg (by omega), show dlL (k : Int) = dly k from (if_neg (by omega)).trans (by rw [Int.toNat_natCast])]
  exact (dly2 k w (by omega)).mono fun e w' ⟨v', h1, h2, h3⟩ => ⟨_, h1, ⟨_, rfl, ⟨_, rfl, h2.ks⟩⟩, h3⟩
theorem rdlyU (t : Int) (w : World) {z : Int} (hz : dlE t = z) : Calls Tryz.prog 13 #[.int .i64 t] w fun e w' => ∃ v', e = .returned v' ∧ Sv (Ks (dlL t)) z v' w' ∧ Since w w' := by
 subst hz
 rcases (show t < 0 ∨ 400 ≤ t ∨ (0 ≤ t ∧ t < 400) by omega) with h | h | h
 ·rw [show dlE t = 3 from if_pos (.inl h), show dlL t = [] from if_pos (.inl h)]
  exact (rdl0 t w h).mono fun e w' ⟨h1, h3⟩ => ⟨_, h1, ⟨_, rfl, ks_nil w'⟩, h3⟩
 ·rw [show dlE t = 3 from if_pos (.inr h), show dlL t = [] from if_pos (.inr h)]
  exact (rdl1 t w h).mono fun e w' ⟨h1, h3⟩ => ⟨_, h1, ⟨_, rfl, ks_nil w'⟩, h3⟩
 ·obtain ⟨k, rfl⟩ : ∃ k : Nat, t = (k : Int) := ⟨t.toNat, by omega⟩
  rw [show dlE (k : Int) = 0 from if_neg (by omega), show dlL (k : Int) = dly k from (if_neg (by omega)).trans (by rw [Int.toNat_natCast])]
  exact (rdl2 k w (by omega)).mono fun e w' ⟨v', h1, h2, h3⟩ => ⟨_, h1, ⟨_, rfl, h2.ks⟩, h3⟩
end Go.Proofs.YtcpedbpldgndmaaGreatDoor
