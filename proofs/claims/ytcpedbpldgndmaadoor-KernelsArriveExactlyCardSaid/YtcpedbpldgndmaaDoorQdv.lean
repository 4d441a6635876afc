/-
  rat: Div, Cmp, Min, Max.
-/
import Derived.Test.YtcpedbpldgndmaaDoorRw2
set_option linter.unusedSimpArgs false
set_option linter.unusedVariables false
set_option maxRecDepth 100000
set_option maxHeartbeats 1600000
namespace Go.Proofs.YtcpedbpldgndmaaDoor
open Go.RowKit
theorem num_zero (x : Rat) : x.num.natAbs = 0 ↔ x = 0 := by
 constructor
 ·intro h
  have h1 : x.num = 0 := by omega
  have := Rat.mkRat_self x;rw [h1] at this;rw [← this]
  simp
 ·intro h
  rw [h]
  rfl
theorem cmpE (n : Bool) (p q : List UInt8) (n' : Bool) (p' q' : List UInt8) (w : World) (hp : p.length ≤ 1000000) (hq : q.length ≤ 1000000) (hp' : p'.length ≤ 1000000) (hq' : q'.length ≤ 1000000) (h : (rq n p q) = (rq n' p' q')) : Calls Tryd.prog 26 #[.agg #[.bool n, .string ⟨p.toArray⟩, .string ⟨q.toArray⟩], .agg #[.bool n', .string ⟨p'.toArray⟩, .string ⟨q'.toArray⟩]] w fun e w' => e = .returned (.int .i64 (cmpR (rq n p q) (rq n' p' q'))) ∧ Since w w' := by
 have HC : Hid (cmpR (rq n p q) (rq n' p' q') = 0) := by unfold cmpR; exact if_pos h
 have HXY := Lib.hid h;clear h
 go_enter Tryd.func26, Tryd.ntmps26
 go_upto_region 1 with fail;obtain ⟨W0, hW0, hB0, hB1, hb⟩ := start2 w 38 38 [.bool n, .string ⟨p.toArray⟩, .string ⟨q.toArray⟩] [.bool n', .string ⟨p'.toArray⟩, .string ⟨q'.toArray⟩];rw [← hW0];clear hW0;have hbW := hb.size;refine lx_region_tail [none, none, none, none, some (IsF ((rq n p q) - (rq n' p' q')) 2000001), some (NewB 73 W0.heap.size)] (by kernel_rfl) (by kernel_rfl) (by kernel_rfl) rfl (lasts_none (lasts_none (lasts_none (lasts_none (lasts_some (IsF.lasts _ _) (lasts_some (NewB.lasts _ _) (lasts_nil))))))) ?_;simp only [its, List.dropLast, Nat.zero_add, Nat.reduceAdd];refine ja hB0 Tryd.underlying38 (by rfl) info_rat ?_;refine jc (rt (rN (rq n p q)) (be (rq n p q).num.natAbs) (be (rq n p q).den)) (fun X hX hF => ofQ n p q X (by omega) (by omega)) ?_;refine ja hB1 Tryd.underlying38 (by rfl) info_rat ?_;refine jc (rt (rN (rq (n') p' q')) (be (rq (n') p' q').num.natAbs) (be (rq (n') p' q').den)) (fun X hX hF => ofQ (n') p' q' X (by omega) (by omega)) ?_;refine jk (fun X hX hF => lessQ _ _ 1000000 1000000 _ _ X (isF_of n p q hp hq (by omega) X) (isF_of n' p' q' hp' hq' (by omega) X) (by omega)) ?_;intro v10;refine lx_new (by rfl) (fun X hX hF => ⟨_, _, exec_alloc_fr (by rfl) X, ⟨X.heap.size, rfl, hX.size, Blk.new rfl⟩, since_alloc X _⟩) ?_;intro v5;simp only [pX];refine lx_nil ?_;intro X1 hX1 hF;have hv10 := hF _ _ (List.mem_cons_of_mem _ List.mem_cons_self);have hv5 := hF _ _ List.mem_cons_self;have hB0 := hB0.bel hX1;have hB1 := hB1.bel hX1;have hb := bel_next hb hX1
 clear hF hX1;obtain ⟨s, t, u, rfl, k1, k2, k3, k4⟩ := hv10;obtain ⟨g5, rfl, hg5, hD⟩ := hv5;have hlt := hB1.lt;refine osb 73 5 10 g5 73 hD [.bool s, .string ⟨(be t).toArray⟩, .string ⟨(be u).toArray⟩] info_fr ?_;intro w5 hR5 hO5 hB5 hs5;have hW0 := hbW;have hb := hB5 _ _ hb (by omega);clear hD hB0 hB1 hO5 hB5;have hD := hR5;clear hR5;have HK2 := Lib.hid k2;clear k2
 have HE : Hid (be t = []) := be_nil.2 (by
  have h9 := HK2.out;rw [HXY.out, sub_zero_iff.2 rfl, Rat.mkRat_eq_zero (by omega), sg_zero] at h9
  exact h9)
 go_upto_region 2 with fail;refine jp ?_;refine jn (.pointer (some ⟨g5, 1, none⟩)) ?_;refine jf (st (be t)) hD 1 load_str ?_;refine jv (.bool true) (exec_eqsB _ _ _ _ (by rfl) (be t) ([] : List UInt8) (by rfl) (by rfl) true (eqs_t HE.out)) ?_;refine jm (.bool true) ?_;refine jzb hb fun X2 hX2 hb => ?_;have hD := hD.bel hX2;clear hX2
 go_wp2
 go_ret
 exact ⟨by rw [HC.out]; rfl, hb⟩
theorem cmpL (n : Bool) (p q : List UInt8) (n' : Bool) (p' q' : List UInt8) (w : World) (hp : p.length ≤ 1000000) (hq : q.length ≤ 1000000) (hp' : p'.length ≤ 1000000) (hq' : q'.length ≤ 1000000) (h : (rq n p q) ≠ (rq n' p' q')) (hl : (rq n p q) < (rq n' p' q')) : Calls Tryd.prog 26 #[.agg #[.bool n, .string ⟨p.toArray⟩, .string ⟨q.toArray⟩], .agg #[.bool n', .string ⟨p'.toArray⟩, .string ⟨q'.toArray⟩]] w fun e w' => e = .returned (.int .i64 (cmpR (rq n p q) (rq n' p' q'))) ∧ Since w w' := by
 have HC : Hid (cmpR (rq n p q) (rq n' p' q') = -1) := by show _ = _; unfold cmpR; rw [if_neg h, if_pos hl]
 have HNE : Hid ((rq n p q) ≠ (rq n' p' q')) := h;have HLT : Hid ((rq n p q) < (rq n' p' q')) := hl;clear h hl
 go_enter Tryd.func26, Tryd.ntmps26
 go_upto_region 1 with fail;obtain ⟨W0, hW0, hB0, hB1, hb⟩ := start2 w 38 38 [.bool n, .string ⟨p.toArray⟩, .string ⟨q.toArray⟩] [.bool n', .string ⟨p'.toArray⟩, .string ⟨q'.toArray⟩];rw [← hW0];clear hW0;have hbW := hb.size;refine lx_region_tail [none, none, none, none, some (IsF ((rq n p q) - (rq n' p' q')) 2000001), some (NewB 73 W0.heap.size)] (by kernel_rfl) (by kernel_rfl) (by kernel_rfl) rfl (lasts_none (lasts_none (lasts_none (lasts_none (lasts_some (IsF.lasts _ _) (lasts_some (NewB.lasts _ _) (lasts_nil))))))) ?_;simp only [its, List.dropLast, Nat.zero_add, Nat.reduceAdd];refine ja hB0 Tryd.underlying38 (by rfl) info_rat ?_;refine jc (rt (rN (rq n p q)) (be (rq n p q).num.natAbs) (be (rq n p q).den)) (fun X hX hF => ofQ n p q X (by omega) (by omega)) ?_;refine ja hB1 Tryd.underlying38 (by rfl) info_rat ?_;refine jc (rt (rN (rq (n') p' q')) (be (rq (n') p' q').num.natAbs) (be (rq (n') p' q').den)) (fun X hX hF => ofQ (n') p' q' X (by omega) (by omega)) ?_;refine jk (fun X hX hF => lessQ _ _ 1000000 1000000 _ _ X (isF_of n p q hp hq (by omega) X) (isF_of n' p' q' hp' hq' (by omega) X) (by omega)) ?_;intro v10;refine lx_new (by rfl) (fun X hX hF => ⟨_, _, exec_alloc_fr (by rfl) X, ⟨X.heap.size, rfl, hX.size, Blk.new rfl⟩, since_alloc X _⟩) ?_;intro v5;simp only [pX];refine lx_nil ?_;intro X1 hX1 hF;have hv10 := hF _ _ (List.mem_cons_of_mem _ List.mem_cons_self);have hv5 := hF _ _ List.mem_cons_self;have hB0 := hB0.bel hX1;have hB1 := hB1.bel hX1;have hb := bel_next hb hX1
 clear hF hX1;obtain ⟨s, t, u, rfl, k1, k2, k3, k4⟩ := hv10;obtain ⟨g5, rfl, hg5, hD⟩ := hv5;have hlt := hB1.lt;refine osb 73 5 10 g5 73 hD [.bool s, .string ⟨(be t).toArray⟩, .string ⟨(be u).toArray⟩] info_fr ?_;intro w5 hR5 hO5 hB5 hs5;have hW0 := hbW;have hb := hB5 _ _ hb (by omega);clear hD hB0 hB1 hO5 hB5;have hD := hR5;clear hR5;have HK2 := Lib.hid k2;clear k2
 have ht0 : 0 < t := by
  rcases Nat.eq_zero_or_pos t with h9 | h9
  ·exfalso
   have h8 := HK2.out;rw [h9, low_zero] at h8;exact HNE.out (sub_zero_iff.1 h8.symm)
  ·exact h9
 have HE : Hid (be t ≠ []) := be_ne ht0
 have hs : s = true := by
  have h8 := mk_neg s ht0 k1;rw [HK2.out, sub_neg] at h8
  rcases s with _ | _
  ·exact absurd (h8.1 HLT.out) (by decide)
  ·rfl
 subst hs;go_upto_region 2 with fail;refine jp ?_;refine jn (.pointer (some ⟨g5, 1, none⟩)) ?_;refine jf (st (be t)) hD 1 load_str ?_;refine jv (.bool false) (exec_eqsB _ _ _ _ (by rfl) (be t) ([] : List UInt8) (by rfl) (by rfl) false (eqs_f HE.out)) ?_;refine jm (.bool false) ?_;refine jzb hb fun X2 hX2 hb => ?_;have hD := hD.bel hX2;clear hX2;go_upto_region 4 with fail;refine jp ?_;refine jn (.pointer (some ⟨g5, 0, none⟩)) ?_;refine jf (.bool true) hD 0 load_bool ?_;refine jm (.bool true) ?_;refine jzb hb fun X3 hX3 hb => ?_;have hD := hD.bel hX3;clear hX3
 go_wp2
 go_ret
 exact ⟨by rw [HC.out]; rfl, hb⟩
theorem cmpG (n : Bool) (p q : List UInt8) (n' : Bool) (p' q' : List UInt8) (w : World) (hp : p.length ≤ 1000000) (hq : q.length ≤ 1000000) (hp' : p'.length ≤ 1000000) (hq' : q'.length ≤ 1000000) (h : (rq n p q) ≠ (rq n' p' q')) (hl : ¬ (rq n p q) < (rq n' p' q')) : Calls Tryd.prog 26 #[.agg #[.bool n, .string ⟨p.toArray⟩, .string ⟨q.toArray⟩], .agg #[.bool n', .string ⟨p'.toArray⟩, .string ⟨q'.toArray⟩]] w fun e w' => e = .returned (.int .i64 (cmpR (rq n p q) (rq n' p' q'))) ∧ Since w w' := by
 have HC : Hid (cmpR (rq n p q) (rq n' p' q') = 1) := by show _ = _; unfold cmpR; rw [if_neg h, if_neg hl]
 have HNE : Hid ((rq n p q) ≠ (rq n' p' q')) := h;have HLT : Hid (¬ (rq n p q) < (rq n' p' q')) := hl;clear h hl
 go_enter Tryd.func26, Tryd.ntmps26
 go_upto_region 1 with fail;obtain ⟨W0, hW0, hB0, hB1, hb⟩ := start2 w 38 38 [.bool n, .string ⟨p.toArray⟩, .string ⟨q.toArray⟩] [.bool n', .string ⟨p'.toArray⟩, .string ⟨q'.toArray⟩];rw [← hW0];clear hW0;have hbW := hb.size;refine lx_region_tail [none, none, none, none, some (IsF ((rq n p q) - (rq n' p' q')) 2000001), some (NewB 73 W0.heap.size)] (by kernel_rfl) (by kernel_rfl) (by kernel_rfl) rfl (lasts_none (lasts_none (lasts_none (lasts_none (lasts_some (IsF.lasts _ _) (lasts_some (NewB.lasts _ _) (lasts_nil))))))) ?_;simp only [its, List.dropLast, Nat.zero_add, Nat.reduceAdd];refine ja hB0 Tryd.underlying38 (by rfl) info_rat ?_;refine jc (rt (rN (rq n p q)) (be (rq n p q).num.natAbs) (be (rq n p q).den)) (fun X hX hF => ofQ n p q X (by omega) (by omega)) ?_;refine ja hB1 Tryd.underlying38 (by rfl) info_rat ?_;refine jc (rt (rN (rq (n') p' q')) (be (rq (n') p' q').num.natAbs) (be (rq (n') p' q').den)) (fun X hX hF => ofQ (n') p' q' X (by omega) (by omega)) ?_;refine jk (fun X hX hF => lessQ _ _ 1000000 1000000 _ _ X (isF_of n p q hp hq (by omega) X) (isF_of n' p' q' hp' hq' (by omega) X) (by omega)) ?_;intro v10;refine lx_new (by rfl) (fun X hX hF => ⟨_, _, exec_alloc_fr (by rfl) X, ⟨X.heap.size, rfl, hX.size, Blk.new rfl⟩, since_alloc X _⟩) ?_;intro v5;simp only [pX];refine lx_nil ?_;intro X1 hX1 hF;have hv10 := hF _ _ (List.mem_cons_of_mem _ List.mem_cons_self);have hv5 := hF _ _ List.mem_cons_self;have hB0 := hB0.bel hX1;have hB1 := hB1.bel hX1;have hb := bel_next hb hX1
 clear hF hX1;obtain ⟨s, t, u, rfl, k1, k2, k3, k4⟩ := hv10;obtain ⟨g5, rfl, hg5, hD⟩ := hv5;have hlt := hB1.lt;refine osb 73 5 10 g5 73 hD [.bool s, .string ⟨(be t).toArray⟩, .string ⟨(be u).toArray⟩] info_fr ?_;intro w5 hR5 hO5 hB5 hs5;have hW0 := hbW;have hb := hB5 _ _ hb (by omega);clear hD hB0 hB1 hO5 hB5;have hD := hR5;clear hR5;have HK2 := Lib.hid k2;clear k2
 have ht0 : 0 < t := by
  rcases Nat.eq_zero_or_pos t with h9 | h9
  ·exfalso
   have h8 := HK2.out;rw [h9, low_zero] at h8;exact HNE.out (sub_zero_iff.1 h8.symm)
  ·exact h9
 have HE : Hid (be t ≠ []) := be_ne ht0
 have hs : s = false := by
  have h8 := mk_neg s ht0 k1;rw [HK2.out, sub_neg] at h8
  rcases s with _ | _
  ·rfl
  ·exact absurd (h8.2 rfl) HLT.out
 subst hs;go_upto_region 2 with fail;refine jp ?_;refine jn (.pointer (some ⟨g5, 1, none⟩)) ?_;refine jf (st (be t)) hD 1 load_str ?_;refine jv (.bool false) (exec_eqsB _ _ _ _ (by rfl) (be t) ([] : List UInt8) (by rfl) (by rfl) false (eqs_f HE.out)) ?_;refine jm (.bool false) ?_;refine jzb hb fun X2 hX2 hb => ?_;have hD := hD.bel hX2;clear hX2;go_upto_region 4 with fail;refine jp ?_;refine jn (.pointer (some ⟨g5, 0, none⟩)) ?_;refine jf (.bool false) hD 0 load_bool ?_;refine jm (.bool false) ?_;refine jzb hb fun X3 hX3 hb => ?_;have hD := hD.bel hX3;clear hX3
 go_wp2
 go_ret
 exact ⟨by rw [HC.out]; rfl, hb⟩
theorem cmpQ (n : Bool) (p q : List UInt8) (n' : Bool) (p' q' : List UInt8) (w : World) (hp : p.length ≤ 1000000) (hq : q.length ≤ 1000000) (hp' : p'.length ≤ 1000000) (hq' : q'.length ≤ 1000000) : Calls Tryd.prog 26 #[.agg #[.bool n, .string ⟨p.toArray⟩, .string ⟨q.toArray⟩], .agg #[.bool n', .string ⟨p'.toArray⟩, .string ⟨q'.toArray⟩]] w fun e w' => e = .returned (.int .i64 (cmpR (rq n p q) (rq n' p' q'))) ∧ Since w w' := by
 by_cases h : (rq n p q) = (rq n' p' q')
 ·exact cmpE n p q n' p' q' w hp hq hp' hq' h
 ·by_cases hl : (rq n p q) < (rq n' p' q')
  ·exact cmpL n p q n' p' q' w hp hq hp' hq' h hl
  ·exact cmpG n p q n' p' q' w hp hq hp' hq' h hl
end Go.Proofs.YtcpedbpldgndmaaDoor
