/-
  kernel: Compose.
-/
import Derived.Test.YtcpedbpldgndmaaDoorKc
set_option linter.unusedSimpArgs false
set_option linter.unusedVariables false
set_option maxRecDepth 100000
set_option maxHeartbeats 1600000
namespace Go.Proofs.YtcpedbpldgndmaaDoor
open Go.RowKit
/-- 's[i:j:k]' of a slice. -/
theorem exec_sl3 {P : Program} {f : Operand → Value} {o : Oper} {t e : TypeId} (hu : P.underlying t = some (.slice e)) (hs : (P.info? e).map (·.size) = some 1) (x lo hi mx : Operand) (ho : o.op = .slice t x (some lo) (some hi) (some mx)) (b n c i j : Nat) (hij : i < j) (hj : j ≤ c) (hx : f x = .slice (some ⟨b, 0, none⟩) n c)
  {z z2 z3 : Int} (hl : f lo = .int .i64 z) (hh : f hi = .int .i64 z2) (hm : f mx = .int .i64 z3) (hz : z = (i : Int)) (hz2 : z2 = (j : Int)) (hz3 : z3 = (j : Int)) (w : World) :
  (execOp f o).run P w = .ok (.value (.slice (some ⟨b, i, none⟩) (j - i) (j - i))) w := by
 subst hz hz2 hz3
 unfold execOp
 simp only [ho, hx, hl, hh, hm, Option.map]
 cases hq : P.info? e with
 | none => simp [hq] at hs
 | some q =>
  have hs1 : q.size = 1 := by simpa [hq] using hs
  have h1 : (0 : Int) ≤ (j : Int) ∧ (j : Int) ≤ (c : Int) := ⟨by omega, by omega⟩;have h2 : (0 : Int) ≤ (j : Int) ∧ (j : Int) ≤ (j : Int) := ⟨by omega, by omega⟩;have h3 : (0 : Int) ≤ (i : Int) ∧ (i : Int) ≤ (j : Int) := ⟨by omega, by omega⟩
  have h4 : ¬ j = i := by omega
  simp [Instr.sliceAt, Instr.slice, Instr.sliceBounds, Instr.sliceBound, asIntOf, run_underlying hu, sizeOf, typeInfo, hq, h1, h3, h4, hs1, addr_add]
  rw [if_pos hj, if_pos (by omega)]
theorem cpo6 (va vb : Value) (l m : List Int) (w : World) (hva : Ks l va w) (hvb : Ks m vb w) (HK : Hid (Kok l)) (HM : Hid (Kok m)) (HE : Hid (cpE l m = 0)) : Calls Tryd.prog 10 #[.agg #[va], .agg #[vb]] w fun e w' => ∃ v', e = .returned (.tuple #[.agg #[v'], .int .i64 0]) ∧ Km (cpK l m) w.heap.size v' w' ∧ Since w w' := by
 have HVA : Hid (∀ X, Since w X → Ks l va X) := fun X h => Ks.lasts l _ _ _ hva h
 have HVB : Hid (∀ X, Since w X → Ks m vb X) := fun X h => Ks.lasts m _ _ _ hvb h
 clear hva hvb;have HC : Hid (kcE l = 0) := kcE_ok.2 HK.out;have HD : Hid (kcE m = 0) := kcE_ok.2 HM.out
 go_enter Tryd.func10, Tryd.ntmps10
 go_upto_region 1 with fail;obtain ⟨W0, hW0, hB0, hB1, hB2, hb⟩ := start3 w 24 24 24 [va] [vb] [.slice none 0 0];rw [← hW0];clear hW0;refine jp ?_;refine ja hB0 Tryd.underlying24 (by rfl) info_kn ?_;refine jc (.int .i64 0) (fun X hX hF => mo (kchC _ l X (HVA.out X (Since.next hb hX))) (by rw [HC.out])) ?_;refine jm (.int .i64 0) ?_;refine jzb hb fun X1 hX1 hb => ?_;replace hB0 := hB0.bel hX1;replace hB1 := hB1.bel hX1;replace hB2 := hB2.bel hX1;clear hX1;go_upto_region 2 with fail;refine jp ?_;refine jm (.int .i64 0) ?_;refine jv (.bool false) (exec_nei _ _ _ _ (by rfl) .i64 0 0 (by rfl) (by rfl) false (by rw [decide_eq_true (by omega)]; rfl)) ?_;refine jzb hb fun X2 hX2 hb => ?_;replace hB0 := hB0.bel hX2;replace hB1 := hB1.bel hX2;replace hB2 := hB2.bel hX2;clear hX2;go_upto_region 4 with fail;refine jp ?_;refine ja hB1 Tryd.underlying24 (by rfl) info_kn ?_;refine jc (.int .i64 0) (fun X hX hF => mo (kchC _ m X (HVB.out X (Since.next hb hX))) (by rw [HD.out])) ?_;refine jm (.int .i64 0) ?_;refine jzb hb fun X3 hX3 hb => ?_;replace hB0 := hB0.bel hX3;replace hB1 := hB1.bel hX3;replace hB2 := hB2.bel hX3;clear hX3;go_upto_region 5 with fail;refine jp ?_;refine jm (.int .i64 0) ?_;refine jv (.bool false) (exec_nei _ _ _ _ (by rfl) .i64 0 0 (by rfl) (by rfl) false (by rw [decide_eq_true (by omega)]; rfl)) ?_;refine jzb hb fun X4 hX4 hb => ?_;replace hB0 := hB0.bel hX4;replace hB1 := hB1.bel hX4;replace hB2 := hB2.bel hX4;clear hX4;go_upto_region 7 with fail;refine lx_tails 2 [none, some (fun v X => ∃ v', v = .agg #[v'] ∧ Km (red l) (w.heap.size + 3) v' X), none, some (fun v X => ∃ v', v = .agg #[v'] ∧ Km (red m) (w.heap.size + 3) v' X)] (by kernel_rfl) (by kernel_rfl) (by kernel_rfl) (lasts_none (lasts_some ((fun v X Y ⟨v', h1, h2⟩ hS => ⟨v', h1, Km.lasts _ _ _ _ _ h2 hS⟩)) (lasts_none (lasts_some ((fun v X Y ⟨v', h1, h2⟩ hS => ⟨v', h1, Km.lasts _ _ _ _ _ h2 hS⟩)) (lasts_nil))))) ?_
 simp only [its, List.length_cons, List.length_nil, Nat.zero_add, Nat.reduceAdd, Nat.reduceSub, List.take_succ_cons, List.take_zero, List.drop_succ_cons, List.drop_zero];refine ja hB0 Tryd.underlying24 (by rfl) info_kn ?_;refine jk (fun X hX hF => (rdcC _ l X (HVA.out X (Since.next hb hX)) HK.out).mono fun e X' ⟨v', h1, h2, h3⟩ => ⟨_, h1, ⟨v', rfl, h2.low (hB2.bel hX).lt⟩, h3⟩) ?_;intro v28;refine ja hB1 Tryd.underlying24 (by rfl) info_kn ?_;refine jk (fun X hX hF => (rdcC _ m X (HVB.out X (Since.next hb hX)) HM.out).mono fun e X' ⟨v', h1, h2, h3⟩ => ⟨_, h1, ⟨v', rfl, h2.low (hB2.bel hX).lt⟩, h3⟩) ?_;intro v30;refine lx_nil ?_;intro X5 hX5 hF;have hv28 := hF _ _ (List.mem_cons_of_mem _ List.mem_cons_self);have hv30 := hF _ _ List.mem_cons_self;replace hB0 := hB0.bel hX5;replace hB1 := hB1.bel hX5;replace hB2 := hB2.bel hX5;have hb := bel_next hb hX5;clear hF hX5;obtain ⟨v1, rfl, ga, rfl, hga, hla, hBa⟩ := hv28;obtain ⟨v2, rfl, gb, rfl, hgb, hlb, hBb⟩ := hv30;obtain ⟨p, p9⟩ : ∃ p, p = (red l).length := ⟨_, rfl⟩;have HP := Lib.hid p9.symm;obtain ⟨q, q9⟩ : ∃ q, q = (red m).length := ⟨_, rfl⟩;have HQ := Lib.hid q9.symm
 have hp1 : 1 ≤ p := by rw [p9]; exact HK.out.red.len1
 have hp4 : p ≤ 400 := by rw [p9]; exact HK.out.red.len2
 have hq1 : 1 ≤ q := by rw [q9]; exact HM.out.red.len1
 have hq4 : q ≤ 400 := by rw [q9]; exact HM.out.red.len2
 rw [← p9, ← q9];clear p9 q9 hla hlb;refine osb 24 2 28 w.heap.size 24 hB0 [.slice (some ⟨ga, 0, none⟩) p p] info_kn ?_;intro w1s hR9 hO9 hB9 hs9;have hb := hB9 _ _ hb (by omega);have hB1 := hO9 _ _ _ (by omega) hB1;have hB2 := hO9 _ _ _ (by omega) hB2;have hBa := hO9 _ _ _ (by omega) hBa;have hBb := hO9 _ _ _ (by omega) hBb;have hB0 := hR9;clear hO9 hB9 hR9 hs9;refine osb 24 3 30 (w.heap.size + 1) 24 hB1 [.slice (some ⟨gb, 0, none⟩) q q] info_kn ?_;intro w2s hR9 hO9 hB9 hs9;have hb := hB9 _ _ hb (by omega);have hB0 := hO9 _ _ _ (by omega) hB0;have hB2 := hO9 _ _ _ (by omega) hB2;have hBa := hO9 _ _ _ (by omega) hBa;have hBb := hO9 _ _ _ (by omega) hBb;have hB1 := hR9;clear hO9 hB9 hR9 hs9;obtain ⟨N, hN⟩ : ∃ N, N + 1 = p + q := ⟨p + q - 1, by omega⟩;go_upto_region 8 with fail;refine jp ?_;refine jn (.pointer (some ⟨w.heap.size, 0, none⟩)) ?_;refine jf (.slice (some ⟨ga, 0, none⟩) p p) hB0 0 load_ints ?_;refine jv (.int .i64 (p : Int)) (exec_lenv Tryd.underlying22 _ (by rfl) (some ⟨ga, 0, none⟩) p p (by rfl) _ rfl) ?_;refine jn (.pointer (some ⟨(w.heap.size + 1), 0, none⟩)) ?_;refine jf (.slice (some ⟨gb, 0, none⟩) q q) hB1 0 load_ints ?_;refine jv (.int .i64 (q : Int)) (exec_lenv Tryd.underlying22 _ (by rfl) (some ⟨gb, 0, none⟩) q q (by rfl) _ rfl) ?_;refine jv (.int .i64 ((p : Int) + (q : Int))) (exec_add _ _ _ _ (by rfl) (p : Int) (q : Int) ((p : Int) + (q : Int)) (by rfl) (by rfl) (by omega) (by omega) (by omega)) ?_;refine jv (.int .i64 (N : Int)) (exec_sub _ _ _ _ (by rfl) ((p : Int) + (q : Int)) 1 (N : Int) (by rfl) (by rfl) (by omega) (by omega) (by omega)) ?_
 refine jm (.int .i64 (N : Int)) ?_;refine jzb hb fun X6 hX6 hb => ?_;replace hB0 := hB0.bel hX6;replace hB1 := hB1.bel hX6;replace hB2 := hB2.bel hX6;replace hBa := hBa.bel hX6;replace hBb := hBb.bel hX6;clear hX6;have h9 := (cpE_ok HK.out HM.out).1 HE.out;have HPR : Hid (tot (red l) * tot (red m) ≤ far) := h9.2
 have hN4 : N ≤ 400 := by
  have h8 := h9.1;rw [HP.out, HQ.out] at h8
  omega
 clear h9
 have HKA : Hid (∀ X, Blk X ga 3 ((red l).map I64) → Ks (red l) (.slice (some ⟨ga, 0, none⟩) p p) X) := fun X h => by
  have h9 := Ks.of_blk h (by rw [HP.out]; omega)
  rwa [HP.out] at h9
 have HKB : Hid (∀ X, Blk X gb 3 ((red m).map I64) → Ks (red m) (.slice (some ⟨gb, 0, none⟩) q q) X) := fun X h => by
  have h9 := Ks.of_blk h (by rw [HQ.out]; omega)
  rwa [HQ.out] at h9
 obtain ⟨ta, ta9⟩ : ∃ t, t = tot (red l) := ⟨_, rfl⟩;have HTA := Lib.hid ta9;obtain ⟨tb, tb9⟩ : ∃ t, t = tot (red m) := ⟨_, rfl⟩;have HTB := Lib.hid tb9
 have htb : 0 < tb := by rw [tb9]; exact HM.out.red.tpos
 obtain ⟨dd, hdd⟩ : ∃ d, 999999999999999 / tb = d := ⟨_, rfl⟩
 have hdd1 : 0 ≤ dd ∧ dd ≤ 999999999999999 := by rw [← hdd]; exact ⟨Int.ediv_nonneg (by omega) (by omega), Int.ediv_le_self _ (by omega)⟩
 clear ta9 tb9
 have hlt : ta ≤ dd := by
  rw [← hdd, HTA.out, HTB.out];refine Int.not_lt.1 fun h8 => ?_;have h7 := (div_iff HM.out.red.tpos).1 h8;have h6 := HPR.out
  omega
 go_upto_region 9 with fail;refine jp ?_;refine jm (.int .i64 (N : Int)) ?_;refine jv (.bool false) (exec_gtr _ _ _ _ (by rfl) .i64 (N : Int) 400 (by rfl) (by rfl) false (decide_eq_false (by omega))) ?_;refine jzb hb fun X7 hX7 hb => ?_;replace hB0 := hB0.bel hX7;replace hB1 := hB1.bel hX7;replace hB2 := hB2.bel hX7;replace hBa := hBa.bel hX7;replace hBb := hBb.bel hX7;clear hX7;go_upto_region 11 with fail;refine jd ?_;refine ja hB0 Tryd.underlying24 (by rfl) info_kn ?_;refine jc (.int .i64 ta) (fun X hX hF => mo (totK _ (red l) X (HKA.out X (hBa.bel hX)) HK.out.red) (by rw [HTA.out])) ?_;refine ja hB1 Tryd.underlying24 (by rfl) info_kn ?_;refine jc (.int .i64 tb) (fun X hX hF => mo (totK _ (red m) X (HKB.out X (hBb.bel hX)) HM.out.red) (by rw [HTB.out])) ?_;refine jv (.int .i64 dd) (exec_quo _ _ _ _ (by rfl) .i64 999999999999999 tb dd (by rfl) (by rfl) (by omega) (by omega) hdd (IntWalk.i64_in _ (by omega))) ?_;refine jv (.bool false) (exec_gtr _ _ _ _ (by rfl) .i64 ta dd (by rfl) (by rfl) false (decide_eq_false (by omega))) ?_;refine jzb hb fun X8 hX8 hb => ?_;replace hB0 := hB0.bel hX8;replace hB1 := hB1.bel hX8;replace hB2 := hB2.bel hX8;replace hBa := hBa.bel hX8;replace hBb := hBb.bel hX8;clear hX8;go_upto_region 13 with fail;refine lx_plain [none, some (Km (List.replicate N 0) (max ga gb + 1))] (lasts_none (lasts_some (Km.lasts _ _) (lasts_nil))) ?_;simp only [iX, Nat.reduceAdd];refine jm (.int .i64 (N : Int)) ?_;refine lx_new (by rfl) (fun X hX hF => exec_makeK _ _ (by rfl) N (max ga gb + 1) (by rfl) (by rfl) rfl (by omega) X (by have h1 := (hBa.bel hX).lt; have h2 := (hBb.bel hX).lt; omega)) ?_
 intro v50;simp only [pX];refine jm (v50) ?_;refine lx_nil ?_;intro X9 hX9 hF;have hv50 := hF _ _ List.mem_cons_self;replace hB0 := hB0.bel hX9;replace hB1 := hB1.bel hX9;replace hB2 := hB2.bel hX9;replace hBa := hBa.bel hX9;replace hBb := hBb.bel hX9;have hb := bel_next hb hX9;clear hF hX9;obtain ⟨g, rfl, hg, _, hBg⟩ := hv50;rw [List.length_replicate];go_upto_region 14 with fail;refine jp ?_;refine jn (.pointer (some ⟨w.heap.size, 0, none⟩)) ?_;refine jf (.slice (some ⟨ga, 0, none⟩) p p) hB0 0 load_ints ?_;refine jv (.int .i64 (p : Int)) (exec_lenv Tryd.underlying22 _ (by rfl) (some ⟨ga, 0, none⟩) p p (by rfl) _ rfl) ?_;refine jm (.int .i64 0) ?_;refine jzb hb fun X10 hX10 hb => ?_;replace hB0 := hB0.bel hX10;replace hB1 := hB1.bel hX10;replace hB2 := hB2.bel hX10;replace hBa := hBa.bel hX10;replace hBb := hBb.bel hX10;replace hBg := hBg.bel hX10;clear hX10
 go_wp2
 go_loopw [54] (fun iv wr => ∃ (i : Nat) (O : List Int), i ≤ p ∧ iv = .int .i64 (i : Int) ∧ Hid (O.length = N) ∧ Hid (∀ t, t < N → wt O t = pI (red l) (red m) i t) ∧ Blk wr g 3 (O.map I64) ∧ Blk wr ga 3 ((red l).map I64) ∧ Blk wr gb 3 ((red m).map I64) ∧ Blk wr w.heap.size 24 [.slice (some ⟨ga, 0, none⟩) p p] ∧ Blk wr (w.heap.size + 1) 24 [.slice (some ⟨gb, 0, none⟩) q q] ∧ Blk wr (w.heap.size + 2) 24 [.slice none 0 0] ∧ Below w.heap.size w wr) (fun iv _ => p - (intOf iv).toNat)
 case atStart => exact ⟨0, List.replicate N 0, by omega, rfl, List.length_replicate, fun t ht => by rw [wt_in (by simpa using ht), List.getElem_replicate]; rfl, hBg, hBa, hBb, hB0, hB1, hB2, hb⟩
 case round =>
  clear hBg hBa hBb hB0 hB1 hB2 hb;obtain ⟨i, O, hi, rfl, HO, HW, hBg, hBa, hBb, hB0, hB1, hB2, hb⟩ := hrel
  rcases Nat.lt_or_ge i p with hlt | hlt
  ·obtain ⟨x, x9⟩ : ∃ x, x = wt (red l) i := ⟨_, rfl⟩
   have HX := Lib.hid x9.symm;clear x9;go_upto_region 15 with fail;refine jp ?_;refine jv (.bool true) (exec_lss _ _ _ _ (by rfl) .i64 (i : Int) (p : Int) (by rfl) (by rfl) true (decide_eq_true (by omega))) ?_;refine jzb hb fun X1 hX1 hb => ?_;replace hB0 := hB0.bel hX1;replace hB1 := hB1.bel hX1;replace hB2 := hB2.bel hX1;replace hBg := hBg.bel hX1;replace hBa := hBa.bel hX1;replace hBb := hBb.bel hX1;clear hX1;go_upto_region 16 with fail;refine jp ?_;refine jm (.int .i64 (i : Int)) ?_;refine jv (.pointer (some ⟨ga, i, none⟩)) (exec_ix0 Tryd.underlying22 info_i1 _ _ (by rfl) ga p p i (by omega) (by rfl) (by rfl) (by rfl)) ?_;refine jg (.int .i64 x) (fun X hX hF => exec_ld 3 _ (by rfl) ga (i) (by rfl) _ X (by have h9 := blk_wt (hBa.bel hX) (k := i) (by rw [HP.out]; exact hlt); rw [HX.out] at h9; exact h9) (fun X u h => load_int ga (i) X u h)) ?_;refine jm (.int .i64 (i : Int)) ?_;refine jm (.int .i64 x) ?_;refine jzb hb fun X2 hX2 hb => ?_;replace hB0 := hB0.bel hX2;replace hB1 := hB1.bel hX2;replace hB2 := hB2.bel hX2;replace hBg := hBg.bel hX2;replace hBa := hBa.bel hX2;replace hBb := hBb.bel hX2;clear hX2;obtain ⟨j9, hj9⟩ : ∃ j, j = i + q := ⟨_, rfl⟩;go_upto_region 17 with fail;refine jp ?_;refine jm (.slice (some ⟨g, 0, none⟩) N N) ?_;refine jm (.int .i64 (i : Int)) ?_;refine jm (.int .i64 (i : Int)) ?_;refine jn (.pointer (some ⟨(w.heap.size + 1), 0, none⟩)) ?_;refine jf (.slice (some ⟨gb, 0, none⟩) q q) hB1 0 load_ints ?_;refine jv (.int .i64 (q : Int)) (exec_lenv Tryd.underlying22 _ (by rfl) (some ⟨gb, 0, none⟩) q q (by rfl) _ rfl) ?_
   refine jv (.int .i64 (j9 : Int)) (exec_add _ _ _ _ (by rfl) (i : Int) (q : Int) (j9 : Int) (by rfl) (by rfl) (by omega) (by omega) (by omega)) ?_;refine jm (.int .i64 (i : Int)) ?_;refine jn (.pointer (some ⟨(w.heap.size + 1), 0, none⟩)) ?_;refine jf (.slice (some ⟨gb, 0, none⟩) q q) hB1 0 load_ints ?_;refine jv (.int .i64 (q : Int)) (exec_lenv Tryd.underlying22 _ (by rfl) (some ⟨gb, 0, none⟩) q q (by rfl) _ rfl) ?_;refine jv (.int .i64 (j9 : Int)) (exec_add _ _ _ _ (by rfl) (i : Int) (q : Int) (j9 : Int) (by rfl) (by rfl) (by omega) (by omega) (by omega)) ?_;refine jv (.slice (some ⟨g, i, none⟩) (j9 - i) (j9 - i)) (exec_sl3 Tryd.underlying22 info_i1 _ _ _ _ (by rfl) g N N i j9 (by omega) (by omega) (by rfl) (by rfl) (by rfl) (by rfl) rfl rfl rfl) ?_;refine jm (.slice (some ⟨g, i, none⟩) (j9 - i) (j9 - i)) ?_;refine jzb hb fun X3 hX3 hb => ?_;replace hB0 := hB0.bel hX3;replace hB1 := hB1.bel hX3;replace hB2 := hB2.bel hX3;replace hBg := hBg.bel hX3;replace hBa := hBa.bel hX3;replace hBb := hBb.bel hX3;clear hX3
   have hjq : j9 - i = q := by omega
   rw [hjq];clear hjq hj9;go_upto_region 18 with fail;refine jp ?_;refine jn (.pointer (some ⟨(w.heap.size + 1), 0, none⟩)) ?_;refine jf (.slice (some ⟨gb, 0, none⟩) q q) hB1 0 load_ints ?_;refine jv (.int .i64 (q : Int)) (exec_lenv Tryd.underlying22 _ (by rfl) (some ⟨gb, 0, none⟩) q q (by rfl) _ rfl) ?_;refine jm (.int .i64 0) ?_;refine jzb hb fun X4 hX4 hb => ?_;replace hB0 := hB0.bel hX4;replace hB1 := hB1.bel hX4;replace hB2 := hB2.bel hX4;replace hBg := hBg.bel hX4;replace hBa := hBa.bel hX4;replace hBb := hBb.bel hX4;clear hX4
   go_wp2
   go_loopw [75] (fun jv w2 => ∃ (j : Nat) (O : List Int), j ≤ q ∧ jv = .int .i64 (j : Int) ∧ Hid (O.length = N) ∧ Hid (∀ t, t < N → wt O t = pI (red l) (red m) i t + if i ≤ t ∧ t < i + j then x * wt (red m) (t - i) else 0) ∧ Blk w2 g 3 (O.map I64) ∧ Blk w2 ga 3 ((red l).map I64) ∧ Blk w2 gb 3 ((red m).map I64) ∧ Blk w2 w.heap.size 24 [.slice (some ⟨ga, 0, none⟩) p p] ∧ Blk w2 (w.heap.size + 1) 24 [.slice (some ⟨gb, 0, none⟩) q q] ∧ Blk w2 (w.heap.size + 2) 24 [.slice none 0 0] ∧ Below w.heap.size w w2) (fun jv _ => q - (intOf jv).toNat)
   case atStart => exact ⟨0, O, by omega, rfl, HO, fun t ht => by rw [if_neg (by omega), Int.add_zero]; exact HW.out t ht, hBg, hBa, hBb, hB0, hB1, hB2, hb⟩
   case round =>
    clear hBg hBa hBb hB0 hB1 hB2 hb HO HW;obtain ⟨j, O, hj, rfl, HO, HW, hBg, hBa, hBb, hB0, hB1, hB2, hb⟩ := hrel
    rcases Nat.lt_or_ge j q with hlt2 | hlt2
    ·obtain ⟨y, y9⟩ : ∃ y, y = wt (red m) j := ⟨_, rfl⟩
     have HY := Lib.hid y9.symm;clear y9
     have hijN : i + j < N := by omega
     obtain ⟨s, s9⟩ : ∃ s, s = wt O (i + j) := ⟨_, rfl⟩;have HS := Lib.hid s9.symm
     have hs0 : s = pI (red l) (red m) i (i + j) := by
      rw [s9, HW.out _ hijN, if_neg (by omega), Int.add_zero]
     have HSP := Lib.hid hs0
     have hs1 : 0 ≤ s := by rw [hs0]; exact pI_nonneg HK.out.red HM.out.red _ _
     obtain ⟨z, z9⟩ : ∃ z, x * y = z := ⟨_, rfl⟩
     have hz0 : 0 ≤ z := by
      rw [← z9, ← HX.out, ← HY.out];exact Int.mul_nonneg (HK.out.red.pos _) (HM.out.red.pos _)
     have hs2 : s + z ≤ 999999999999999 := by
      have h1 := pI_le HK.out.red HM.out.red HPR.out (i := i + 1) (by rw [HP.out]; omega) (i + j);rw [pI_succ, if_pos (by omega), ← hs0, Nat.add_sub_cancel_left, HX.out, HY.out, z9] at h1;exact h1
     clear s9 hs0;go_upto_region 19 with fail;refine jp ?_;refine jv (.bool true) (exec_lss _ _ _ _ (by rfl) .i64 (j : Int) (q : Int) (by rfl) (by rfl) true (decide_eq_true (by omega))) ?_;refine jzb hb fun X1 hX1 hb => ?_;replace hB0 := hB0.bel hX1;replace hB1 := hB1.bel hX1;replace hB2 := hB2.bel hX1;replace hBg := hBg.bel hX1;replace hBa := hBa.bel hX1;replace hBb := hBb.bel hX1;clear hX1;go_upto_region 20 with fail;refine jp ?_;refine jm (.int .i64 (j : Int)) ?_;refine jv (.pointer (some ⟨gb, j, none⟩)) (exec_ix0 Tryd.underlying22 info_i1 _ _ (by rfl) gb q q j (by omega) (by rfl) (by rfl) (by rfl)) ?_;refine jg (.int .i64 y) (fun X hX hF => exec_ld 3 _ (by rfl) gb (j) (by rfl) _ X (by have h9 := blk_wt (hBb.bel hX) (k := j) (by rw [HQ.out]; exact hlt2); rw [HY.out] at h9; exact h9) (fun X u h => load_int gb (j) X u h)) ?_;refine jm (.int .i64 (j : Int)) ?_;refine jm (.int .i64 y) ?_;refine jzb hb fun X2 hX2 hb => ?_;replace hB0 := hB0.bel hX2;replace hB1 := hB1.bel hX2;replace hB2 := hB2.bel hX2;replace hBg := hBg.bel hX2;replace hBa := hBa.bel hX2;replace hBb := hBb.bel hX2;clear hX2;go_upto_region 21 with fail;refine jq 9 ?_;refine jm (.slice (some ⟨g, i, none⟩) q q) ?_;refine jm (.int .i64 (j : Int)) ?_;refine jv (.pointer (some ⟨g, i + j, none⟩)) (exec_ix1 Tryd.underlying22 info_i1 _ _ (by rfl) g (i) q q j (by omega) (by rfl) (by rfl) (by rfl)) ?_;refine jg (.int .i64 s) (fun X hX hF => exec_ld 3 _ (by rfl) g (i + j) (by rfl) _ X (by have h9 := blk_wt (hBg.bel hX) (k := i + j) (by rw [HO.out]; exact hijN); rw [HS.out] at h9; exact h9) (fun X u h => load_int g (i + j) X u h)) ?_
     refine jm (.int .i64 x) ?_;refine jm (.int .i64 y) ?_;refine jv (.int .i64 z) (exec_mul _ _ _ _ (by rfl) x y z (by rfl) (by rfl) z9 (by omega) (by omega)) ?_;refine jv (.int .i64 (s + z)) (exec_add _ _ _ _ (by rfl) s z (s + z) (by rfl) (by rfl) (by omega) (by omega) (by omega)) ?_;refine jv (.pointer (some ⟨g, i + j, none⟩)) (exec_ix1 Tryd.underlying22 info_i1 _ _ (by rfl) g (i) q q j (by omega) (by rfl) (by rfl) (by rfl)) ?_;refine jzb hb fun X3 hX3 hb => ?_;replace hB0 := hB0.bel hX3;replace hB1 := hB1.bel hX3;replace hB2 := hB2.bel hX3;replace hBg := hBg.bel hX3;replace hBa := hBa.bel hX3;replace hBb := hBb.bel hX3;clear hX3;refine op_store1 rfl g (i + j) 3 _ hBg (.int .i64 (s + z)) (by rw [List.length_map, HO.out]; exact hijN) (fun X u h1 h2 => exec_sti _ _ (by rfl) _ _ (by rfl) (by rfl) u X h1 h2) ?_;intro w3 hR5 hO5 hB5;have hb := hB5 _ _ hb (by omega);have hB0 := hO5 _ _ _ (by omega) hB0;have hB1 := hO5 _ _ _ (by omega) hB1;have hB2 := hO5 _ _ _ (by omega) hB2;have hBa := hO5 _ _ _ (by omega) hBa;have hBb := hO5 _ _ _ (by omega) hBb;rw [← List.map_set (f := I64)] at hR5;have hBg := hR5;clear hO5 hB5 hR5
     have HO2 : Hid ((O.set (i + j) (s + z)).length = N) := by
      show _ = _
      rw [List.length_set]; exact HO.out
     have HW2 : Hid (∀ t, t < N → wt (O.set (i + j) (s + z)) t = pI (red l) (red m) i t + if i ≤ t ∧ t < i + (j + 1) then x * wt (red m) (t - i) else 0) := fun t ht => by
      rw [wt_set (by rw [HO.out]; exact hijN)]
      by_cases h9 : t = i + j
      ·rw [if_pos h9, h9, if_pos (by omega), Nat.add_sub_cancel_left, HY.out, z9, ← HSP.out]
      ·rw [if_neg h9, HW.out t ht]
       by_cases h8 : i ≤ t ∧ t < i + j
       ·rw [if_pos h8, if_pos (by omega)]
       ·rw [if_neg h8, if_neg (by omega)]
     go_upto_region 22 with fail;refine jp ?_;refine jv (.int .i64 ((j + 1 : Nat) : Int)) (exec_add _ _ _ _ (by rfl) (j : Int) 1 ((j + 1 : Nat) : Int) (by rfl) (by rfl) (by omega) (by omega) (by omega)) ?_;refine jm (.int .i64 ((j + 1 : Nat) : Int)) ?_;refine jzb hb fun X4 hX4 hb => ?_;replace hB0 := hB0.bel hX4;replace hB1 := hB1.bel hX4;replace hB2 := hB2.bel hX4;replace hBg := hBg.bel hX4;replace hBa := hBa.bel hX4;replace hBb := hBb.bel hX4;clear hX4
     go_wp2
     go_roundw
     case rel => exact ⟨j + 1, _, by omega, rfl, HO2, HW2, hBg, hBa, hBb, hB0, hB1, hB2, hb⟩
     case measure => simp [intOf]; omega
    ·obtain rfl : j = q := by omega
     have HW3 : Hid (∀ t, t < N → wt O t = pI (red l) (red m) (i + 1) t) := fun t ht => by
      rw [HW.out t ht, pI_succ, HX.out]
      by_cases h9 : i ≤ t
      ·rw [if_pos h9]
       by_cases h8 : t < i + j
       ·rw [if_pos ⟨h9, h8⟩]
       ·rw [if_neg (by omega), wt_out (l := red m) (by rw [HQ.out]; omega), Int.mul_zero]
      ·rw [if_neg h9, if_neg (by omega)]
     go_upto_region 19 with fail;refine jp ?_;refine jv (.bool false) (exec_lss _ _ _ _ (by rfl) .i64 (j : Int) (j : Int) (by rfl) (by rfl) false (decide_eq_false (by omega))) ?_;refine jzb hb fun X1 hX1 hb => ?_;replace hB0 := hB0.bel hX1;replace hB1 := hB1.bel hX1;replace hB2 := hB2.bel hX1;replace hBg := hBg.bel hX1;replace hBa := hBa.bel hX1;replace hBb := hBb.bel hX1;clear hX1;go_upto_region 23 with fail;refine jp ?_;refine jv (.int .i64 ((i + 1 : Nat) : Int)) (exec_add _ _ _ _ (by rfl) (i : Int) 1 ((i + 1 : Nat) : Int) (by rfl) (by rfl) (by omega) (by omega) (by omega)) ?_;refine jm (.int .i64 ((i + 1 : Nat) : Int)) ?_;refine jzb hb fun X2 hX2 hb => ?_;replace hB0 := hB0.bel hX2;replace hB1 := hB1.bel hX2;replace hB2 := hB2.bel hX2;replace hBg := hBg.bel hX2;replace hBa := hBa.bel hX2;replace hBb := hBb.bel hX2;clear hX2
     go_wp2
     go_roundw
     case rel => exact ⟨i + 1, O, by omega, rfl, HO, HW3, hBg, hBa, hBb, hB0, hB1, hB2, hb⟩
     case measure => simp [intOf]; omega
  ·obtain rfl : i = p := by omega
   have HCV : Hid (O = cvl (red l) (red m)) := by
    show _ = _
    refine wt_ext (by rw [HO.out, cvl_len, HP.out, HQ.out]; omega) fun t ht => ?_;rw [HO.out] at ht;rw [HW.out t ht]
    unfold cvl
    rw [wt_range _ (by rw [HP.out, HQ.out]; omega), ← pI_all, HP.out]
   have HKO : Hid (Kok O) := by
    show Kok O
    rw [HCV.out]; exact cpK_kok HK.out HM.out HE.out
   have HKR : Hid (red O = cpK l m) := by
    show _ = _
    rw [HCV.out]; rfl
   have HKS : Hid (∀ X, Blk X g 3 (O.map I64) → Ks O (.slice (some ⟨g, 0, none⟩) N N) X) := fun X h => by
    have h9 := Ks.of_blk h (by rw [HO.out]; omega)
    rwa [HO.out] at h9
   go_upto_region 15 with fail;refine jp ?_;refine jv (.bool false) (exec_lss _ _ _ _ (by rfl) .i64 (i : Int) (i : Int) (by rfl) (by rfl) false (decide_eq_false (by omega))) ?_;refine jzb hb fun X1 hX1 hb => ?_;replace hB0 := hB0.bel hX1;replace hB1 := hB1.bel hX1;replace hB2 := hB2.bel hX1;replace hBg := hBg.bel hX1;replace hBa := hBa.bel hX1;replace hBb := hBb.bel hX1;clear hX1;go_upto_region 24 with fail;refine lx_plain_to 3 [none, none, some (fun v X => ∃ v', v = .agg #[v'] ∧ Km (cpK l m) (w.heap.size + 3) v' X)] (lasts_none (lasts_none (lasts_some ((fun v X Y ⟨v', h1, h2⟩ hS => ⟨v', h1, Km.lasts _ _ _ _ _ h2 hS⟩)) (lasts_nil)))) ?_;simp only [its, List.take, List.drop, Nat.zero_add, Nat.reduceAdd];refine jm (.slice (some ⟨g, 0, none⟩) N N) ?_;refine jn (.agg #[.slice (some ⟨g, 0, none⟩) N N]) ?_;refine jk (fun X hX hF => (rdcC _ O X (HKS.out X (hBg.bel hX)) HKO.out).mono fun e X' ⟨v', h1, h2, h3⟩ => ⟨_, h1, ⟨v', rfl, by rw [HKR.out] at h2; exact h2.low (hB2.bel hX).lt⟩, h3⟩) ?_;intro v93;refine lx_nil ?_;intro X2 hX2 hF;have hv93 := hF _ _ List.mem_cons_self;replace hB0 := hB0.bel hX2;replace hB1 := hB1.bel hX2;replace hB2 := hB2.bel hX2;replace hBg := hBg.bel hX2;replace hBa := hBa.bel hX2;replace hBb := hBb.bel hX2;have hb := bel_next hb hX2;clear hF hX2;obtain ⟨v', rfl, g9, rfl, hg9, hgl, hBr⟩ := hv93;refine osb 24 4 93 (w.heap.size + 2) 24 hB2 [.slice (some ⟨g9, 0, none⟩) (cpK l m).length (cpK l m).length] info_kn ?_;intro w9 hR9 hO9 hB9 hs9;have hb9 := hB9 _ _ hb (by omega)
   have hB0 := hO9 _ _ _ (by omega) hB0;have hB1 := hO9 _ _ _ (by omega) hB1;have hBg := hO9 _ _ _ (by omega) hBg;have hBa := hO9 _ _ _ (by omega) hBa;have hBb := hO9 _ _ _ (by omega) hBb;have hBr := hO9 _ _ _ (by omega) hBr;clear hO9 hB9
   go_wp2
   refine post_cell2 (v := .int .i64 0) rfl rfl (by rfl) (by rfl) Tryd.underlying24 rfl hR9 info_kn ⟨_, rfl, ⟨g9, rfl, by omega, hgl, hBr⟩, hb9⟩
end Go.Proofs.YtcpedbpldgndmaaDoor
