/-
  account: Check.
-/
import Derived.Test.YtffgfkcljcollaaDoorAb
set_option linter.unusedSimpArgs false
set_option linter.unusedVariables false
set_option maxRecDepth 100000
set_option maxHeartbeats 1600000
namespace Go.Proofs.YtffgfkcljcollaaDoor
open Go.RowKit
theorem eqm_en : Tryd.prog.eqGuardType Tryd.prog.depth 36 = false := by kernel_rfl
theorem exec_nen {f : Operand → Value} {o : Oper} (x y : Operand) (ho : o.op = .binOp .neq 36 x y 36) (X Y : En) (hx : f x = .agg (enc X).toArray) (hy : f y = .agg (enc Y).toArray) (b : Bool) (hb : (!decide (X = Y)) = b) (w : World) : (execOp f o).run Tryd.prog w = .ok (.value (.bool b)) w := by
 subst hb;exact exec_cmp_agg .neq _ _ x y ho _ _ hx hy eqm_en _ w (run_ne_en X Y w)
theorem Es.cap {w : World} {A : Option Addr} {n c : Nat} {l : List En} (h : Rd w 13 (.slice A n c) n (fl enc l)) : n ≤ c ∧ c ≤ 9223372036854775807 := by
 obtain ⟨hl9, A2, c2, h2, hc, hm, hx⟩ := h
 injection h2 with e1 e2 e3
 subst e1 e3
 unfold maxLen at hm
 omega
theorem enAt2 {w : World} {b off n c : Nat} {l : List En} (h : Rd w 13 (.slice (some ⟨b, off, none⟩) n c) n (fl enc l)) (hl : l.length = n) {k : Nat} (hk : k < n) : b < w.heap.size ∧ Cl w b (off + k * 13) (enc (en l k)) := by
 obtain ⟨b2, off2, h1, h2, h3⟩ := enAt h hl hk
 injection h1 with h1
 injection h1 with h4 h5
 subst h4 h5;exact ⟨h2, h3⟩
theorem oppI (v : Value) (l : List En) (k : Nat) (a day : Int) (y : En) (w : World) (ha : a = (k : Int)) (hv : Es l v w) (hk : k < l.length) (hy : y = en l k) : Calls Tryd.prog 32 #[v, .int .i64 a, .int .i64 day] w fun e w' => e = .returned (.agg #[.int .i64 (opp y a day).day, .int .i64 (opp y a day).deb, .int .i64 (opp y a day).cre, .bool (opp y a day).am.1, .string ⟨(opp y a day).am.2.1.toArray⟩, .string ⟨(opp y a day).am.2.2.toArray⟩, .int .i64 (opp y a day).kd, .int .i64 (opp y a day).pd, .int .i64 (opp y a day).rf, .int .i64 (opp y a day).w1, .int .i64 (opp y a day).w2, .int .i64 (opp y a day).w3, .int .i64 (opp y a day).w4]) ∧ Since w w' := by
 subst ha;exact oppC v l k day y w hv hk hy
/-- A fresh map. -/
def Mpn (B : Nat) (v : Value) (X : World) : Prop := ∃ m, v = .map (some m) ∧ B ≤ m ∧ Mpb 0 (fun _ => false) v X
theorem Mpn.lasts (B : Nat) : Lasts (Mpn B) := by
 rintro v X Y ⟨m, h1, h2, h3⟩ hS
 exact ⟨m, h1, h2, Mpb.lasts _ _ _ _ _ h3 hS⟩
theorem exec_mkm {f : Operand → Value} {o : Oper} (ho : o.op = .makeMap 73 none) {X : World} {B : Nat} (hB : B ≤ X.heap.size) : ∃ v X', (execOp f o).run Tryd.prog X = .ok (.value v) X' ∧ Mpn B v X' ∧ Since X X' := by
 refine ⟨_, _, ?_, ⟨_, rfl, hB, Mpb.made X⟩, (Below.refl X.heap.size X).alloc (Nat.le_refl _) _⟩
 unfold execOp
 simp only [ho, Option.map, Sem.run_bind, Sem.run_pure, Result.andThen_ok]
 rfl
theorem wf_i64 {k : Int} (h0 : -1000000 ≤ k) (h1 : k ≤ 1000000) : (Lit.int .i64 k).wf = true := by
 unfold Lit.wf
 simp only [Bool.and_eq_true, decide_eq_true_eq];exact ⟨Int.le_trans (by decide) h0, Int.le_trans h1 (by decide)⟩
theorem okE_f {c : Int} {l : List En} {k : Nat} (h : rgt c k (en l k) = false ∨ (0 < k ∧ (en l k).day < (en l (k - 1)).day) ∨ ((en l k).kd = 4 ∧ undoes (l.take k) (en l k) = false)) : okE c l k = false := by
 unfold okE
 rcases h with h | h | h
 ·rw [h, Bool.false_and, Bool.false_and]
 ·rw [decide_eq_true h.1, decide_eq_true h.2]
  simp
 ·rw [if_pos h.1, h.2, Bool.and_false]
theorem okE_t {c : Int} {l : List En} {k : Nat} (h1 : rgt c k (en l k) = true) (h2 : ¬ (0 < k ∧ (en l k).day < (en l (k - 1)).day)) (h3 : (en l k).kd = 4 → undoes (l.take k) (en l k) = true) : okE c l k = true := by
 unfold okE
 have e2 : (decide (0 < k) && decide ((en l k).day < (en l (k - 1)).day)) = false := by
  rw [← Bool.decide_and];exact decide_eq_false h2
 rw [h1, e2]
 split
 ·rename_i h4
  rw [h3 h4]
  rfl
 ·rfl
theorem und_take {l : List En} {k : Nat} (hk : k < l.length) (a : Int) : und (l.take (k + 1)) a = (und (l.take k) a || (decide ((en l k).kd = 4) && decide ((en l k).rf = a))) := by
 rw [List.take_add_one, List.getElem?_eq_getElem hk, en_in hk];exact und_snoc _ _ _
theorem ack0 (c : Int) (v : Value) (l : List En) (w : World) (hv : Es l v w) (h : 100 < c) : Calls Tryd.prog 13 #[.agg #[.int .i64 c, v]] w fun e w' => e = .returned (.int .i64 (acE c l)) ∧ Since w w' := by
 have hln0 : l.length ≤ 4000 ∨ 4000 < l.length := by omega
 obtain ⟨A, n, cp, rfl, hln, hn1, hr⟩ := hv.at;clear hv
 have HRX : Hid (∀ X, Since w X → Rd X 13 (.slice A n cp) n (fl enc l)) := fun X h => hr.below h
 have HLN := Lib.hid hln;clear hr
 go_enter Tryd.func13, Tryd.ntmps13
 go_upto_region 1 with fail;obtain ⟨W0, hW0, hB0, hb⟩ := start1 w 26 [.int .i64 c, .slice A n cp];rw [← hW0];clear hW0;rw [hln] at hln0;refine jp ?_;refine jn (.pointer (some ⟨w.heap.size, 0, none⟩)) ?_;refine jf (.int .i64 c) hB0 0 load_int ?_;refine jv (.bool true) (exec_gtr _ _ _ _ (by rfl) .i64 c 100 (by rfl) (by rfl) true (decide_eq_true (by omega))) ?_;refine jm (.bool true) ?_;refine js ?_;refine js ?_;refine js ?_;refine js ?_;refine jm (.bool true) ?_;refine jzb hb fun X1 hX1 hb => ?_;replace hB0 := hB0.bel hX1;clear hX1;go_upto_region 2 with fail;refine jp ?_;refine jm (.int .i64 2) ?_;refine jzb hb fun X2 hX2 hb => ?_;replace hB0 := hB0.bel hX2;clear hX2;have HC : Hid (acE c l = 2) := acE_lim (by omega)
 go_wp2
 go_ret
 exact ⟨by rw [HC.out]; rfl, hb⟩
theorem ack1 (c : Int) (v : Value) (l : List En) (w : World) (hv : Es l v w) (h0 : c ≤ 100) (h : 4000 < l.length) : Calls Tryd.prog 13 #[.agg #[.int .i64 c, v]] w fun e w' => e = .returned (.int .i64 (acE c l)) ∧ Since w w' := by
 have hln0 : l.length ≤ 4000 ∨ 4000 < l.length := by omega
 obtain ⟨A, n, cp, rfl, hln, hn1, hr⟩ := hv.at;clear hv
 have HRX : Hid (∀ X, Since w X → Rd X 13 (.slice A n cp) n (fl enc l)) := fun X h => hr.below h
 have HLN := Lib.hid hln;clear hr
 go_enter Tryd.func13, Tryd.ntmps13
 go_upto_region 1 with fail;obtain ⟨W0, hW0, hB0, hb⟩ := start1 w 26 [.int .i64 c, .slice A n cp];rw [← hW0];clear hW0;rw [hln] at h;refine jp ?_;refine jn (.pointer (some ⟨w.heap.size, 0, none⟩)) ?_;refine jf (.int .i64 c) hB0 0 load_int ?_;refine jv (.bool false) (exec_gtr _ _ _ _ (by rfl) .i64 c 100 (by rfl) (by rfl) false (decide_eq_false (by omega))) ?_;refine jm (.bool false) ?_;refine jn (.pointer (some ⟨w.heap.size, 1, none⟩)) ?_;refine jf (.slice A n cp) hB0 1 load_ens ?_;refine jv (.int .i64 (n : Int)) (exec_lenv Tryd.underlying22 _ (by rfl) A n cp (by rfl) _ rfl) ?_;refine jv (.bool true) (exec_gtr _ _ _ _ (by rfl) .i64 (n : Int) 4000 (by rfl) (by rfl) true (decide_eq_true (by omega))) ?_;refine jm (.bool true) ?_;refine jzb hb fun X1 hX1 hb => ?_;replace hB0 := hB0.bel hX1;clear hX1;go_upto_region 2 with fail;refine jp ?_;refine jm (.int .i64 2) ?_;refine jzb hb fun X2 hX2 hb => ?_;replace hB0 := hB0.bel hX2;clear hX2;have HC : Hid (acE c l = 2) := acE_lim (by rw [HLN.out]; omega)
 go_wp2
 go_ret
 exact ⟨by rw [HC.out]; rfl, hb⟩
theorem ack2 (c : Int) (v : Value) (l : List En) (w : World) (hv : Es l v w) (h0 : c ≤ 100) (h1 : l.length ≤ 4000) (h : c < 1) : Calls Tryd.prog 13 #[.agg #[.int .i64 c, v]] w fun e w' => e = .returned (.int .i64 (acE c l)) ∧ Since w w' := by
 have hln0 : l.length ≤ 4000 ∨ 4000 < l.length := by omega
 obtain ⟨A, n, cp, rfl, hln, hn1, hr⟩ := hv.at;clear hv
 have HRX : Hid (∀ X, Since w X → Rd X 13 (.slice A n cp) n (fl enc l)) := fun X h => hr.below h
 have HLN := Lib.hid hln;clear hr
 go_enter Tryd.func13, Tryd.ntmps13
 go_upto_region 1 with fail;obtain ⟨W0, hW0, hB0, hb⟩ := start1 w 26 [.int .i64 c, .slice A n cp];rw [← hW0];clear hW0;rw [hln] at h1;refine jp ?_;refine jn (.pointer (some ⟨w.heap.size, 0, none⟩)) ?_;refine jf (.int .i64 c) hB0 0 load_int ?_;refine jv (.bool false) (exec_gtr _ _ _ _ (by rfl) .i64 c 100 (by rfl) (by rfl) false (decide_eq_false (by omega))) ?_;refine jm (.bool false) ?_;refine jn (.pointer (some ⟨w.heap.size, 1, none⟩)) ?_;refine jf (.slice A n cp) hB0 1 load_ens ?_;refine jv (.int .i64 (n : Int)) (exec_lenv Tryd.underlying22 _ (by rfl) A n cp (by rfl) _ rfl) ?_;refine jv (.bool false) (exec_gtr _ _ _ _ (by rfl) .i64 (n : Int) 4000 (by rfl) (by rfl) false (decide_eq_false (by omega))) ?_;refine jm (.bool false) ?_;refine jzb hb fun X1 hX1 hb => ?_;replace hB0 := hB0.bel hX1;clear hX1;go_upto_region 3 with fail;refine jp ?_;refine jn (.pointer (some ⟨w.heap.size, 0, none⟩)) ?_;refine jf (.int .i64 c) hB0 0 load_int ?_;refine jv (.bool true) (exec_lss _ _ _ _ (by rfl) .i64 c 1 (by rfl) (by rfl) true (decide_eq_true (by omega))) ?_;refine jzb hb fun X2 hX2 hb => ?_;replace hB0 := hB0.bel hX2;clear hX2;go_upto_region 4 with fail;refine jp ?_;refine jm (.int .i64 3) ?_;refine jzb hb fun X3 hX3 hb => ?_;replace hB0 := hB0.bel hX3;clear hX3;have HC : Hid (acE c l = 3) := acE_rng h (by rw [HLN.out]; exact h1)
 go_wp2
 go_ret
 exact ⟨by rw [HC.out]; rfl, hb⟩
theorem ackM (c : Int) (v : Value) (l : List En) (w : World) (hv : Es l v w) (hs : Hid (∀ k, tz (en l k).am.2.1 (en l k).am.2.2 1000000)) (hc1 : 1 ≤ c) (hc2 : c ≤ 100) (h4 : l.length ≤ 4000) : Calls Tryd.prog 13 #[.agg #[.int .i64 c, v]] w fun e w' => e = .returned (.int .i64 (acE c l)) ∧ Since w w' := by
 obtain ⟨A, n, cp, rfl, hln, hn1, hr⟩ := hv.at;clear hv
 have HRX : Hid (∀ X, Since w X → Rd X 13 (.slice A n cp) n (fl enc l)) := fun X h => hr.below h
 have HLN := Lib.hid hln;clear hr
 go_enter Tryd.func13, Tryd.ntmps13
 go_upto_region 1 with fail;obtain ⟨W0, hW0, hB0, hb⟩ := start1 w 26 [.int .i64 c, .slice A n cp];rw [← hW0];clear hW0;rw [hln] at h4;have hcp := HRX.out w (Below.refl _ _);replace hcp := Es.cap hcp;refine jp ?_;refine jn (.pointer (some ⟨w.heap.size, 0, none⟩)) ?_;refine jf (.int .i64 c) hB0 0 load_int ?_;refine jv (.bool false) (exec_gtr _ _ _ _ (by rfl) .i64 c 100 (by rfl) (by rfl) false (decide_eq_false (by omega))) ?_;refine jm (.bool false) ?_;refine jn (.pointer (some ⟨w.heap.size, 1, none⟩)) ?_;refine jf (.slice A n cp) hB0 1 load_ens ?_;refine jv (.int .i64 (n : Int)) (exec_lenv Tryd.underlying22 _ (by rfl) A n cp (by rfl) _ rfl) ?_;refine jv (.bool false) (exec_gtr _ _ _ _ (by rfl) .i64 (n : Int) 4000 (by rfl) (by rfl) false (decide_eq_false (by omega))) ?_;refine jm (.bool false) ?_;refine jzb hb fun X1 hX1 hb => ?_;replace hB0 := hB0.bel hX1;clear hX1;go_upto_region 3 with fail;refine jp ?_;refine jn (.pointer (some ⟨w.heap.size, 0, none⟩)) ?_;refine jf (.int .i64 c) hB0 0 load_int ?_;refine jv (.bool false) (exec_lss _ _ _ _ (by rfl) .i64 c 1 (by rfl) (by rfl) false (decide_eq_false (by omega))) ?_;refine jzb hb fun X2 hX2 hb => ?_;replace hB0 := hB0.bel hX2;clear hX2;go_upto_region 5 with fail;refine lx_plain [some (Mpn (w.heap.size + 1))] (lasts_some (Mpn.lasts _) (lasts_nil)) ?_;simp only [iX, Nat.reduceAdd];refine lx_new (by rfl) (fun X hX hF => exec_mkm (by rfl) (Nat.succ_le_of_lt (hB0.bel hX).lt)) ?_;intro v19;simp only [pX];refine jm (v19) ?_;refine lx_nil ?_
 intro X3 hX3 hF;have hv19 := hF _ _ List.mem_cons_self;replace hB0 := hB0.bel hX3;have hb := bel_next hb hX3;clear hF hX3;obtain ⟨m, rfl, hm, hM⟩ := hv19;go_upto_region 6 with fail;refine jp ?_;refine jn (.pointer (some ⟨w.heap.size, 1, none⟩)) ?_;refine jf (.slice A n cp) hB0 1 load_ens ?_;refine jv (.int .i64 (n : Int)) (exec_lenv Tryd.underlying22 _ (by rfl) A n cp (by rfl) _ rfl) ?_;refine jm (.int .i64 0) ?_;refine jzb hb fun X4 hX4 hb => ?_;replace hM := (Mpb.lasts _ _) _ _ _ hM hX4;replace hB0 := hB0.bel hX4;clear hX4;have hM : Mpb 0 (fun j => und (l.take 0) j) (.map (some m)) X4 := hM
 go_wp2
 go_loopw [23] (fun kv wr => ∃ k : Nat, k ≤ n ∧ kv = .int .i64 (k : Int) ∧ Hid (∀ j, j < k → okE c l j = true) ∧ Blk wr w.heap.size 26 [.int .i64 c, .slice A n cp] ∧ Mpb k (fun j => und (l.take k) j) (.map (some m)) wr ∧ Below w.heap.size w wr) (fun kv _ => n - (intOf kv).toNat)
 case atStart => exact ⟨0, by omega, rfl, (fun j hj => by omega), hB0, hM, hb⟩
 case round =>
  clear hB0 hb hM;obtain ⟨k, hk, rfl, HZ, hB0, hM, hb⟩ := hrel
  rcases Nat.lt_or_ge k n with hlt | hlt
  ·obtain ⟨b, off, rfl, hbb, hcx⟩ := enAt (HRX.out _ hb) HLN.out hlt
   obtain ⟨x, x9⟩ : ∃ x, x = en l k := ⟨_, rfl⟩;have HX := Lib.hid x9;clear x9;rw [← HX.out] at hcx
   change Cl wr b (off + k * 13) [.int .i64 x.day, .int .i64 x.deb, .int .i64 x.cre, .bool x.am.1, .string ⟨x.am.2.1.toArray⟩, .string ⟨x.am.2.2.toArray⟩, .int .i64 x.kd, .int .i64 x.pd, .int .i64 x.rf, .int .i64 x.w1, .int .i64 x.w2, .int .i64 x.w3, .int .i64 x.w4] at hcx
   have hxs : tz x.am.2.1 x.am.2.2 1000000 := by rw [HX.out]; exact hs.out k
   go_upto_region 7 with fail;refine jp ?_;refine jv (.bool true) (exec_lss _ _ _ _ (by rfl) .i64 (k : Int) (n : Int) (by rfl) (by rfl) true (decide_eq_true (by omega))) ?_;refine jzb hb fun X1 hX1 hb => ?_;replace hM := (Mpb.lasts _ _) _ _ _ hM hX1;replace hB0 := hB0.bel hX1;have hcx := hcx.below hX1 hbb;replace hbb := Nat.lt_of_lt_of_le hbb (hX1).size;clear hX1;go_upto_region 8 with fail;refine jq 3 ?_;refine jm (.int .i64 (k : Int)) ?_;refine jv (.pointer (some ⟨b, off + k * 13, none⟩)) (exec_ixv Tryd.underlying22 info_en _ _ (by rfl) b (off) n cp k (by omega) (by rfl) (by rfl) rfl) ?_;refine jg (.agg #[.int .i64 x.day, .int .i64 x.deb, .int .i64 x.cre, .bool x.am.1, st x.am.2.1, st x.am.2.2, .int .i64 x.kd, .int .i64 x.pd, .int .i64 x.rf, .int .i64 x.w1, .int .i64 x.w2, .int .i64 x.w3, .int .i64 x.w4]) (fun X hX hF => exec_ldc 36 _ (by rfl) b (off + k * 13) (by rfl) Tryd.underlying36 rfl [.int .i64 x.day, .int .i64 x.deb, .int .i64 x.cre, .bool x.am.1, .string ⟨x.am.2.1.toArray⟩, .string ⟨x.am.2.2.toArray⟩, .int .i64 x.kd, .int .i64 x.pd, .int .i64 x.rf, .int .i64 x.w1, .int .i64 x.w2, .int .i64 x.w3, .int .i64 x.w4] X (Cl.part (hcx.below hX hbb) 0 _ (by rfl)) info_en) ?_;refine jzb hb fun X2 hX2 hb => ?_;replace hM := (Mpb.lasts _ _) _ _ _ hM hX2;have hml := Mpb.lt hM;replace hB0 := hB0.bel hX2;have hcx := hcx.below hX2 hbb;replace hbb := Nat.lt_of_lt_of_le hbb (hX2).size;clear hX2;go_upto_region 9 with (refine osn 36 5 27 #[.int .i64 x.day, .int .i64 x.deb, .int .i64 x.cre, .bool x.am.1, .string ⟨x.am.2.1.toArray⟩, .string ⟨x.am.2.2.toArray⟩, .int .i64 x.kd, .int .i64 x.pd, .int .i64 x.rf, .int .i64 x.w1, .int .i64 x.w2, .int .i64 x.w3, .int .i64 x.w4] info_en ?_)
   obtain ⟨Y2, hY9, hD5, hS9⟩ := start1 X2 36 [.int .i64 x.day, .int .i64 x.deb, .int .i64 x.cre, .bool x.am.1, .string ⟨x.am.2.1.toArray⟩, .string ⟨x.am.2.2.toArray⟩, .int .i64 x.kd, .int .i64 x.pd, .int .i64 x.rf, .int .i64 x.w1, .int .i64 x.w2, .int .i64 x.w3, .int .i64 x.w4];rw [← hY9];clear hY9;have hgs5 := hb.size;have hlt5x0 := hB0.lt;have hml := Mpb.lt hM;have hcx := hcx.below hS9 hbb;replace hbb := Nat.lt_of_lt_of_le hbb (hS9).size;have hB0 := hB0.bel hS9;have hM := (Mpb.lasts _ _) _ _ _ hM hS9;have hb := bel_next hb hS9;clear hS9;generalize X2.heap.size = g5 at *;replace hm : w.heap.size + 1 ≤ m := hm;obtain ⟨rr, r9⟩ : ∃ rr, rgt c k x = rr := ⟨_, rfl⟩;have HR := Lib.hid r9;clear r9
   rcases rr with _ | _
   ·go_upto_region 9 with fail
    refine jd ?_;refine jn (.pointer (some ⟨w.heap.size, 0, none⟩)) ?_;refine jf (.int .i64 c) hB0 0 load_int ?_;refine jn (.pointer (some ⟨w.heap.size, 1, none⟩)) ?_;refine jf (.slice (some ⟨b, off, none⟩) n cp) hB0 1 load_ens ?_;refine jm (.int .i64 (k : Int)) ?_;refine jv (.slice (some ⟨b, off, none⟩) k cp) (exec_pre Tryd.underlying22 info_en _ _ (by rfl) (some ⟨b, off, none⟩) n cp k (by omega) (by rfl) (by rfl) rfl) ?_;refine jn (.agg #[.int .i64 c, .slice (some ⟨b, off, none⟩) k cp]) ?_;refine ja hD5 Tryd.underlying36 (by rfl) info_en ?_;refine jc (.bool false) (fun X hX hF => mo (rgtC c (some ⟨b, off, none⟩) k cp x X (by omega) hxs) (by rw [HR.out])) ?_;refine jm (.bool true) ?_;refine jm (.bool true) ?_;refine js ?_;refine js ?_;refine js ?_;refine js ?_;refine js ?_;refine js ?_;refine js ?_;refine js ?_;refine js ?_;refine js ?_;refine js ?_;refine js ?_;refine js ?_;refine js ?_;refine jm (.bool true) ?_;refine jzb hb fun X3 hX3 hb => ?_;replace hM := (Mpb.lasts _ _) _ _ _ hM hX3;have hml := Mpb.lt hM;replace hB0 := hB0.bel hX3;replace hD5 := hD5.bel hX3;clear hX3;go_upto_region 10 with fail;refine jp ?_;refine jm (.int .i64 1) ?_;refine jzb hb fun X4 hX4 hb => ?_;replace hM := (Mpb.lasts _ _) _ _ _ hM hX4;have hml := Mpb.lt hM;replace hB0 := hB0.bel hX4;replace hD5 := hD5.bel hX4;clear hX4;have HC : Hid (acE c l = 1) := acE_bad hc1 hc2 (by rw [HLN.out]; exact h4) (k := k) (by rw [HLN.out]; exact hlt) (okE_f (.inl (by rw [← HX.out]; exact HR.out)))
    go_wp2
    go_ret
    exact ⟨by rw [HC.out]; rfl, hb⟩
   ·rcases Nat.eq_zero_or_pos k with hk0 | hk0
    ·have hday : ¬ (0 < k ∧ x.day < (en l (k - 1)).day) := by omega
     go_upto_region 9 with fail;refine jd ?_;refine jn (.pointer (some ⟨w.heap.size, 0, none⟩)) ?_;refine jf (.int .i64 c) hB0 0 load_int ?_;refine jn (.pointer (some ⟨w.heap.size, 1, none⟩)) ?_;refine jf (.slice (some ⟨b, off, none⟩) n cp) hB0 1 load_ens ?_;refine jm (.int .i64 (k : Int)) ?_;refine jv (.slice (some ⟨b, off, none⟩) k cp) (exec_pre Tryd.underlying22 info_en _ _ (by rfl) (some ⟨b, off, none⟩) n cp k (by omega) (by rfl) (by rfl) rfl) ?_;refine jn (.agg #[.int .i64 c, .slice (some ⟨b, off, none⟩) k cp]) ?_;refine ja hD5 Tryd.underlying36 (by rfl) info_en ?_;refine jc (.bool true) (fun X hX hF => mo (rgtC c (some ⟨b, off, none⟩) k cp x X (by omega) hxs) (by rw [HR.out])) ?_;refine jm (.bool false) ?_;refine jm (.bool false) ?_;refine jm (.int .i64 (k : Int)) ?_;refine jv (.bool false) (exec_gtr _ _ _ _ (by rfl) .i64 (k : Int) 0 (by rfl) (by rfl) false (decide_eq_false (by omega))) ?_;refine jm (.bool false) ?_;refine js ?_;refine js ?_;refine js ?_;refine js ?_;refine js ?_;refine js ?_;refine js ?_;refine js ?_;refine js ?_;refine js ?_;refine jm (.bool false) ?_;refine jm (.bool false) ?_;refine jzb hb fun X3 hX3 hb => ?_;replace hM := (Mpb.lasts _ _) _ _ _ hM hX3;have hml := Mpb.lt hM;replace hB0 := hB0.bel hX3;replace hD5 := hD5.bel hX3;clear hX3;have HG : Hid (Rg c k x) := rgt_t.1 HR.out
     rcases (show x.kd ≠ 4 ∨ x.kd = 4 by omega) with hkd | hkd
     ·go_upto_region 11 with fail
      refine jp ?_;refine jn (.pointer (some ⟨g5, 6, none⟩)) ?_;refine jn (.pointer (some ⟨g5, 6, none⟩)) ?_;refine jf (.int .i64 x.kd) hD5 6 load_int ?_;refine jv (.bool true) (exec_nei _ _ _ _ (by rfl) .i64 x.kd 4 (by rfl) (by rfl) true (by rw [decide_eq_false (by omega)]; rfl)) ?_;refine jzb hb fun X4 hX4 hb => ?_;replace hM := (Mpb.lasts _ _) _ _ _ hM hX4;have hml := Mpb.lt hM;replace hB0 := hB0.bel hX4;replace hD5 := hD5.bel hX4;clear hX4;have HOK : Hid (okE c l k = true) := okE_t (by rw [← HX.out]; exact HR.out) (by rw [← HX.out]; exact hday) (fun h9 => by rw [← HX.out] at h9; exact absurd h9 hkd)
      have HF : Hid ((fun j => und (l.take (k + 1)) j) = fun j => und (l.take k) j) := funext fun j => by rw [und_take (by rw [HLN.out]; exact hlt), ← HX.out, decide_eq_false hkd]; simp
      replace hM := hM.mono (Nat.le_succ k);rw [← HF.out] at hM
      have HZ2 : Hid (∀ j, j < k + 1 → okE c l j = true) := fun j hj => by
       rcases Nat.lt_or_ge j k with h9 | h9
       ·exact HZ.out j h9
       ·rw [show j = k by omega]; exact HOK.out
      go_upto_region 17 with fail;refine jp ?_;refine jv (.int .i64 ((k + 1 : Nat) : Int)) (exec_add _ _ _ _ (by rfl) (k : Int) 1 ((k + 1 : Nat) : Int) (by rfl) (by rfl) (by omega) (by omega) (by omega)) ?_;refine jm (.int .i64 ((k + 1 : Nat) : Int)) ?_;refine jzb hb fun X5 hX5 hb => ?_;replace hM := (Mpb.lasts _ _) _ _ _ hM hX5;have hml := Mpb.lt hM;replace hB0 := hB0.bel hX5;replace hD5 := hD5.bel hX5;clear hX5
      go_wp2
      go_roundw
      case rel => exact ⟨k + 1, by omega, rfl, HZ2, hB0, hM, hb⟩
      case measure => simp [intOf]; omega
     ·go_upto_region 11 with fail
      refine jp ?_;refine jn (.pointer (some ⟨g5, 6, none⟩)) ?_;refine jn (.pointer (some ⟨g5, 6, none⟩)) ?_;refine jf (.int .i64 x.kd) hD5 6 load_int ?_;refine jv (.bool false) (exec_nei _ _ _ _ (by rfl) .i64 x.kd 4 (by rfl) (by rfl) false (by rw [decide_eq_true (by omega)]; rfl)) ?_;refine jzb hb fun X4 hX4 hb => ?_;replace hM := (Mpb.lasts _ _) _ _ _ hM hX4;have hml := Mpb.lt hM;replace hB0 := hB0.bel hX4;replace hD5 := hD5.bel hX4;clear hX4
      have hrf : 0 ≤ x.rf ∧ x.rf < (k : Int) := by
       have h9 := HG.out.rf
       rwa [if_pos hkd] at h9
      obtain ⟨r, hr⟩ : ∃ r : Nat, x.rf = (r : Int) := ⟨x.rf.toNat, by omega⟩;obtain ⟨y, y9⟩ : ∃ y, y = en l r := ⟨_, rfl⟩;have HY := Lib.hid y9;clear y9;have hwf : (Lit.int .i64 x.rf).wf = true := wf_i64 (by omega) (by omega)
      have HES : Hid (∀ X, Since w X → Es l (.slice (some ⟨b, off, none⟩) n cp) X) := fun X h => by show Rd X 13 _ l.length _; rw [HLN.out]; exact HRX.out X h
      go_upto_region 12 with fail;refine jq 8 ?_;refine jn (.pointer (some ⟨w.heap.size, 1, none⟩)) ?_;refine jf (.slice (some ⟨b, off, none⟩) n cp) hB0 1 load_ens ?_;refine jn (.pointer (some ⟨g5, 6, none⟩)) ?_;refine jn (.pointer (some ⟨g5, 8, none⟩)) ?_;refine jf (.int .i64 x.rf) hD5 8 load_int ?_;refine jn (.pointer (some ⟨g5, 0, none⟩)) ?_;refine jf (.int .i64 x.day) hD5 0 load_int ?_;refine jc (.agg #[.int .i64 x.day, .int .i64 y.cre, .int .i64 y.deb, .bool y.am.1, st y.am.2.1, st y.am.2.2, .int .i64 4, .int .i64 y.pd, .int .i64 x.rf, .int .i64 y.w1, .int .i64 y.w2, .int .i64 y.w3, .int .i64 y.w4]) (fun X hX hF => (oppI _ l r x.rf x.day y X hr (HES.out X (Since.next hb hX)) (by rw [HLN.out]; omega) HY.out).mono fun e X' ⟨h1, h2⟩ => ⟨h1, h2⟩) ?_;refine jzb hb fun X5 hX5 hb => ?_;replace hM := (Mpb.lasts _ _) _ _ _ hM hX5;have hml := Mpb.lt hM;replace hB0 := hB0.bel hX5;replace hD5 := hD5.bel hX5;clear hX5;go_upto_region 13 with (refine osn 36 6 65 #[.int .i64 x.day, .int .i64 y.cre, .int .i64 y.deb, .bool y.am.1, .string ⟨y.am.2.1.toArray⟩, .string ⟨y.am.2.2.toArray⟩, .int .i64 4, .int .i64 y.pd, .int .i64 x.rf, .int .i64 y.w1, .int .i64 y.w2, .int .i64 y.w3, .int .i64 y.w4] info_en ?_);obtain ⟨Y5, hY9, hD6, hS9⟩ := start1 X5 36 [.int .i64 x.day, .int .i64 y.cre, .int .i64 y.deb, .bool y.am.1, .string ⟨y.am.2.1.toArray⟩, .string ⟨y.am.2.2.toArray⟩, .int .i64 4, .int .i64 y.pd, .int .i64 x.rf, .int .i64 y.w1, .int .i64 y.w2, .int .i64 y.w3, .int .i64 y.w4];rw [← hY9];clear hY9
      have hgs6 := hb.size;have hlt6x0 := hB0.lt;have hlt6x1 := hD5.lt;have hml := Mpb.lt hM;have hB0 := hB0.bel hS9;have hD5 := hD5.bel hS9;have hM := (Mpb.lasts _ _) _ _ _ hM hS9;have hb := bel_next hb hS9;clear hS9;generalize X5.heap.size = g6 at *;go_upto_region 13 with fail;refine jq 5 ?_;refine jn (.pointer (some ⟨g5, 6, none⟩)) ?_;refine jn (.pointer (some ⟨g5, 9, none⟩)) ?_;refine jg (.agg #[.int .i64 x.w1, .int .i64 x.w2, .int .i64 x.w3, .int .i64 x.w4]) (fun X hX hF => exec_inr 32 _ (by rfl) g5 9 [.int .i64 x.w1, .int .i64 x.w2, .int .i64 x.w3, .int .i64 x.w4] (by rfl) Tryd.underlying32 rfl X (hD5.bel hX) (by rfl) info_ch) ?_;refine jn (.pointer (some ⟨g6, 6, none⟩)) ?_;refine jn (.pointer (some ⟨g6, 9, none⟩)) ?_;refine jzb hb fun X6 hX6 hb => ?_;replace hM := (Mpb.lasts _ _) _ _ _ hM hX6;have hml := Mpb.lt hM;replace hB0 := hB0.bel hX6;replace hD5 := hD5.bel hX6;replace hD6 := hD6.bel hX6;clear hX6;refine op_store_at rfl 32 (.tmp 70) (.tmp 68) rfl g6 36 _ hD6 9 rfl [.int .i64 x.w1, .int .i64 x.w2, .int .i64 x.w3, .int .i64 x.w4] rfl (by simp) (by intro u hu; simp only [List.mem_cons, List.not_mem_nil, or_false] at hu; rcases hu with rfl | rfl | rfl | rfl <;> rfl) info_ch ?_;intro w13 hR9 hG9 hs9
      change Blk w13 g6 36 [.int .i64 x.day, .int .i64 y.cre, .int .i64 y.deb, .bool y.am.1, .string ⟨y.am.2.1.toArray⟩, .string ⟨y.am.2.2.toArray⟩, .int .i64 4, .int .i64 y.pd, .int .i64 x.rf, .int .i64 x.w1, .int .i64 x.w2, .int .i64 x.w3, .int .i64 x.w4] at hR9
      have hb := bel_grown hG9 hb hb.size (by omega);replace hB0 := blk_grown hG9 hB0 (by omega);replace hD5 := blk_grown hG9 hD5 (by omega);replace hM := Mpb.grown hM hG9 (fun h9 => by injection h9 with h9; omega);have hD6 := hR9;clear hR9 hG9 hs9;obtain ⟨u, u9⟩ : ∃ u, und (l.take k) x.rf = u := ⟨_, rfl⟩;have HU := Lib.hid u9;clear u9;obtain ⟨d, d9⟩ : ∃ d, decide (x = { opp y x.rf x.day with w1 := x.w1, w2 := x.w2, w3 := x.w3, w4 := x.w4 }) = d := ⟨_, rfl⟩;have HD := Lib.hid d9;clear d9
      have HUD : Hid (undoes (l.take k) (en l k) = (!u && d)) := by
       show _ = _
       unfold undoes
       rw [← HX.out, en_take (show x.rf.toNat < k by omega), show x.rf.toNat = r by omega, ← HY.out, HU.out, HD.out]
      rcases u with _ | _
      ·rcases d with _ | _
       ·go_upto_region 14 with fail
        refine jp ?_;refine jm (.map (some m)) ?_;refine jn (.pointer (some ⟨g5, 6, none⟩)) ?_;refine jn (.pointer (some ⟨g5, 8, none⟩)) ?_;refine jf (.int .i64 x.rf) hD5 8 load_int ?_;refine jg (.bool false) (fun X hX hF => by simpa only [HU.out] using exec_lkb _ _ (by rfl) (by rfl) (by rfl) hwf X ((Mpb.lasts _ _) _ _ _ hM hX)) ?_;refine jm (.bool false) ?_;refine ja hD5 Tryd.underlying36 (by rfl) info_en ?_;refine ja hD6 Tryd.underlying36 (by rfl) info_en ?_;refine jv (.bool true) (exec_nen _ _ (by rfl) x { opp y x.rf x.day with w1 := x.w1, w2 := x.w2, w3 := x.w3, w4 := x.w4 } (by rfl) (by rfl) true (by rw [HD.out]; rfl)) ?_;refine jm (.bool true) ?_;refine jzb hb fun X7 hX7 hb => ?_;replace hM := (Mpb.lasts _ _) _ _ _ hM hX7;have hml := Mpb.lt hM;replace hB0 := hB0.bel hX7;replace hD5 := hD5.bel hX7;replace hD6 := hD6.bel hX7;clear hX7;go_upto_region 15 with fail;refine jp ?_;refine jm (.int .i64 1) ?_;refine jzb hb fun X8 hX8 hb => ?_;replace hM := (Mpb.lasts _ _) _ _ _ hM hX8;have hml := Mpb.lt hM;replace hB0 := hB0.bel hX8;replace hD5 := hD5.bel hX8;replace hD6 := hD6.bel hX8;clear hX8;have HC : Hid (acE c l = 1) := acE_bad hc1 hc2 (by rw [HLN.out]; exact h4) (k := k) (by rw [HLN.out]; exact hlt) (okE_f (.inr (.inr ⟨by rw [← HX.out]; exact hkd, by rw [HUD.out]; rfl⟩)))
        go_wp2
        go_ret
        exact ⟨by rw [HC.out]; rfl, hb⟩
       ·go_upto_region 14 with fail
        refine jp ?_;refine jm (.map (some m)) ?_;refine jn (.pointer (some ⟨g5, 6, none⟩)) ?_;refine jn (.pointer (some ⟨g5, 8, none⟩)) ?_;refine jf (.int .i64 x.rf) hD5 8 load_int ?_;refine jg (.bool false) (fun X hX hF => by simpa only [HU.out] using exec_lkb _ _ (by rfl) (by rfl) (by rfl) hwf X ((Mpb.lasts _ _) _ _ _ hM hX)) ?_;refine jm (.bool false) ?_;refine ja hD5 Tryd.underlying36 (by rfl) info_en ?_;refine ja hD6 Tryd.underlying36 (by rfl) info_en ?_;refine jv (.bool false) (exec_nen _ _ (by rfl) x { opp y x.rf x.day with w1 := x.w1, w2 := x.w2, w3 := x.w3, w4 := x.w4 } (by rfl) (by rfl) false (by rw [HD.out]; rfl)) ?_;refine jm (.bool false) ?_;refine jzb hb fun X7 hX7 hb => ?_;replace hM := (Mpb.lasts _ _) _ _ _ hM hX7;have hml := Mpb.lt hM;replace hB0 := hB0.bel hX7;replace hD5 := hD5.bel hX7;replace hD6 := hD6.bel hX7;clear hX7;have HOK : Hid (okE c l k = true) := okE_t (by rw [← HX.out]; exact HR.out) (by rw [← HX.out]; exact hday) (fun _ => by rw [HUD.out]; rfl);go_upto_region 16 with fail;refine jq 4 ?_;refine jm (.map (some m)) ?_;refine jn (.pointer (some ⟨g5, 6, none⟩)) ?_;refine jn (.pointer (some ⟨g5, 8, none⟩)) ?_;refine jf (.int .i64 x.rf) hD5 8 load_int ?_;refine jzb hb fun X8 hX8 hb => ?_;replace hM := (Mpb.lasts _ _) _ _ _ hM hX8;have hml := Mpb.lt hM;replace hB0 := hB0.bel hX8;replace hD5 := hD5.bel hX8;replace hD6 := hD6.bel hX8;clear hX8;refine op_mpb rfl (.tmp 81) (.tmp 84) _ rfl (b := m) (k := x.rf) (y := true) rfl rfl rfl hwf hM (by unfold maxLen; omega) ?_
        intro w16 hM2 hG9;have hb := bel_grown hG9 hb hb.size (by omega);replace hB0 := blk_grown hG9 hB0 (by omega)
        have HF : Hid ((fun j => if j = x.rf then true else und (l.take k) j) = fun j => und (l.take (k + 1)) j) := funext fun j => by
         rw [und_take (by rw [HLN.out]; exact hlt), ← HX.out, decide_eq_true hkd]
         by_cases h9 : j = x.rf
         ·rw [if_pos h9, decide_eq_true h9.symm]; simp
         ·rw [if_neg h9, decide_eq_false (fun h8 => h9 h8.symm)]; simp
        replace hM : Mpb (k + 1) (fun j => und (l.take (k + 1)) j) (.map (some m)) w16 := by rw [← HF.out]; exact hM2
        clear hM2 hG9 hD5 hD6;refine wpList_nil ?_
        have HZ2 : Hid (∀ j, j < k + 1 → okE c l j = true) := fun j hj => by
         rcases Nat.lt_or_ge j k with h9 | h9
         ·exact HZ.out j h9
         ·rw [show j = k by omega]; exact HOK.out
        go_upto_region 17 with fail;refine jp ?_;refine jv (.int .i64 ((k + 1 : Nat) : Int)) (exec_add _ _ _ _ (by rfl) (k : Int) 1 ((k + 1 : Nat) : Int) (by rfl) (by rfl) (by omega) (by omega) (by omega)) ?_;refine jm (.int .i64 ((k + 1 : Nat) : Int)) ?_;refine jzb hb fun X9 hX9 hb => ?_;replace hM := (Mpb.lasts _ _) _ _ _ hM hX9;have hml := Mpb.lt hM;replace hB0 := hB0.bel hX9;clear hX9
        go_wp2
        go_roundw
        case rel => exact ⟨k + 1, by omega, rfl, HZ2, hB0, hM, hb⟩
        case measure => simp [intOf]; omega
      ·go_upto_region 14 with fail
       refine jp ?_;refine jm (.map (some m)) ?_;refine jn (.pointer (some ⟨g5, 6, none⟩)) ?_;refine jn (.pointer (some ⟨g5, 8, none⟩)) ?_;refine jf (.int .i64 x.rf) hD5 8 load_int ?_;refine jg (.bool true) (fun X hX hF => by simpa only [HU.out] using exec_lkb _ _ (by rfl) (by rfl) (by rfl) hwf X ((Mpb.lasts _ _) _ _ _ hM hX)) ?_;refine jm (.bool true) ?_;refine js ?_;refine js ?_;refine js ?_;refine jm (.bool true) ?_;refine jzb hb fun X7 hX7 hb => ?_;replace hM := (Mpb.lasts _ _) _ _ _ hM hX7;have hml := Mpb.lt hM;replace hB0 := hB0.bel hX7;replace hD5 := hD5.bel hX7;replace hD6 := hD6.bel hX7;clear hX7;go_upto_region 15 with fail;refine jp ?_;refine jm (.int .i64 1) ?_;refine jzb hb fun X8 hX8 hb => ?_;replace hM := (Mpb.lasts _ _) _ _ _ hM hX8;have hml := Mpb.lt hM;replace hB0 := hB0.bel hX8;replace hD5 := hD5.bel hX8;replace hD6 := hD6.bel hX8;clear hX8;have HC : Hid (acE c l = 1) := acE_bad hc1 hc2 (by rw [HLN.out]; exact h4) (k := k) (by rw [HLN.out]; exact hlt) (okE_f (.inr (.inr ⟨by rw [← HX.out]; exact hkd, by rw [HUD.out]; rfl⟩)))
       go_wp2
       go_ret
       exact ⟨by rw [HC.out]; rfl, hb⟩
    ·obtain ⟨j, hj⟩ : ∃ j, k = j + 1 := ⟨k - 1, by omega⟩
     obtain ⟨p, p9⟩ : ∃ p, p = en l (k - 1) := ⟨_, rfl⟩;have HP := Lib.hid p9;clear p9;obtain ⟨hbp, hcp9⟩ := enAt2 (HRX.out _ hb) HLN.out (k := j) (by omega);rw [show en l j = p by rw [HP.out, hj, Nat.add_sub_cancel]] at hcp9
     change Cl Y2 b (off + j * 13) [.int .i64 p.day, .int .i64 p.deb, .int .i64 p.cre, .bool p.am.1, .string ⟨p.am.2.1.toArray⟩, .string ⟨p.am.2.2.toArray⟩, .int .i64 p.kd, .int .i64 p.pd, .int .i64 p.rf, .int .i64 p.w1, .int .i64 p.w2, .int .i64 p.w3, .int .i64 p.w4] at hcp9
     rcases (show x.day < p.day ∨ p.day ≤ x.day by omega) with hdd | hdd
     ·go_upto_region 9 with fail
      refine jd ?_;refine jn (.pointer (some ⟨w.heap.size, 0, none⟩)) ?_;refine jf (.int .i64 c) hB0 0 load_int ?_;refine jn (.pointer (some ⟨w.heap.size, 1, none⟩)) ?_;refine jf (.slice (some ⟨b, off, none⟩) n cp) hB0 1 load_ens ?_;refine jm (.int .i64 (k : Int)) ?_;refine jv (.slice (some ⟨b, off, none⟩) k cp) (exec_pre Tryd.underlying22 info_en _ _ (by rfl) (some ⟨b, off, none⟩) n cp k (by omega) (by rfl) (by rfl) rfl) ?_;refine jn (.agg #[.int .i64 c, .slice (some ⟨b, off, none⟩) k cp]) ?_;refine ja hD5 Tryd.underlying36 (by rfl) info_en ?_;refine jc (.bool true) (fun X hX hF => mo (rgtC c (some ⟨b, off, none⟩) k cp x X (by omega) hxs) (by rw [HR.out])) ?_;refine jm (.bool false) ?_;refine jm (.bool false) ?_;refine jm (.int .i64 (k : Int)) ?_;refine jv (.bool true) (exec_gtr _ _ _ _ (by rfl) .i64 (k : Int) 0 (by rfl) (by rfl) true (decide_eq_true (by omega))) ?_;refine jm (.bool true) ?_;refine jn (.pointer (some ⟨g5, 0, none⟩)) ?_;refine jf (.int .i64 x.day) hD5 0 load_int ?_;refine jn (.pointer (some ⟨w.heap.size, 1, none⟩)) ?_;refine jf (.slice (some ⟨b, off, none⟩) n cp) hB0 1 load_ens ?_;refine jm (.int .i64 (k : Int)) ?_;refine jv (.int .i64 (j : Int)) (exec_sub _ _ _ _ (by rfl) (k : Int) 1 (j : Int) (by rfl) (by rfl) (by omega) (by omega) (by omega)) ?_;refine jv (.pointer (some ⟨b, off + j * 13, none⟩)) (exec_ixv Tryd.underlying22 info_en _ _ (by rfl) b (off) n cp j (by omega) (by rfl) (by rfl) rfl) ?_;refine jn (.pointer (some ⟨b, off + j * 13, none⟩)) ?_;refine jg (.int .i64 p.day) (fun X hX hF => exec_ld 3 _ (by rfl) b (off + j * 13) (by rfl) _ X ((hcp9.below hX hbp) 0 _ rfl) (fun X u h => load_int b (off + j * 13) X u h)) ?_
      refine jv (.bool true) (exec_lss _ _ _ _ (by rfl) .i64 x.day p.day (by rfl) (by rfl) true (decide_eq_true (by omega))) ?_;refine jm (.bool true) ?_;refine jm (.bool true) ?_;refine jzb hb fun X3 hX3 hb => ?_;replace hM := (Mpb.lasts _ _) _ _ _ hM hX3;have hml := Mpb.lt hM;replace hB0 := hB0.bel hX3;replace hD5 := hD5.bel hX3;have hcp9 := hcp9.below hX3 hbp;replace hbp := Nat.lt_of_lt_of_le hbp (hX3).size;clear hX3;go_upto_region 10 with fail;refine jp ?_;refine jm (.int .i64 1) ?_;refine jzb hb fun X4 hX4 hb => ?_;replace hM := (Mpb.lasts _ _) _ _ _ hM hX4;have hml := Mpb.lt hM;replace hB0 := hB0.bel hX4;replace hD5 := hD5.bel hX4;clear hX4;have HC : Hid (acE c l = 1) := acE_bad hc1 hc2 (by rw [HLN.out]; exact h4) (k := k) (by rw [HLN.out]; exact hlt) (okE_f (.inr (.inl ⟨by omega, by rw [← HX.out, ← HP.out]; exact hdd⟩)))
      go_wp2
      go_ret
      exact ⟨by rw [HC.out]; rfl, hb⟩
     ·have hday : ¬ (0 < k ∧ x.day < (en l (k - 1)).day) := fun h9 => by rw [← HP.out] at h9; omega
      go_upto_region 9 with fail;refine jd ?_;refine jn (.pointer (some ⟨w.heap.size, 0, none⟩)) ?_;refine jf (.int .i64 c) hB0 0 load_int ?_;refine jn (.pointer (some ⟨w.heap.size, 1, none⟩)) ?_;refine jf (.slice (some ⟨b, off, none⟩) n cp) hB0 1 load_ens ?_;refine jm (.int .i64 (k : Int)) ?_;refine jv (.slice (some ⟨b, off, none⟩) k cp) (exec_pre Tryd.underlying22 info_en _ _ (by rfl) (some ⟨b, off, none⟩) n cp k (by omega) (by rfl) (by rfl) rfl) ?_;refine jn (.agg #[.int .i64 c, .slice (some ⟨b, off, none⟩) k cp]) ?_;refine ja hD5 Tryd.underlying36 (by rfl) info_en ?_;refine jc (.bool true) (fun X hX hF => mo (rgtC c (some ⟨b, off, none⟩) k cp x X (by omega) hxs) (by rw [HR.out])) ?_;refine jm (.bool false) ?_;refine jm (.bool false) ?_;refine jm (.int .i64 (k : Int)) ?_;refine jv (.bool true) (exec_gtr _ _ _ _ (by rfl) .i64 (k : Int) 0 (by rfl) (by rfl) true (decide_eq_true (by omega))) ?_;refine jm (.bool true) ?_;refine jn (.pointer (some ⟨g5, 0, none⟩)) ?_;refine jf (.int .i64 x.day) hD5 0 load_int ?_;refine jn (.pointer (some ⟨w.heap.size, 1, none⟩)) ?_;refine jf (.slice (some ⟨b, off, none⟩) n cp) hB0 1 load_ens ?_;refine jm (.int .i64 (k : Int)) ?_;refine jv (.int .i64 (j : Int)) (exec_sub _ _ _ _ (by rfl) (k : Int) 1 (j : Int) (by rfl) (by rfl) (by omega) (by omega) (by omega)) ?_;refine jv (.pointer (some ⟨b, off + j * 13, none⟩)) (exec_ixv Tryd.underlying22 info_en _ _ (by rfl) b (off) n cp j (by omega) (by rfl) (by rfl) rfl) ?_;refine jn (.pointer (some ⟨b, off + j * 13, none⟩)) ?_
      refine jg (.int .i64 p.day) (fun X hX hF => exec_ld 3 _ (by rfl) b (off + j * 13) (by rfl) _ X ((hcp9.below hX hbp) 0 _ rfl) (fun X u h => load_int b (off + j * 13) X u h)) ?_;refine jv (.bool false) (exec_lss _ _ _ _ (by rfl) .i64 x.day p.day (by rfl) (by rfl) false (decide_eq_false (by omega))) ?_;refine jm (.bool false) ?_;refine jm (.bool false) ?_;refine jzb hb fun X3 hX3 hb => ?_;replace hM := (Mpb.lasts _ _) _ _ _ hM hX3;have hml := Mpb.lt hM;replace hB0 := hB0.bel hX3;replace hD5 := hD5.bel hX3;have hcp9 := hcp9.below hX3 hbp;replace hbp := Nat.lt_of_lt_of_le hbp (hX3).size;clear hX3;have HG : Hid (Rg c k x) := rgt_t.1 HR.out
      rcases (show x.kd ≠ 4 ∨ x.kd = 4 by omega) with hkd | hkd
      ·go_upto_region 11 with fail
       refine jp ?_;refine jn (.pointer (some ⟨g5, 6, none⟩)) ?_;refine jn (.pointer (some ⟨g5, 6, none⟩)) ?_;refine jf (.int .i64 x.kd) hD5 6 load_int ?_;refine jv (.bool true) (exec_nei _ _ _ _ (by rfl) .i64 x.kd 4 (by rfl) (by rfl) true (by rw [decide_eq_false (by omega)]; rfl)) ?_;refine jzb hb fun X4 hX4 hb => ?_;replace hM := (Mpb.lasts _ _) _ _ _ hM hX4;have hml := Mpb.lt hM;replace hB0 := hB0.bel hX4;replace hD5 := hD5.bel hX4;clear hX4;have HOK : Hid (okE c l k = true) := okE_t (by rw [← HX.out]; exact HR.out) (by rw [← HX.out]; exact hday) (fun h9 => by rw [← HX.out] at h9; exact absurd h9 hkd)
       have HF : Hid ((fun j => und (l.take (k + 1)) j) = fun j => und (l.take k) j) := funext fun j => by rw [und_take (by rw [HLN.out]; exact hlt), ← HX.out, decide_eq_false hkd]; simp
       replace hM := hM.mono (Nat.le_succ k);rw [← HF.out] at hM
       have HZ2 : Hid (∀ j, j < k + 1 → okE c l j = true) := fun j hj => by
        rcases Nat.lt_or_ge j k with h9 | h9
        ·exact HZ.out j h9
        ·rw [show j = k by omega]; exact HOK.out
       go_upto_region 17 with fail;refine jp ?_;refine jv (.int .i64 ((k + 1 : Nat) : Int)) (exec_add _ _ _ _ (by rfl) (k : Int) 1 ((k + 1 : Nat) : Int) (by rfl) (by rfl) (by omega) (by omega) (by omega)) ?_;refine jm (.int .i64 ((k + 1 : Nat) : Int)) ?_;refine jzb hb fun X5 hX5 hb => ?_;replace hM := (Mpb.lasts _ _) _ _ _ hM hX5;have hml := Mpb.lt hM;replace hB0 := hB0.bel hX5;replace hD5 := hD5.bel hX5;clear hX5
       go_wp2
       go_roundw
       case rel => exact ⟨k + 1, by omega, rfl, HZ2, hB0, hM, hb⟩
       case measure => simp [intOf]; omega
      ·go_upto_region 11 with fail
       refine jp ?_;refine jn (.pointer (some ⟨g5, 6, none⟩)) ?_;refine jn (.pointer (some ⟨g5, 6, none⟩)) ?_;refine jf (.int .i64 x.kd) hD5 6 load_int ?_;refine jv (.bool false) (exec_nei _ _ _ _ (by rfl) .i64 x.kd 4 (by rfl) (by rfl) false (by rw [decide_eq_true (by omega)]; rfl)) ?_;refine jzb hb fun X4 hX4 hb => ?_;replace hM := (Mpb.lasts _ _) _ _ _ hM hX4;have hml := Mpb.lt hM;replace hB0 := hB0.bel hX4;replace hD5 := hD5.bel hX4;clear hX4
       have hrf : 0 ≤ x.rf ∧ x.rf < (k : Int) := by
        have h9 := HG.out.rf
        rwa [if_pos hkd] at h9
       obtain ⟨r, hr⟩ : ∃ r : Nat, x.rf = (r : Int) := ⟨x.rf.toNat, by omega⟩;obtain ⟨y, y9⟩ : ∃ y, y = en l r := ⟨_, rfl⟩;have HY := Lib.hid y9;clear y9;have hwf : (Lit.int .i64 x.rf).wf = true := wf_i64 (by omega) (by omega)
       have HES : Hid (∀ X, Since w X → Es l (.slice (some ⟨b, off, none⟩) n cp) X) := fun X h => by show Rd X 13 _ l.length _; rw [HLN.out]; exact HRX.out X h
       go_upto_region 12 with fail;refine jq 8 ?_;refine jn (.pointer (some ⟨w.heap.size, 1, none⟩)) ?_;refine jf (.slice (some ⟨b, off, none⟩) n cp) hB0 1 load_ens ?_;refine jn (.pointer (some ⟨g5, 6, none⟩)) ?_;refine jn (.pointer (some ⟨g5, 8, none⟩)) ?_;refine jf (.int .i64 x.rf) hD5 8 load_int ?_;refine jn (.pointer (some ⟨g5, 0, none⟩)) ?_;refine jf (.int .i64 x.day) hD5 0 load_int ?_;refine jc (.agg #[.int .i64 x.day, .int .i64 y.cre, .int .i64 y.deb, .bool y.am.1, st y.am.2.1, st y.am.2.2, .int .i64 4, .int .i64 y.pd, .int .i64 x.rf, .int .i64 y.w1, .int .i64 y.w2, .int .i64 y.w3, .int .i64 y.w4]) (fun X hX hF => (oppI _ l r x.rf x.day y X hr (HES.out X (Since.next hb hX)) (by rw [HLN.out]; omega) HY.out).mono fun e X' ⟨h1, h2⟩ => ⟨h1, h2⟩) ?_;refine jzb hb fun X5 hX5 hb => ?_;replace hM := (Mpb.lasts _ _) _ _ _ hM hX5;have hml := Mpb.lt hM;replace hB0 := hB0.bel hX5;replace hD5 := hD5.bel hX5;clear hX5;go_upto_region 13 with (refine osn 36 6 65 #[.int .i64 x.day, .int .i64 y.cre, .int .i64 y.deb, .bool y.am.1, .string ⟨y.am.2.1.toArray⟩, .string ⟨y.am.2.2.toArray⟩, .int .i64 4, .int .i64 y.pd, .int .i64 x.rf, .int .i64 y.w1, .int .i64 y.w2, .int .i64 y.w3, .int .i64 y.w4] info_en ?_);obtain ⟨Y5, hY9, hD6, hS9⟩ := start1 X5 36 [.int .i64 x.day, .int .i64 y.cre, .int .i64 y.deb, .bool y.am.1, .string ⟨y.am.2.1.toArray⟩, .string ⟨y.am.2.2.toArray⟩, .int .i64 4, .int .i64 y.pd, .int .i64 x.rf, .int .i64 y.w1, .int .i64 y.w2, .int .i64 y.w3, .int .i64 y.w4];rw [← hY9];clear hY9
       have hgs6 := hb.size;have hlt6x0 := hB0.lt;have hlt6x1 := hD5.lt;have hml := Mpb.lt hM;have hB0 := hB0.bel hS9;have hD5 := hD5.bel hS9;have hM := (Mpb.lasts _ _) _ _ _ hM hS9;have hb := bel_next hb hS9;clear hS9;generalize X5.heap.size = g6 at *;go_upto_region 13 with fail;refine jq 5 ?_;refine jn (.pointer (some ⟨g5, 6, none⟩)) ?_;refine jn (.pointer (some ⟨g5, 9, none⟩)) ?_;refine jg (.agg #[.int .i64 x.w1, .int .i64 x.w2, .int .i64 x.w3, .int .i64 x.w4]) (fun X hX hF => exec_inr 32 _ (by rfl) g5 9 [.int .i64 x.w1, .int .i64 x.w2, .int .i64 x.w3, .int .i64 x.w4] (by rfl) Tryd.underlying32 rfl X (hD5.bel hX) (by rfl) info_ch) ?_;refine jn (.pointer (some ⟨g6, 6, none⟩)) ?_;refine jn (.pointer (some ⟨g6, 9, none⟩)) ?_;refine jzb hb fun X6 hX6 hb => ?_;replace hM := (Mpb.lasts _ _) _ _ _ hM hX6;have hml := Mpb.lt hM;replace hB0 := hB0.bel hX6;replace hD5 := hD5.bel hX6;replace hD6 := hD6.bel hX6;clear hX6;refine op_store_at rfl 32 (.tmp 70) (.tmp 68) rfl g6 36 _ hD6 9 rfl [.int .i64 x.w1, .int .i64 x.w2, .int .i64 x.w3, .int .i64 x.w4] rfl (by simp) (by intro u hu; simp only [List.mem_cons, List.not_mem_nil, or_false] at hu; rcases hu with rfl | rfl | rfl | rfl <;> rfl) info_ch ?_;intro w13 hR9 hG9 hs9
       change Blk w13 g6 36 [.int .i64 x.day, .int .i64 y.cre, .int .i64 y.deb, .bool y.am.1, .string ⟨y.am.2.1.toArray⟩, .string ⟨y.am.2.2.toArray⟩, .int .i64 4, .int .i64 y.pd, .int .i64 x.rf, .int .i64 x.w1, .int .i64 x.w2, .int .i64 x.w3, .int .i64 x.w4] at hR9
       have hb := bel_grown hG9 hb hb.size (by omega);replace hB0 := blk_grown hG9 hB0 (by omega);replace hD5 := blk_grown hG9 hD5 (by omega);replace hM := Mpb.grown hM hG9 (fun h9 => by injection h9 with h9; omega);have hD6 := hR9;clear hR9 hG9 hs9;obtain ⟨u, u9⟩ : ∃ u, und (l.take k) x.rf = u := ⟨_, rfl⟩;have HU := Lib.hid u9;clear u9;obtain ⟨d, d9⟩ : ∃ d, decide (x = { opp y x.rf x.day with w1 := x.w1, w2 := x.w2, w3 := x.w3, w4 := x.w4 }) = d := ⟨_, rfl⟩;have HD := Lib.hid d9;clear d9
       have HUD : Hid (undoes (l.take k) (en l k) = (!u && d)) := by
        show _ = _
        unfold undoes
        rw [← HX.out, en_take (show x.rf.toNat < k by omega), show x.rf.toNat = r by omega, ← HY.out, HU.out, HD.out]
       rcases u with _ | _
       ·rcases d with _ | _
        ·go_upto_region 14 with fail
         refine jp ?_;refine jm (.map (some m)) ?_;refine jn (.pointer (some ⟨g5, 6, none⟩)) ?_;refine jn (.pointer (some ⟨g5, 8, none⟩)) ?_;refine jf (.int .i64 x.rf) hD5 8 load_int ?_;refine jg (.bool false) (fun X hX hF => by simpa only [HU.out] using exec_lkb _ _ (by rfl) (by rfl) (by rfl) hwf X ((Mpb.lasts _ _) _ _ _ hM hX)) ?_;refine jm (.bool false) ?_;refine ja hD5 Tryd.underlying36 (by rfl) info_en ?_;refine ja hD6 Tryd.underlying36 (by rfl) info_en ?_;refine jv (.bool true) (exec_nen _ _ (by rfl) x { opp y x.rf x.day with w1 := x.w1, w2 := x.w2, w3 := x.w3, w4 := x.w4 } (by rfl) (by rfl) true (by rw [HD.out]; rfl)) ?_;refine jm (.bool true) ?_;refine jzb hb fun X7 hX7 hb => ?_;replace hM := (Mpb.lasts _ _) _ _ _ hM hX7;have hml := Mpb.lt hM;replace hB0 := hB0.bel hX7;replace hD5 := hD5.bel hX7;replace hD6 := hD6.bel hX7;clear hX7;go_upto_region 15 with fail;refine jp ?_;refine jm (.int .i64 1) ?_;refine jzb hb fun X8 hX8 hb => ?_;replace hM := (Mpb.lasts _ _) _ _ _ hM hX8;have hml := Mpb.lt hM;replace hB0 := hB0.bel hX8;replace hD5 := hD5.bel hX8;replace hD6 := hD6.bel hX8;clear hX8;have HC : Hid (acE c l = 1) := acE_bad hc1 hc2 (by rw [HLN.out]; exact h4) (k := k) (by rw [HLN.out]; exact hlt) (okE_f (.inr (.inr ⟨by rw [← HX.out]; exact hkd, by rw [HUD.out]; rfl⟩)))
         go_wp2
         go_ret
         exact ⟨by rw [HC.out]; rfl, hb⟩
        ·go_upto_region 14 with fail
         refine jp ?_;refine jm (.map (some m)) ?_;refine jn (.pointer (some ⟨g5, 6, none⟩)) ?_;refine jn (.pointer (some ⟨g5, 8, none⟩)) ?_;refine jf (.int .i64 x.rf) hD5 8 load_int ?_;refine jg (.bool false) (fun X hX hF => by simpa only [HU.out] using exec_lkb _ _ (by rfl) (by rfl) (by rfl) hwf X ((Mpb.lasts _ _) _ _ _ hM hX)) ?_;refine jm (.bool false) ?_;refine ja hD5 Tryd.underlying36 (by rfl) info_en ?_;refine ja hD6 Tryd.underlying36 (by rfl) info_en ?_;refine jv (.bool false) (exec_nen _ _ (by rfl) x { opp y x.rf x.day with w1 := x.w1, w2 := x.w2, w3 := x.w3, w4 := x.w4 } (by rfl) (by rfl) false (by rw [HD.out]; rfl)) ?_;refine jm (.bool false) ?_;refine jzb hb fun X7 hX7 hb => ?_;replace hM := (Mpb.lasts _ _) _ _ _ hM hX7;have hml := Mpb.lt hM;replace hB0 := hB0.bel hX7;replace hD5 := hD5.bel hX7;replace hD6 := hD6.bel hX7;clear hX7;have HOK : Hid (okE c l k = true) := okE_t (by rw [← HX.out]; exact HR.out) (by rw [← HX.out]; exact hday) (fun _ => by rw [HUD.out]; rfl);go_upto_region 16 with fail;refine jq 4 ?_;refine jm (.map (some m)) ?_;refine jn (.pointer (some ⟨g5, 6, none⟩)) ?_;refine jn (.pointer (some ⟨g5, 8, none⟩)) ?_;refine jf (.int .i64 x.rf) hD5 8 load_int ?_;refine jzb hb fun X8 hX8 hb => ?_;replace hM := (Mpb.lasts _ _) _ _ _ hM hX8;have hml := Mpb.lt hM;replace hB0 := hB0.bel hX8;replace hD5 := hD5.bel hX8;replace hD6 := hD6.bel hX8;clear hX8;refine op_mpb rfl (.tmp 81) (.tmp 84) _ rfl (b := m) (k := x.rf) (y := true) rfl rfl rfl hwf hM (by unfold maxLen; omega) ?_
         intro w16 hM2 hG9;have hb := bel_grown hG9 hb hb.size (by omega);replace hB0 := blk_grown hG9 hB0 (by omega)
         have HF : Hid ((fun j => if j = x.rf then true else und (l.take k) j) = fun j => und (l.take (k + 1)) j) := funext fun j => by
          rw [und_take (by rw [HLN.out]; exact hlt), ← HX.out, decide_eq_true hkd]
          by_cases h9 : j = x.rf
          ·rw [if_pos h9, decide_eq_true h9.symm]; simp
          ·rw [if_neg h9, decide_eq_false (fun h8 => h9 h8.symm)]; simp
         replace hM : Mpb (k + 1) (fun j => und (l.take (k + 1)) j) (.map (some m)) w16 := by rw [← HF.out]; exact hM2
         clear hM2 hG9 hD5 hD6;refine wpList_nil ?_
         have HZ2 : Hid (∀ j, j < k + 1 → okE c l j = true) := fun j hj => by
          rcases Nat.lt_or_ge j k with h9 | h9
          ·exact HZ.out j h9
          ·rw [show j = k by omega]; exact HOK.out
         go_upto_region 17 with fail;refine jp ?_;refine jv (.int .i64 ((k + 1 : Nat) : Int)) (exec_add _ _ _ _ (by rfl) (k : Int) 1 ((k + 1 : Nat) : Int) (by rfl) (by rfl) (by omega) (by omega) (by omega)) ?_;refine jm (.int .i64 ((k + 1 : Nat) : Int)) ?_;refine jzb hb fun X9 hX9 hb => ?_;replace hM := (Mpb.lasts _ _) _ _ _ hM hX9;have hml := Mpb.lt hM;replace hB0 := hB0.bel hX9;clear hX9
         go_wp2
         go_roundw
         case rel => exact ⟨k + 1, by omega, rfl, HZ2, hB0, hM, hb⟩
         case measure => simp [intOf]; omega
       ·go_upto_region 14 with fail
        refine jp ?_;refine jm (.map (some m)) ?_;refine jn (.pointer (some ⟨g5, 6, none⟩)) ?_;refine jn (.pointer (some ⟨g5, 8, none⟩)) ?_;refine jf (.int .i64 x.rf) hD5 8 load_int ?_;refine jg (.bool true) (fun X hX hF => by simpa only [HU.out] using exec_lkb _ _ (by rfl) (by rfl) (by rfl) hwf X ((Mpb.lasts _ _) _ _ _ hM hX)) ?_;refine jm (.bool true) ?_;refine js ?_;refine js ?_;refine js ?_;refine jm (.bool true) ?_;refine jzb hb fun X7 hX7 hb => ?_;replace hM := (Mpb.lasts _ _) _ _ _ hM hX7;have hml := Mpb.lt hM;replace hB0 := hB0.bel hX7;replace hD5 := hD5.bel hX7;replace hD6 := hD6.bel hX7;clear hX7;go_upto_region 15 with fail;refine jp ?_;refine jm (.int .i64 1) ?_;refine jzb hb fun X8 hX8 hb => ?_;replace hM := (Mpb.lasts _ _) _ _ _ hM hX8;have hml := Mpb.lt hM;replace hB0 := hB0.bel hX8;replace hD5 := hD5.bel hX8;replace hD6 := hD6.bel hX8;clear hX8;have HC : Hid (acE c l = 1) := acE_bad hc1 hc2 (by rw [HLN.out]; exact h4) (k := k) (by rw [HLN.out]; exact hlt) (okE_f (.inr (.inr ⟨by rw [← HX.out]; exact hkd, by rw [HUD.out]; rfl⟩)))
        go_wp2
        go_ret
        exact ⟨by rw [HC.out]; rfl, hb⟩
  ·obtain rfl : k = n := by omega
   go_upto_region 7 with fail;refine jp ?_;refine jv (.bool false) (exec_lss _ _ _ _ (by rfl) .i64 (k : Int) (k : Int) (by rfl) (by rfl) false (decide_eq_false (by omega))) ?_;refine jzb hb fun X1 hX1 hb => ?_;replace hM := (Mpb.lasts _ _) _ _ _ hM hX1;replace hB0 := hB0.bel hX1;clear hX1;go_upto_region 18 with fail;refine jp ?_;refine jm (.int .i64 0) ?_;refine jzb hb fun X2 hX2 hb => ?_;replace hM := (Mpb.lasts _ _) _ _ _ hM hX2;replace hB0 := hB0.bel hX2;clear hX2;have HC : Hid (acE c l = 0) := acE_ok.2 ⟨hc1, hc2, by rw [HLN.out]; exact h4, fun j hj => HZ.out j (by rw [← HLN.out]; exact hj)⟩
   go_wp2
   go_ret
   exact ⟨by rw [HC.out]; rfl, hb⟩
theorem ackC (c : Int) (v : Value) (l : List En) (w : World) (hv : Es l v w) (hs : Hid (∀ k, tz (en l k).am.2.1 (en l k).am.2.2 1000000)) : Calls Tryd.prog 13 #[.agg #[.int .i64 c, v]] w fun e w' => e = .returned (.int .i64 (acE c l)) ∧ Since w w' := by
 rcases (show 100 < c ∨ (c ≤ 100 ∧ 4000 < l.length) ∨ (c ≤ 100 ∧ l.length ≤ 4000 ∧ c < 1) ∨ (1 ≤ c ∧ c ≤ 100 ∧ l.length ≤ 4000) by omega) with h | h | h | h
 ·exact ack0 c v l w hv h
 ·exact ack1 c v l w hv h.1 h.2
 ·exact ack2 c v l w hv h.1 h.2.1 h.2.2
 ·exact ackM c v l w hv hs h.1 h.2.1 h.2.2
end Go.Proofs.YtffgfkcljcollaaDoor
