/-
  account: Sums, early answers.
-/
import Derived.Test.YtffgfkcljcollaaDoorBa
set_option linter.unusedSimpArgs false
set_option linter.unusedVariables false
set_option maxRecDepth 100000
set_option maxHeartbeats 1600000
namespace Go.Proofs.YtffgfkcljcollaaDoor
open Go.RowKit
/-- Numbers in a row of the call's own. -/
def Rqo (B : Nat) (l : List Rat) (v : Value) (X : World) : Prop := X.ownsRow B 30 3 v l.length (fl trc (l.map tr))
theorem Rqo.lasts (B : Nat) (l : List Rat) : Lasts (Rqo B l) := fun _ _ _ h hS => own_since h hS
theorem Rqo.rq {B : Nat} {l : List Rat} {v : Value} {X : World} (h : Rqo B l v X) : Rq l v X := by
 have h9 := Rd.of_own (show X.ownsRow B 30 3 v l.length (fl trc (l.map tr)) from h)
 show Rd X 3 v (l.map tr).length _
 rw [List.length_map];exact h9
theorem Rqo.mono {B B' : Nat} {l : List Rat} {v : Value} {X : World} (h : Rqo B l v X) (hB : B' ≤ B) : Rqo B' l v X := ownsRow_mono h hB
theorem rqo_none (B : Nat) (X : World) : Rqo B [] (.slice none 0 0) X := ⟨rfl, .inl ⟨rfl, rfl⟩⟩
theorem sus0 (c : Int) (v : Value) (l : List En) (f t k : Int) (w : World) (hv : Es l v w) (hs : Hid (∀ k, tz (en l k).am.2.1 (en l k).am.2.2 1000000)) (h0 : acE c l ≠ 0) : Calls Tryd.prog 17 #[.agg #[.int .i64 c, v], .int .i64 f, .int .i64 t, .int .i64 k] w fun e w' => ∃ u, e = .returned u ∧ Tp (Rqo w.heap.size (suL c l f t k)) (suE c l f t k) u w' ∧ Since w w' := by
 obtain ⟨z, z9⟩ : ∃ z, acE c l = z := ⟨_, rfl⟩;have HZ := Lib.hid z9
 have hz0 : z ≠ 0 := by rw [← z9]; exact h0
 clear z9 h0
 have HE : Hid (suE c l f t k = z) := by
  show _ = _
  unfold suE
  rw [HZ.out, if_pos hz0]
 obtain ⟨A, n, cp, rfl, hln, hn1, hr⟩ := hv.at;clear hv
 have HRX : Hid (∀ X, Since w X → Rd X 13 (.slice A n cp) n (fl enc l)) := fun X h => hr.below h
 have HLN := Lib.hid hln;clear hr
 have HES : Hid (∀ X, Since w X → Es l (.slice A n cp) X) := fun X h => by show Rd X 13 _ l.length _; rw [HLN.out]; exact HRX.out X h
 go_enter Tryd.func17, Tryd.ntmps17
 go_upto_region 1 with fail;obtain ⟨W0, hW0, hB0, hb⟩ := start1 w 26 [.int .i64 c, .slice A n cp];rw [← hW0];clear hW0;refine jp ?_;refine ja hB0 Tryd.underlying26 (by rfl) info_ac ?_;refine jc (.int .i64 z) (fun X hX hF => mo (ackC c _ l X (HES.out X (Since.next hb hX)) hs) (by rw [HZ.out])) ?_;refine jm (.int .i64 z) ?_;refine jzb hb fun X1 hX1 hb => ?_;replace hB0 := hB0.bel hX1;clear hX1;go_upto_region 2 with fail;refine jp ?_;refine jm (.int .i64 z) ?_;refine jv (.bool true) (exec_nei _ _ _ _ (by rfl) .i64 z 0 (by rfl) (by rfl) true (by rw [decide_eq_false (by omega)]; rfl)) ?_;refine jzb hb fun X2 hX2 hb => ?_;replace hB0 := hB0.bel hX2;clear hX2
 have HL : Hid (suL c l f t k = []) := by
  show _ = _
  unfold suL
  rw [HE.out, if_neg hz0]
 go_upto_region 3 with fail;refine jp ?_;refine jm (.int .i64 z) ?_;refine jm (.slice none 0 0) ?_;refine jm (.int .i64 z) ?_;refine jzb hb fun X3 hX3 hb => ?_;replace hB0 := hB0.bel hX3;clear hX3
 go_wp2
 go_ret2
 exact ⟨_, rfl, ⟨.slice none 0 0, by rw [HE.out]; rfl, by rw [HL.out]; exact rqo_none _ _⟩, hb⟩
theorem sus1 (c : Int) (v : Value) (l : List En) (f t k : Int) (w : World) (hv : Es l v w) (hs : Hid (∀ k, tz (en l k).am.2.1 (en l k).am.2.2 1000000)) (HC : Hid (acE c l = 0)) (h : f < 0 ∨ 14609 < f) : Calls Tryd.prog 17 #[.agg #[.int .i64 c, v], .int .i64 f, .int .i64 t, .int .i64 k] w fun e w' => ∃ u, e = .returned u ∧ Tp (Rqo w.heap.size (suL c l f t k)) (suE c l f t k) u w' ∧ Since w w' := by
 obtain ⟨A, n, cp, rfl, hln, hn1, hr⟩ := hv.at;clear hv
 have HRX : Hid (∀ X, Since w X → Rd X 13 (.slice A n cp) n (fl enc l)) := fun X h => hr.below h
 have HLN := Lib.hid hln;clear hr
 have HES : Hid (∀ X, Since w X → Es l (.slice A n cp) X) := fun X h => by show Rd X 13 _ l.length _; rw [HLN.out]; exact HRX.out X h
 go_enter Tryd.func17, Tryd.ntmps17
 go_upto_region 1 with fail;obtain ⟨W0, hW0, hB0, hb⟩ := start1 w 26 [.int .i64 c, .slice A n cp];rw [← hW0];clear hW0;refine jp ?_;refine ja hB0 Tryd.underlying26 (by rfl) info_ac ?_;refine jc (.int .i64 0) (fun X hX hF => mo (ackC c _ l X (HES.out X (Since.next hb hX)) hs) (by rw [HC.out])) ?_;refine jm (.int .i64 0) ?_;refine jzb hb fun X1 hX1 hb => ?_;replace hB0 := hB0.bel hX1;clear hX1;go_upto_region 2 with fail;refine jp ?_;refine jm (.int .i64 0) ?_;refine jv (.bool false) (exec_nei _ _ _ _ (by rfl) .i64 0 0 (by rfl) (by rfl) false (by rw [decide_eq_true (by omega)]; rfl)) ?_;refine jzb hb fun X2 hX2 hb => ?_;replace hB0 := hB0.bel hX2;clear hX2
 have HE : Hid (suE c l f t k = 3) := by
  show _ = _
  unfold suE
  rw [HC.out, if_neg (by decide), if_pos (by omega)]
 have HF : Hid ((decide (0 ≤ f) && decide (f ≤ 14609)) = false) := by
  show _ = _
  rcases h with h9 | h9
  ·rw [decide_eq_false (show ¬ 0 ≤ f by omega)]; rfl
  ·rw [decide_eq_false (show ¬ f ≤ 14609 by omega), Bool.and_false]
 go_upto_region 4 with fail;refine jp ?_;refine jm (.int .i64 f) ?_;refine jc (.bool false) (fun X hX hF => mo (dayC f X) (by rw [HF.out])) ?_;refine jm (.bool true) ?_;refine jm (.bool true) ?_;refine js ?_;refine js ?_;refine js ?_;refine jm (.bool true) ?_;refine jm (.bool true) ?_;refine js ?_;refine js ?_;refine jm (.bool true) ?_;refine jm (.bool true) ?_;refine js ?_;refine js ?_;refine jm (.bool true) ?_;refine jzb hb fun X3 hX3 hb => ?_;replace hB0 := hB0.bel hX3;clear hX3
 have HL : Hid (suL c l f t k = []) := by
  show _ = _
  unfold suL
  rw [HE.out, if_neg (by decide)]
 go_upto_region 5 with fail;refine jp ?_;refine jm (.slice none 0 0) ?_;refine jm (.int .i64 3) ?_;refine jzb hb fun X4 hX4 hb => ?_;replace hB0 := hB0.bel hX4;clear hX4
 go_wp2
 go_ret2
 exact ⟨_, rfl, ⟨.slice none 0 0, by rw [HE.out]; rfl, by rw [HL.out]; exact rqo_none _ _⟩, hb⟩
theorem sus2 (c : Int) (v : Value) (l : List En) (f t k : Int) (w : World) (hv : Es l v w) (hs : Hid (∀ k, tz (en l k).am.2.1 (en l k).am.2.2 1000000)) (HC : Hid (acE c l = 0)) (hf : 0 ≤ f ∧ f ≤ 14609) (h : t < 0 ∨ 14609 < t) : Calls Tryd.prog 17 #[.agg #[.int .i64 c, v], .int .i64 f, .int .i64 t, .int .i64 k] w fun e w' => ∃ u, e = .returned u ∧ Tp (Rqo w.heap.size (suL c l f t k)) (suE c l f t k) u w' ∧ Since w w' := by
 obtain ⟨A, n, cp, rfl, hln, hn1, hr⟩ := hv.at;clear hv
 have HRX : Hid (∀ X, Since w X → Rd X 13 (.slice A n cp) n (fl enc l)) := fun X h => hr.below h
 have HLN := Lib.hid hln;clear hr
 have HES : Hid (∀ X, Since w X → Es l (.slice A n cp) X) := fun X h => by show Rd X 13 _ l.length _; rw [HLN.out]; exact HRX.out X h
 go_enter Tryd.func17, Tryd.ntmps17
 go_upto_region 1 with fail;obtain ⟨W0, hW0, hB0, hb⟩ := start1 w 26 [.int .i64 c, .slice A n cp];rw [← hW0];clear hW0;refine jp ?_;refine ja hB0 Tryd.underlying26 (by rfl) info_ac ?_;refine jc (.int .i64 0) (fun X hX hF => mo (ackC c _ l X (HES.out X (Since.next hb hX)) hs) (by rw [HC.out])) ?_;refine jm (.int .i64 0) ?_;refine jzb hb fun X1 hX1 hb => ?_;replace hB0 := hB0.bel hX1;clear hX1;go_upto_region 2 with fail;refine jp ?_;refine jm (.int .i64 0) ?_;refine jv (.bool false) (exec_nei _ _ _ _ (by rfl) .i64 0 0 (by rfl) (by rfl) false (by rw [decide_eq_true (by omega)]; rfl)) ?_;refine jzb hb fun X2 hX2 hb => ?_;replace hB0 := hB0.bel hX2;clear hX2
 have HE : Hid (suE c l f t k = 3) := by
  show _ = _
  unfold suE
  rw [HC.out, if_neg (by decide), if_pos (by omega)]
 have HF : Hid ((decide (0 ≤ f) && decide (f ≤ 14609)) = true) := by
  show _ = _
  rw [decide_eq_true hf.1, decide_eq_true hf.2]; rfl
 have HT : Hid ((decide (0 ≤ t) && decide (t ≤ 14609)) = false) := by
  show _ = _
  rcases h with h9 | h9
  ·rw [decide_eq_false (show ¬ 0 ≤ t by omega)]; rfl
  ·rw [decide_eq_false (show ¬ t ≤ 14609 by omega), Bool.and_false]
 go_upto_region 4 with fail;refine jp ?_;refine jm (.int .i64 f) ?_;refine jc (.bool true) (fun X hX hF => mo (dayC f X) (by rw [HF.out])) ?_;refine jm (.bool false) ?_;refine jm (.bool false) ?_;refine jm (.int .i64 t) ?_;refine jc (.bool false) (fun X hX hF => mo (dayC t X) (by rw [HT.out])) ?_;refine jm (.bool true) ?_;refine jm (.bool true) ?_;refine jm (.bool true) ?_;refine js ?_;refine js ?_;refine jm (.bool true) ?_;refine jm (.bool true) ?_;refine js ?_;refine js ?_;refine jm (.bool true) ?_;refine jzb hb fun X3 hX3 hb => ?_;replace hB0 := hB0.bel hX3;clear hX3
 have HL : Hid (suL c l f t k = []) := by
  show _ = _
  unfold suL
  rw [HE.out, if_neg (by decide)]
 go_upto_region 5 with fail;refine jp ?_;refine jm (.slice none 0 0) ?_;refine jm (.int .i64 3) ?_;refine jzb hb fun X4 hX4 hb => ?_;replace hB0 := hB0.bel hX4;clear hX4
 go_wp2
 go_ret2
 exact ⟨_, rfl, ⟨.slice none 0 0, by rw [HE.out]; rfl, by rw [HL.out]; exact rqo_none _ _⟩, hb⟩
theorem sus3 (c : Int) (v : Value) (l : List En) (f t k : Int) (w : World) (hv : Es l v w) (hs : Hid (∀ k, tz (en l k).am.2.1 (en l k).am.2.2 1000000)) (HC : Hid (acE c l = 0)) (hf : 0 ≤ f ∧ f ≤ 14609) (ht : 0 ≤ t ∧ t ≤ 14609) (h : k < 0) : Calls Tryd.prog 17 #[.agg #[.int .i64 c, v], .int .i64 f, .int .i64 t, .int .i64 k] w fun e w' => ∃ u, e = .returned u ∧ Tp (Rqo w.heap.size (suL c l f t k)) (suE c l f t k) u w' ∧ Since w w' := by
 obtain ⟨A, n, cp, rfl, hln, hn1, hr⟩ := hv.at;clear hv
 have HRX : Hid (∀ X, Since w X → Rd X 13 (.slice A n cp) n (fl enc l)) := fun X h => hr.below h
 have HLN := Lib.hid hln;clear hr
 have HES : Hid (∀ X, Since w X → Es l (.slice A n cp) X) := fun X h => by show Rd X 13 _ l.length _; rw [HLN.out]; exact HRX.out X h
 go_enter Tryd.func17, Tryd.ntmps17
 go_upto_region 1 with fail;obtain ⟨W0, hW0, hB0, hb⟩ := start1 w 26 [.int .i64 c, .slice A n cp];rw [← hW0];clear hW0;refine jp ?_;refine ja hB0 Tryd.underlying26 (by rfl) info_ac ?_;refine jc (.int .i64 0) (fun X hX hF => mo (ackC c _ l X (HES.out X (Since.next hb hX)) hs) (by rw [HC.out])) ?_;refine jm (.int .i64 0) ?_;refine jzb hb fun X1 hX1 hb => ?_;replace hB0 := hB0.bel hX1;clear hX1;go_upto_region 2 with fail;refine jp ?_;refine jm (.int .i64 0) ?_;refine jv (.bool false) (exec_nei _ _ _ _ (by rfl) .i64 0 0 (by rfl) (by rfl) false (by rw [decide_eq_true (by omega)]; rfl)) ?_;refine jzb hb fun X2 hX2 hb => ?_;replace hB0 := hB0.bel hX2;clear hX2
 have HE : Hid (suE c l f t k = 3) := by
  show _ = _
  unfold suE
  rw [HC.out, if_neg (by decide), if_pos (by omega)]
 have HF : Hid ((decide (0 ≤ f) && decide (f ≤ 14609)) = true) := by
  show _ = _
  rw [decide_eq_true hf.1, decide_eq_true hf.2]; rfl
 have HT : Hid ((decide (0 ≤ t) && decide (t ≤ 14609)) = true) := by
  show _ = _
  rw [decide_eq_true ht.1, decide_eq_true ht.2]; rfl
 go_upto_region 4 with fail;refine jp ?_;refine jm (.int .i64 f) ?_;refine jc (.bool true) (fun X hX hF => mo (dayC f X) (by rw [HF.out])) ?_;refine jm (.bool false) ?_;refine jm (.bool false) ?_;refine jm (.int .i64 t) ?_;refine jc (.bool true) (fun X hX hF => mo (dayC t X) (by rw [HT.out])) ?_;refine jm (.bool false) ?_;refine jm (.bool false) ?_;refine jm (.bool false) ?_;refine jm (.int .i64 k) ?_;refine jv (.bool true) (exec_lss _ _ _ _ (by rfl) .i64 k 0 (by rfl) (by rfl) true (decide_eq_true (by omega))) ?_;refine jm (.bool true) ?_;refine jm (.bool true) ?_;refine js ?_;refine js ?_;refine jm (.bool true) ?_;refine jzb hb fun X3 hX3 hb => ?_;replace hB0 := hB0.bel hX3;clear hX3
 have HL : Hid (suL c l f t k = []) := by
  show _ = _
  unfold suL
  rw [HE.out, if_neg (by decide)]
 go_upto_region 5 with fail;refine jp ?_;refine jm (.slice none 0 0) ?_;refine jm (.int .i64 3) ?_;refine jzb hb fun X4 hX4 hb => ?_;replace hB0 := hB0.bel hX4;clear hX4
 go_wp2
 go_ret2
 exact ⟨_, rfl, ⟨.slice none 0 0, by rw [HE.out]; rfl, by rw [HL.out]; exact rqo_none _ _⟩, hb⟩
theorem sus4 (c : Int) (v : Value) (l : List En) (f t k : Int) (w : World) (hv : Es l v w) (hs : Hid (∀ k, tz (en l k).am.2.1 (en l k).am.2.2 1000000)) (HC : Hid (acE c l = 0)) (hf : 0 ≤ f ∧ f ≤ 14609) (ht : 0 ≤ t ∧ t ≤ 14609) (h0 : 0 ≤ k) (h : 5 < k) : Calls Tryd.prog 17 #[.agg #[.int .i64 c, v], .int .i64 f, .int .i64 t, .int .i64 k] w fun e w' => ∃ u, e = .returned u ∧ Tp (Rqo w.heap.size (suL c l f t k)) (suE c l f t k) u w' ∧ Since w w' := by
 obtain ⟨A, n, cp, rfl, hln, hn1, hr⟩ := hv.at;clear hv
 have HRX : Hid (∀ X, Since w X → Rd X 13 (.slice A n cp) n (fl enc l)) := fun X h => hr.below h
 have HLN := Lib.hid hln;clear hr
 have HES : Hid (∀ X, Since w X → Es l (.slice A n cp) X) := fun X h => by show Rd X 13 _ l.length _; rw [HLN.out]; exact HRX.out X h
 go_enter Tryd.func17, Tryd.ntmps17
 go_upto_region 1 with fail;obtain ⟨W0, hW0, hB0, hb⟩ := start1 w 26 [.int .i64 c, .slice A n cp];rw [← hW0];clear hW0;refine jp ?_;refine ja hB0 Tryd.underlying26 (by rfl) info_ac ?_;refine jc (.int .i64 0) (fun X hX hF => mo (ackC c _ l X (HES.out X (Since.next hb hX)) hs) (by rw [HC.out])) ?_;refine jm (.int .i64 0) ?_;refine jzb hb fun X1 hX1 hb => ?_;replace hB0 := hB0.bel hX1;clear hX1;go_upto_region 2 with fail;refine jp ?_;refine jm (.int .i64 0) ?_;refine jv (.bool false) (exec_nei _ _ _ _ (by rfl) .i64 0 0 (by rfl) (by rfl) false (by rw [decide_eq_true (by omega)]; rfl)) ?_;refine jzb hb fun X2 hX2 hb => ?_;replace hB0 := hB0.bel hX2;clear hX2
 have HE : Hid (suE c l f t k = 3) := by
  show _ = _
  unfold suE
  rw [HC.out, if_neg (by decide), if_pos (by omega)]
 have HF : Hid ((decide (0 ≤ f) && decide (f ≤ 14609)) = true) := by
  show _ = _
  rw [decide_eq_true hf.1, decide_eq_true hf.2]; rfl
 have HT : Hid ((decide (0 ≤ t) && decide (t ≤ 14609)) = true) := by
  show _ = _
  rw [decide_eq_true ht.1, decide_eq_true ht.2]; rfl
 go_upto_region 4 with fail;refine jp ?_;refine jm (.int .i64 f) ?_;refine jc (.bool true) (fun X hX hF => mo (dayC f X) (by rw [HF.out])) ?_;refine jm (.bool false) ?_;refine jm (.bool false) ?_;refine jm (.int .i64 t) ?_;refine jc (.bool true) (fun X hX hF => mo (dayC t X) (by rw [HT.out])) ?_;refine jm (.bool false) ?_;refine jm (.bool false) ?_;refine jm (.bool false) ?_;refine jm (.int .i64 k) ?_;refine jv (.bool false) (exec_lss _ _ _ _ (by rfl) .i64 k 0 (by rfl) (by rfl) false (decide_eq_false (by omega))) ?_;refine jm (.bool false) ?_;refine jm (.bool false) ?_;refine jm (.int .i64 k) ?_;refine jv (.bool true) (exec_gtr _ _ _ _ (by rfl) .i64 k 5 (by rfl) (by rfl) true (decide_eq_true (by omega))) ?_;refine jm (.bool true) ?_;refine jzb hb fun X3 hX3 hb => ?_;replace hB0 := hB0.bel hX3;clear hX3
 have HL : Hid (suL c l f t k = []) := by
  show _ = _
  unfold suL
  rw [HE.out, if_neg (by decide)]
 go_upto_region 5 with fail;refine jp ?_;refine jm (.slice none 0 0) ?_;refine jm (.int .i64 3) ?_;refine jzb hb fun X4 hX4 hb => ?_;replace hB0 := hB0.bel hX4;clear hX4
 go_wp2
 go_ret2
 exact ⟨_, rfl, ⟨.slice none 0 0, by rw [HE.out]; rfl, by rw [HL.out]; exact rqo_none _ _⟩, hb⟩
end Go.Proofs.YtffgfkcljcollaaDoor
