/-
  seal: Common, Contradict.
-/
import Derived.Test.YthinopepcmidmaaDoorSi48
set_option linter.unusedSimpArgs false
set_option linter.unusedVariables false
set_option maxRecDepth 100000
set_option maxHeartbeats 1600000
namespace Go.Proofs.YthinopepcmidmaaDoor
open Go.RowKit
theorem cmn_is : ∀ {a b : List Sl} {k : Nat}, k ≤ a.length → k ≤ b.length → (∀ j, j < k → sAt a j = sAt b j) → (k = a.length ∨ k = b.length ∨ sAt a k ≠ sAt b k) → cmn a b = k
  | [], b, k, h1, _, _, _ => by
    have : k = 0 := by simpa using h1
    rw [this]
    unfold cmn
    rfl
  | x :: a, [], k, _, h2, _, _ => by
    have : k = 0 := by simpa using h2
    rw [this]
    unfold cmn
    rfl
  | x :: a, y :: b, 0, _, _, _, h4 => by
    unfold cmn
    rw [if_neg]
    intro h9
    rcases h4 with h4 | h4 | h4
    · cases h4
    · cases h4
    · exact h4 h9
  | x :: a, y :: b, k + 1, h1, h2, h3, h4 => by
    have h0 : x = y := h3 0 (by omega)
    unfold cmn
    rw [if_pos h0, cmn_is (a := a) (b := b) (k := k) (by simpa using h1) (by simpa using h2) (fun j hj => h3 (j + 1) (by omega)) ?_]
    rcases h4 with h4 | h4 | h4
    · exact .inl (by simpa using h4)
    · exact .inr (.inl (by simpa using h4))
    · exact .inr (.inr h4)
theorem coE_1 {r : List (List UInt8)} {a b : List Sl} (h : ¬ lgE mk48 nm48 r a = 0) : coE mk48 nm48 r a b = lgE mk48 nm48 r a := if_pos h
theorem coE_2 {r : List (List UInt8)} {a b : List Sl} (h : lgE mk48 nm48 r a = 0) (h2 : ¬ lgE mk48 nm48 r b = 0) : coE mk48 nm48 r a b = lgE mk48 nm48 r b := by
  unfold coE
  rw [if_neg (by omega), if_pos h2]
theorem coE_3 {r : List (List UInt8)} {a b : List Sl} (h : lgE mk48 nm48 r a = 0) (h2 : lgE mk48 nm48 r b = 0) (h3 : 0 < a.length ∧ 0 < b.length ∧ (sAt a 0).st ≠ (sAt b 0).st) : coE mk48 nm48 r a b = 1 := by
  unfold coE
  rw [if_neg (by omega), if_neg (by omega), if_pos h3]
theorem coE_0 {r : List (List UInt8)} {a b : List Sl} (h : lgE mk48 nm48 r a = 0) (h2 : lgE mk48 nm48 r b = 0) (h3 : 0 < a.length → 0 < b.length → (sAt a 0).st = (sAt b 0).st) : coE mk48 nm48 r a b = 0 := by
  unfold coE
  rw [if_neg (by omega), if_neg (by omega), if_neg (fun h9 => h9.2.2 (h3 h9.1 h9.2.1))]
theorem coN_no {r : List (List UInt8)} {a b : List Sl} (h : coE mk48 nm48 r a b ≠ 0) : coN mk48 nm48 r a b = 0 := if_neg h
theorem coN_yes {r : List (List UInt8)} {a b : List Sl} (h : coE mk48 nm48 r a b = 0) : coN mk48 nm48 r a b = (cmn a b : Int) := if_pos h
theorem sco1 (A : Option Addr) (n c : Nat) (r : List (List UInt8)) (w : World) (hr : Rd w 1 (.slice A n c) n (r.map tx)) (hln : r.length = n) (hn1 : n ≤ 9223372036854775807) (A' : Option Addr) (m c' : Nat) (l : List Sl) (hrl : Rd w 37 (.slice A' m c') m (fl slc l)) (hlm : l.length = m) (hm1 : m ≤ 9223372036854775807) (hok : ∀ s ∈ l, SlOk s) (A2 : Option Addr) (m2 c2 : Nat) (l2 : List Sl) (hrl2 : Rd w 37 (.slice A2 m2 c2) m2 (fl slc l2)) (hlm2 : l2.length = m2) (hm2 : m2 ≤ 9223372036854775807) (hok2 : ∀ s ∈ l2, SlOk s) (hK : KK w) (h : ¬ lgE mk48 nm48 r l = 0) : Calls Tryd.prog 22 #[.agg #[.slice A n c], .slice A' m c', .slice A2 m2 c2] w fun e w' => e = .returned (.tuple #[.int .i64 (coN mk48 nm48 r l l2), .int .i64 (coE mk48 nm48 r l l2)]) ∧ Since w w' := by
  obtain ⟨e9, he9⟩ : ∃ e9, e9 = lgE mk48 nm48 r l := ⟨_, rfl⟩
  rw [← he9] at h
  have HLG : Hid (lgE mk48 nm48 r l = e9) := he9.symm
  clear he9
  have HC : Hid (¬ e9 = 0) := h
  have HE : Hid (coE mk48 nm48 r l l2 = e9 ∧ coN mk48 nm48 r l l2 = 0) := by
    have h9 : ¬ lgE mk48 nm48 r l = 0 := by rw [HLG.out]; exact h
    exact ⟨(coE_1 h9).trans HLG.out, coN_no (by rw [coE_1 h9]; exact h9)⟩
  clear h
  have hz := zero16
  have hzs := zeroSl
  have HKK : Hid (∀ X, Since w X → KK X) := fun X h => hK.below h hK.1
  have HRX : Hid (∀ X, Since w X → Rd X 1 (.slice A n c) n (r.map tx)) := fun X h => hr.below h
  have HRL : Hid (∀ X, Since w X → Rd X 37 (.slice A' m c') m (fl slc l)) := fun X h => hrl.below h
  have HLN := Lib.hid hln
  have HLM := Lib.hid hlm
  have HOK := Lib.hid hok
  clear hK hr hrl hln hlm hok
  have HRL2 : Hid (∀ X, Since w X → Rd X 37 (.slice A2 m2 c2) m2 (fl slc l2)) := fun X h => hrl2.below h
  have HLM2 := Lib.hid hlm2
  have HOK2 := Lib.hid hok2
  clear hrl2 hlm2 hok2
  go_enter Tryd.func22, Tryd.ntmps22
  go_upto_region 1 with (fail)
  obtain ⟨W0, hW0, hB0, hb⟩ := start1 w 24 [.slice A n c]
  rw [← hW0]
  clear hW0
  refine jp ?_
  refine ja hB0 Tryd.underlying24 (by rfl) info_rg ?_
  refine jm (.slice A' m c') ?_
  refine jc (.int .i64 e9) (fun X hX hF => mo (slgC A n c r X (HRX.out X (bel_next hb hX)) HLN.out hn1 A' m c' l (HRL.out X (bel_next hb hX)) HLM.out hm1 HOK.out (HKK.out X (bel_next hb hX))) (by rw [HLG.out])) ?_
  refine jm (.int .i64 e9) ?_
  refine jz fun X1 hX1 => ?_
  have hB0 := hB0.bel hX1
  have hb := bel_next hb hX1
  clear hX1
  go_upto_region 2 with (fail)
  refine jp ?_
  refine jm (.int .i64 e9) ?_
  refine jv (.bool true) (exec_nei _ _ _ _ (by rfl) .i64 e9 0 (by rfl) (by rfl) true (by rw [decide_eq_false HC.out]; rfl)) ?_
  refine jz fun X2 hX2 => ?_
  have hB0 := hB0.bel hX2
  have hb := bel_next hb hX2
  clear hX2
  go_upto_region 3 with (fail)
  refine jp ?_
  refine jm (.int .i64 e9) ?_
  refine jm (.int .i64 0) ?_
  refine jm (.int .i64 e9) ?_
  refine jz fun X3 hX3 => ?_
  have hB0 := hB0.bel hX3
  have hb := bel_next hb hX3
  clear hX3
  go_wp2
  go_ret2
  exact ⟨by rw [HE.out.1, HE.out.2]; rfl, hb⟩
theorem sco2 (A : Option Addr) (n c : Nat) (r : List (List UInt8)) (w : World) (hr : Rd w 1 (.slice A n c) n (r.map tx)) (hln : r.length = n) (hn1 : n ≤ 9223372036854775807) (A' : Option Addr) (m c' : Nat) (l : List Sl) (hrl : Rd w 37 (.slice A' m c') m (fl slc l)) (hlm : l.length = m) (hm1 : m ≤ 9223372036854775807) (hok : ∀ s ∈ l, SlOk s) (A2 : Option Addr) (m2 c2 : Nat) (l2 : List Sl) (hrl2 : Rd w 37 (.slice A2 m2 c2) m2 (fl slc l2)) (hlm2 : l2.length = m2) (hm2 : m2 ≤ 9223372036854775807) (hok2 : ∀ s ∈ l2, SlOk s) (hK : KK w) (h : lgE mk48 nm48 r l = 0) (h2 : ¬ lgE mk48 nm48 r l2 = 0) : Calls Tryd.prog 22 #[.agg #[.slice A n c], .slice A' m c', .slice A2 m2 c2] w fun e w' => e = .returned (.tuple #[.int .i64 (coN mk48 nm48 r l l2), .int .i64 (coE mk48 nm48 r l l2)]) ∧ Since w w' := by
  obtain ⟨e9, he9⟩ : ∃ e9, e9 = lgE mk48 nm48 r l2 := ⟨_, rfl⟩
  rw [← he9] at h2
  have HLG2 : Hid (lgE mk48 nm48 r l2 = e9) := he9.symm
  clear he9
  have HLG := Lib.hid h
  clear h
  have HC : Hid (¬ e9 = 0) := h2
  have HE : Hid (coE mk48 nm48 r l l2 = e9 ∧ coN mk48 nm48 r l l2 = 0) := by
    have h9 : ¬ lgE mk48 nm48 r l2 = 0 := by rw [HLG2.out]; exact h2
    have h8 := coE_2 HLG.out h9
    exact ⟨h8.trans HLG2.out, coN_no (by rw [h8]; exact h9)⟩
  clear h2
  have hz := zero16
  have hzs := zeroSl
  have HKK : Hid (∀ X, Since w X → KK X) := fun X h => hK.below h hK.1
  have HRX : Hid (∀ X, Since w X → Rd X 1 (.slice A n c) n (r.map tx)) := fun X h => hr.below h
  have HRL : Hid (∀ X, Since w X → Rd X 37 (.slice A' m c') m (fl slc l)) := fun X h => hrl.below h
  have HLN := Lib.hid hln
  have HLM := Lib.hid hlm
  have HOK := Lib.hid hok
  clear hK hr hrl hln hlm hok
  have HRL2 : Hid (∀ X, Since w X → Rd X 37 (.slice A2 m2 c2) m2 (fl slc l2)) := fun X h => hrl2.below h
  have HLM2 := Lib.hid hlm2
  have HOK2 := Lib.hid hok2
  clear hrl2 hlm2 hok2
  go_enter Tryd.func22, Tryd.ntmps22
  go_upto_region 1 with (fail)
  obtain ⟨W0, hW0, hB0, hb⟩ := start1 w 24 [.slice A n c]
  rw [← hW0]
  clear hW0
  refine jp ?_
  refine ja hB0 Tryd.underlying24 (by rfl) info_rg ?_
  refine jm (.slice A' m c') ?_
  refine jc (.int .i64 0) (fun X hX hF => mo (slgC A n c r X (HRX.out X (bel_next hb hX)) HLN.out hn1 A' m c' l (HRL.out X (bel_next hb hX)) HLM.out hm1 HOK.out (HKK.out X (bel_next hb hX))) (by rw [HLG.out])) ?_
  refine jm (.int .i64 0) ?_
  refine jz fun X1 hX1 => ?_
  have hB0 := hB0.bel hX1
  have hb := bel_next hb hX1
  clear hX1
  go_upto_region 2 with (fail)
  refine jp ?_
  refine jm (.int .i64 0) ?_
  refine jv (.bool false) (exec_nei _ _ _ _ (by rfl) .i64 0 0 (by rfl) (by rfl) false (by rfl)) ?_
  refine jz fun X2 hX2 => ?_
  have hB0 := hB0.bel hX2
  have hb := bel_next hb hX2
  clear hX2
  go_upto_region 4 with (fail)
  refine jp ?_
  refine ja hB0 Tryd.underlying24 (by rfl) info_rg ?_
  refine jm (.slice A2 m2 c2) ?_
  refine jc (.int .i64 e9) (fun X hX hF => mo (slgC A n c r X (HRX.out X (bel_next hb hX)) HLN.out hn1 A2 m2 c2 l2 (HRL2.out X (bel_next hb hX)) HLM2.out hm2 HOK2.out (HKK.out X (bel_next hb hX))) (by rw [HLG2.out])) ?_
  refine jm (.int .i64 e9) ?_
  refine jz fun X3 hX3 => ?_
  have hB0 := hB0.bel hX3
  have hb := bel_next hb hX3
  clear hX3
  go_upto_region 5 with (fail)
  refine jp ?_
  refine jm (.int .i64 e9) ?_
  refine jv (.bool true) (exec_nei _ _ _ _ (by rfl) .i64 e9 0 (by rfl) (by rfl) true (by rw [decide_eq_false HC.out]; rfl)) ?_
  refine jz fun X4 hX4 => ?_
  have hB0 := hB0.bel hX4
  have hb := bel_next hb hX4
  clear hX4
  go_upto_region 6 with (fail)
  refine jp ?_
  refine jm (.int .i64 e9) ?_
  refine jm (.int .i64 0) ?_
  refine jm (.int .i64 e9) ?_
  refine jz fun X5 hX5 => ?_
  have hB0 := hB0.bel hX5
  have hb := bel_next hb hX5
  clear hX5
  go_wp2
  go_ret2
  exact ⟨by rw [HE.out.1, HE.out.2]; rfl, hb⟩
theorem sco3 (A : Option Addr) (n c : Nat) (r : List (List UInt8)) (w : World) (hr : Rd w 1 (.slice A n c) n (r.map tx)) (hln : r.length = n) (hn1 : n ≤ 9223372036854775807) (A' : Option Addr) (m c' : Nat) (l : List Sl) (hrl : Rd w 37 (.slice A' m c') m (fl slc l)) (hlm : l.length = m) (hm1 : m ≤ 9223372036854775807) (hok : ∀ s ∈ l, SlOk s) (A2 : Option Addr) (m2 c2 : Nat) (l2 : List Sl) (hrl2 : Rd w 37 (.slice A2 m2 c2) m2 (fl slc l2)) (hlm2 : l2.length = m2) (hm2 : m2 ≤ 9223372036854775807) (hok2 : ∀ s ∈ l2, SlOk s) (hK : KK w) (h : lgE mk48 nm48 r l = 0) (h2 : lgE mk48 nm48 r l2 = 0) (h0 : 0 < m) (h02 : 0 < m2) (hs : (sAt l 0).st ≠ (sAt l2 0).st) : Calls Tryd.prog 22 #[.agg #[.slice A n c], .slice A' m c', .slice A2 m2 c2] w fun e w' => e = .returned (.tuple #[.int .i64 (coN mk48 nm48 r l l2), .int .i64 (coE mk48 nm48 r l l2)]) ∧ Since w w' := by
  have HLG := Lib.hid h
  have HLG2 := Lib.hid h2
  clear h h2
  have HE : Hid (coE mk48 nm48 r l l2 = 1 ∧ coN mk48 nm48 r l l2 = 0) := by
    have h9 := coE_3 HLG.out HLG2.out ⟨by omega, by omega, hs⟩
    exact ⟨h9, coN_no (by rw [h9]; decide)⟩
  obtain ⟨b, off, rfl, hbb, hall⟩ := hrl.sls hok hlm h0
  obtain ⟨b2, off2, rfl, hbb2, hall2⟩ := hrl2.sls hok2 hlm2 h02
  have hcx := hall 0 (by omega)
  have hcy := hall2 0 (by omega)
  clear hall hall2
  obtain ⟨x, hx9⟩ : ∃ x, x = sAt l 0 := ⟨_, rfl⟩
  obtain ⟨y, hy9⟩ : ∃ y, y = sAt l2 0 := ⟨_, rfl⟩
  rw [← hx9] at hcx
  rw [← hy9] at hcy
  have HX := Lib.hid hx9
  have HY := Lib.hid hy9
  clear hx9 hy9
  rw [← HX.out, ← HY.out] at hs
  have HS : Hid (x.st ≠ y.st) := hs
  clear hs
  have hz := zero16
  have hzs := zeroSl
  have HKK : Hid (∀ X, Since w X → KK X) := fun X h => hK.below h hK.1
  have HRX : Hid (∀ X, Since w X → Rd X 1 (.slice A n c) n (r.map tx)) := fun X h => hr.below h
  have HRL : Hid (∀ X, Since w X → Rd X 37 (.slice (some ⟨b, off, none⟩) m c') m (fl slc l)) := fun X h => hrl.below h
  have HLN := Lib.hid hln
  have HLM := Lib.hid hlm
  have HOK := Lib.hid hok
  clear hK hr hrl hln hlm hok
  have HRL2 : Hid (∀ X, Since w X → Rd X 37 (.slice (some ⟨b2, off2, none⟩) m2 c2) m2 (fl slc l2)) := fun X h => hrl2.below h
  have HLM2 := Lib.hid hlm2
  have HOK2 := Lib.hid hok2
  clear hrl2 hlm2 hok2
  go_enter Tryd.func22, Tryd.ntmps22
  go_upto_region 1 with (fail)
  obtain ⟨W0, hW0, hB0, hb⟩ := start1 w 24 [.slice A n c]
  rw [← hW0]
  clear hW0
  have hcx := hcx.below hb hbb
  have hcy := hcy.below hb hbb2
  replace hbb := Nat.lt_of_lt_of_le hbb (hb).size
  replace hbb2 := Nat.lt_of_lt_of_le hbb2 (hb).size
  refine jp ?_
  refine ja hB0 Tryd.underlying24 (by rfl) info_rg ?_
  refine jm (.slice (some ⟨b, off, none⟩) m c') ?_
  refine jc (.int .i64 0) (fun X hX hF => mo (slgC A n c r X (HRX.out X (bel_next hb hX)) HLN.out hn1 (some ⟨b, off, none⟩) m c' l (HRL.out X (bel_next hb hX)) HLM.out hm1 HOK.out (HKK.out X (bel_next hb hX))) (by rw [HLG.out])) ?_
  refine jm (.int .i64 0) ?_
  refine jz fun X1 hX1 => ?_
  have hB0 := hB0.bel hX1
  have hcx := hcx.below hX1 hbb
  have hcy := hcy.below hX1 hbb2
  replace hbb := Nat.lt_of_lt_of_le hbb (hX1).size
  replace hbb2 := Nat.lt_of_lt_of_le hbb2 (hX1).size
  have hb := bel_next hb hX1
  clear hX1
  go_upto_region 2 with (fail)
  refine jp ?_
  refine jm (.int .i64 0) ?_
  refine jv (.bool false) (exec_nei _ _ _ _ (by rfl) .i64 0 0 (by rfl) (by rfl) false (by rfl)) ?_
  refine jz fun X2 hX2 => ?_
  have hB0 := hB0.bel hX2
  have hcx := hcx.below hX2 hbb
  have hcy := hcy.below hX2 hbb2
  replace hbb := Nat.lt_of_lt_of_le hbb (hX2).size
  replace hbb2 := Nat.lt_of_lt_of_le hbb2 (hX2).size
  have hb := bel_next hb hX2
  clear hX2
  go_upto_region 4 with (fail)
  refine jp ?_
  refine ja hB0 Tryd.underlying24 (by rfl) info_rg ?_
  refine jm (.slice (some ⟨b2, off2, none⟩) m2 c2) ?_
  refine jc (.int .i64 0) (fun X hX hF => mo (slgC A n c r X (HRX.out X (bel_next hb hX)) HLN.out hn1 (some ⟨b2, off2, none⟩) m2 c2 l2 (HRL2.out X (bel_next hb hX)) HLM2.out hm2 HOK2.out (HKK.out X (bel_next hb hX))) (by rw [HLG2.out])) ?_
  refine jm (.int .i64 0) ?_
  refine jz fun X3 hX3 => ?_
  have hB0 := hB0.bel hX3
  have hcx := hcx.below hX3 hbb
  have hcy := hcy.below hX3 hbb2
  replace hbb := Nat.lt_of_lt_of_le hbb (hX3).size
  replace hbb2 := Nat.lt_of_lt_of_le hbb2 (hX3).size
  have hb := bel_next hb hX3
  clear hX3
  go_upto_region 5 with (fail)
  refine jp ?_
  refine jm (.int .i64 0) ?_
  refine jv (.bool false) (exec_nei _ _ _ _ (by rfl) .i64 0 0 (by rfl) (by rfl) false (by rfl)) ?_
  refine jz fun X4 hX4 => ?_
  have hB0 := hB0.bel hX4
  have hcx := hcx.below hX4 hbb
  have hcy := hcy.below hX4 hbb2
  replace hbb := Nat.lt_of_lt_of_le hbb (hX4).size
  replace hbb2 := Nat.lt_of_lt_of_le hbb2 (hX4).size
  have hb := bel_next hb hX4
  clear hX4
  go_upto_region 7 with (fail)
  refine jd ?_
  refine jm (.slice (some ⟨b, off, none⟩) m c') ?_
  refine jv (.int .i64 (m : Int)) (exec_lenv Tryd.underlying30 _ (by rfl) (some ⟨b, off, none⟩) m c' (by rfl) _ rfl) ?_
  refine jv (.bool true) (exec_gtr _ _ _ _ (by rfl) .i64 (m : Int) 0 (by rfl) (by rfl) true (decide_eq_true (by omega))) ?_
  refine jm (.bool true) ?_
  refine jm (.slice (some ⟨b2, off2, none⟩) m2 c2) ?_
  refine jv (.int .i64 (m2 : Int)) (exec_lenv Tryd.underlying30 _ (by rfl) (some ⟨b2, off2, none⟩) m2 c2 (by rfl) _ rfl) ?_
  refine jv (.bool true) (exec_gtr _ _ _ _ (by rfl) .i64 (m2 : Int) 0 (by rfl) (by rfl) true (decide_eq_true (by omega))) ?_
  refine jm (.bool true) ?_
  refine jm (.bool true) ?_
  refine jm (.slice (some ⟨b, off, none⟩) m c') ?_
  refine jv (.pointer (some ⟨b, off + 0 * 37, none⟩)) (exec_ixv Tryd.underlying30 info_sl _ _ (by rfl) b (off) m c' 0 (by omega) (by rfl) (by rfl) rfl) ?_
  refine jn (.pointer (some ⟨b, off + 0 * 37, none⟩)) ?_
  refine jg (.int .i64 x.st) (fun X hX hF => exec_ld 3 _ (by rfl) b (off + 0 * 37) (by rfl) _ X ((hcx.below hX hbb) 0 _ rfl) (fun X u h => load_int b (off + 0 * 37) X u h)) ?_
  refine jm (.slice (some ⟨b2, off2, none⟩) m2 c2) ?_
  refine jv (.pointer (some ⟨b2, off2 + 0 * 37, none⟩)) (exec_ixv Tryd.underlying30 info_sl _ _ (by rfl) b2 (off2) m2 c2 0 (by omega) (by rfl) (by rfl) rfl) ?_
  refine jn (.pointer (some ⟨b2, off2 + 0 * 37, none⟩)) ?_
  refine jg (.int .i64 y.st) (fun X hX hF => exec_ld 3 _ (by rfl) b2 (off2 + 0 * 37) (by rfl) _ X ((hcy.below hX hbb2) 0 _ rfl) (fun X u h => load_int b2 (off2 + 0 * 37) X u h)) ?_
  refine jv (.bool true) (exec_nei _ _ _ _ (by rfl) .i64 x.st y.st (by rfl) (by rfl) true (by rw [decide_eq_false HS.out]; rfl)) ?_
  refine jm (.bool true) ?_
  refine jz fun X5 hX5 => ?_
  have hB0 := hB0.bel hX5
  have hcx := hcx.below hX5 hbb
  have hcy := hcy.below hX5 hbb2
  replace hbb := Nat.lt_of_lt_of_le hbb (hX5).size
  replace hbb2 := Nat.lt_of_lt_of_le hbb2 (hX5).size
  have hb := bel_next hb hX5
  clear hX5
  go_upto_region 8 with (fail)
  refine jp ?_
  refine jm (.int .i64 0) ?_
  refine jm (.int .i64 1) ?_
  refine jz fun X6 hX6 => ?_
  have hB0 := hB0.bel hX6
  have hcx := hcx.below hX6 hbb
  have hcy := hcy.below hX6 hbb2
  replace hbb := Nat.lt_of_lt_of_le hbb (hX6).size
  replace hbb2 := Nat.lt_of_lt_of_le hbb2 (hX6).size
  have hb := bel_next hb hX6
  clear hX6
  go_wp2
  go_ret2
  exact ⟨by rw [HE.out.1, HE.out.2]; rfl, hb⟩
theorem sco4 (A : Option Addr) (n c : Nat) (r : List (List UInt8)) (w : World) (hr : Rd w 1 (.slice A n c) n (r.map tx)) (hln : r.length = n) (hn1 : n ≤ 9223372036854775807) (A' : Option Addr) (m c' : Nat) (l : List Sl) (hrl : Rd w 37 (.slice A' m c') m (fl slc l)) (hlm : l.length = m) (hm1 : m ≤ 9223372036854775807) (hok : ∀ s ∈ l, SlOk s) (A2 : Option Addr) (m2 c2 : Nat) (l2 : List Sl) (hrl2 : Rd w 37 (.slice A2 m2 c2) m2 (fl slc l2)) (hlm2 : l2.length = m2) (hm2 : m2 ≤ 9223372036854775807) (hok2 : ∀ s ∈ l2, SlOk s) (hK : KK w) (h : lgE mk48 nm48 r l = 0) (h2 : lgE mk48 nm48 r l2 = 0) (h0 : ¬ 0 < m) (hst : 0 < l.length → 0 < l2.length → (sAt l 0).st = (sAt l2 0).st) : Calls Tryd.prog 22 #[.agg #[.slice A n c], .slice A' m c', .slice A2 m2 c2] w fun e w' => e = .returned (.tuple #[.int .i64 (coN mk48 nm48 r l l2), .int .i64 (coE mk48 nm48 r l l2)]) ∧ Since w w' := by
  have HLG := Lib.hid h
  have HLG2 := Lib.hid h2
  clear h h2
  have HE : Hid (coE mk48 nm48 r l l2 = 0 ∧ coN mk48 nm48 r l l2 = (cmn l l2 : Int)) := by
    have h9 := coE_0 HLG.out HLG2.out hst
    exact ⟨h9, coN_yes h9⟩
  clear hst
  have hz := zero16
  have hzs := zeroSl
  have HKK : Hid (∀ X, Since w X → KK X) := fun X h => hK.below h hK.1
  have HRX : Hid (∀ X, Since w X → Rd X 1 (.slice A n c) n (r.map tx)) := fun X h => hr.below h
  have HRL : Hid (∀ X, Since w X → Rd X 37 (.slice A' m c') m (fl slc l)) := fun X h => hrl.below h
  have HLN := Lib.hid hln
  have HLM := Lib.hid hlm
  have HOK := Lib.hid hok
  clear hK hr hrl hln hlm hok
  have HRL2 : Hid (∀ X, Since w X → Rd X 37 (.slice A2 m2 c2) m2 (fl slc l2)) := fun X h => hrl2.below h
  have HLM2 := Lib.hid hlm2
  have HOK2 := Lib.hid hok2
  clear hrl2 hlm2 hok2
  go_enter Tryd.func22, Tryd.ntmps22
  go_upto_region 1 with (fail)
  obtain ⟨W0, hW0, hB0, hb⟩ := start1 w 24 [.slice A n c]
  rw [← hW0]
  clear hW0
  refine jp ?_
  refine ja hB0 Tryd.underlying24 (by rfl) info_rg ?_
  refine jm (.slice A' m c') ?_
  refine jc (.int .i64 0) (fun X hX hF => mo (slgC A n c r X (HRX.out X (bel_next hb hX)) HLN.out hn1 A' m c' l (HRL.out X (bel_next hb hX)) HLM.out hm1 HOK.out (HKK.out X (bel_next hb hX))) (by rw [HLG.out])) ?_
  refine jm (.int .i64 0) ?_
  refine jz fun X1 hX1 => ?_
  have hB0 := hB0.bel hX1
  have hb := bel_next hb hX1
  clear hX1
  go_upto_region 2 with (fail)
  refine jp ?_
  refine jm (.int .i64 0) ?_
  refine jv (.bool false) (exec_nei _ _ _ _ (by rfl) .i64 0 0 (by rfl) (by rfl) false (by rfl)) ?_
  refine jz fun X2 hX2 => ?_
  have hB0 := hB0.bel hX2
  have hb := bel_next hb hX2
  clear hX2
  go_upto_region 4 with (fail)
  refine jp ?_
  refine ja hB0 Tryd.underlying24 (by rfl) info_rg ?_
  refine jm (.slice A2 m2 c2) ?_
  refine jc (.int .i64 0) (fun X hX hF => mo (slgC A n c r X (HRX.out X (bel_next hb hX)) HLN.out hn1 A2 m2 c2 l2 (HRL2.out X (bel_next hb hX)) HLM2.out hm2 HOK2.out (HKK.out X (bel_next hb hX))) (by rw [HLG2.out])) ?_
  refine jm (.int .i64 0) ?_
  refine jz fun X3 hX3 => ?_
  have hB0 := hB0.bel hX3
  have hb := bel_next hb hX3
  clear hX3
  go_upto_region 5 with (fail)
  refine jp ?_
  refine jm (.int .i64 0) ?_
  refine jv (.bool false) (exec_nei _ _ _ _ (by rfl) .i64 0 0 (by rfl) (by rfl) false (by rfl)) ?_
  refine jz fun X4 hX4 => ?_
  have hB0 := hB0.bel hX4
  have hb := bel_next hb hX4
  clear hX4
  go_upto_region 7 with (fail)
  refine jd ?_
  refine jm (.slice A' m c') ?_
  refine jv (.int .i64 (m : Int)) (exec_lenv Tryd.underlying30 _ (by rfl) A' m c' (by rfl) _ rfl) ?_
  refine jv (.bool false) (exec_gtr _ _ _ _ (by rfl) .i64 (m : Int) 0 (by rfl) (by rfl) false (decide_eq_false (by omega))) ?_
  refine jm (.bool false) ?_
  refine js ?_
  refine js ?_
  refine js ?_
  refine jm (.bool false) ?_
  refine jm (.bool false) ?_
  refine js ?_
  refine js ?_
  refine js ?_
  refine js ?_
  refine js ?_
  refine js ?_
  refine js ?_
  refine js ?_
  refine js ?_
  refine jm (.bool false) ?_
  refine jz fun X5 hX5 => ?_
  have hB0 := hB0.bel hX5
  have hb := bel_next hb hX5
  clear hX5
  go_upto_region 9 with (fail)
  refine jp ?_
  refine jm (.int .i64 0) ?_
  refine jz fun X6 hX6 => ?_
  have hB0 := hB0.bel hX6
  have hb := bel_next hb hX6
  clear hX6
  go_wp2
  go_loopw [10] (fun kv wr => ∃ k : Nat, k ≤ m ∧ k ≤ m2 ∧ kv = .int .i64 (k : Int) ∧ Hid (∀ j, j < k → sAt l j = sAt l2 j) ∧ Below w.heap.size w wr) (fun kv _ => m - (intOf kv).toNat)
  case atStart => exact ⟨0, by omega, by omega, rfl, (fun j hj => by omega), hb⟩
  case round =>
    clear hb hB0
    obtain ⟨k, hk, hk2, rfl, HZ, hb⟩ := hrel
    rcases Nat.lt_or_ge k m with hlt | hlt
    · rcases Nat.lt_or_ge k m2 with hlt2 | hlt2
      · obtain ⟨b, off, rfl, hbb, hall⟩ := (HRL.out _ hb).sls HOK.out HLM.out (by omega)
        obtain ⟨b2, off2, rfl, hbb2, hall2⟩ := (HRL2.out _ hb).sls HOK2.out HLM2.out (by omega)
        have hcx := hall k (by omega)
        have hcy := hall2 k (by omega)
        clear hall hall2
        have ox := ok_at HOK.out (k := k) (by rw [HLM.out]; exact hlt)
        have oy := ok_at HOK2.out (k := k) (by rw [HLM2.out]; exact hlt2)
        obtain ⟨x, hx9⟩ : ∃ x, x = sAt l k := ⟨_, rfl⟩
        obtain ⟨y, hy9⟩ : ∃ y, y = sAt l2 k := ⟨_, rfl⟩
        rw [← hx9] at hcx ox
        rw [← hy9] at hcy oy
        have HX := Lib.hid hx9
        have HY := Lib.hid hy9
        clear hx9 hy9
        by_cases hq : x = y
        · have HQ := Lib.hid hq
          clear hq
          go_upto_region 10 with (fail)
          refine jd ?_
          refine jm (.int .i64 (k : Int)) ?_
          refine jm (.slice (some ⟨b, off, none⟩) m c') ?_
          refine jv (.int .i64 (m : Int)) (exec_lenv Tryd.underlying30 _ (by rfl) (some ⟨b, off, none⟩) m c' (by rfl) _ rfl) ?_
          refine jv (.bool true) (exec_lss _ _ _ _ (by rfl) .i64 (k : Int) (m : Int) (by rfl) (by rfl) true (decide_eq_true (by omega))) ?_
          refine jm (.bool true) ?_
          refine jm (.int .i64 (k : Int)) ?_
          refine jm (.slice (some ⟨b2, off2, none⟩) m2 c2) ?_
          refine jv (.int .i64 (m2 : Int)) (exec_lenv Tryd.underlying30 _ (by rfl) (some ⟨b2, off2, none⟩) m2 c2 (by rfl) _ rfl) ?_
          refine jv (.bool true) (exec_lss _ _ _ _ (by rfl) .i64 (k : Int) (m2 : Int) (by rfl) (by rfl) true (decide_eq_true (by omega))) ?_
          refine jm (.bool true) ?_
          refine jm (.bool true) ?_
          refine jm (.slice (some ⟨b, off, none⟩) m c') ?_
          refine jm (.int .i64 (k : Int)) ?_
          refine jv (.pointer (some ⟨b, off + k * 37, none⟩)) (exec_ixv Tryd.underlying30 info_sl _ _ (by rfl) b (off) m c' k (by omega) (by rfl) (by rfl) rfl) ?_
          refine jg (.agg (slc x).toArray) (fun X hX hF => exec_ldc 28 _ (by rfl) b (off + k * 37) (by rfl) Tryd.underlying28 rfl (slc x) X (hcx.below hX hbb) (info_slc ox)) ?_
          refine jm (.slice (some ⟨b2, off2, none⟩) m2 c2) ?_
          refine jm (.int .i64 (k : Int)) ?_
          refine jv (.pointer (some ⟨b2, off2 + k * 37, none⟩)) (exec_ixv Tryd.underlying30 info_sl _ _ (by rfl) b2 (off2) m2 c2 k (by omega) (by rfl) (by rfl) rfl) ?_
          refine jg (.agg (slc y).toArray) (fun X hX hF => exec_ldc 28 _ (by rfl) b2 (off2 + k * 37) (by rfl) Tryd.underlying28 rfl (slc y) X (hcy.below hX hbb2) (info_slc oy)) ?_
          refine jv (.bool true) (exec_eqsl _ _ _ (by rfl) x y ox oy (by rfl) (by rfl) _ (decide_eq_true HQ.out)) ?_
          refine jm (.bool true) ?_
          refine jz fun X1 hX1 => ?_
          have hcx := hcx.below hX1 hbb
          have hcy := hcy.below hX1 hbb2
          replace hbb := Nat.lt_of_lt_of_le hbb (hX1).size
          replace hbb2 := Nat.lt_of_lt_of_le hbb2 (hX1).size
          have hb := bel_next hb hX1
          clear hX1
          go_upto_region 11 with (fail)
          refine jp ?_
          refine jm (.int .i64 (k : Int)) ?_
          refine jv (.int .i64 ((k + 1 : Nat) : Int)) (exec_add _ _ _ _ (by rfl) (k : Int) 1 ((k + 1 : Nat) : Int) (by rfl) (by rfl) (by omega) (by omega) (by omega)) ?_
          refine jm (.int .i64 ((k + 1 : Nat) : Int)) ?_
          refine jz fun X2 hX2 => ?_
          have hcx := hcx.below hX2 hbb
          have hcy := hcy.below hX2 hbb2
          replace hbb := Nat.lt_of_lt_of_le hbb (hX2).size
          replace hbb2 := Nat.lt_of_lt_of_le hbb2 (hX2).size
          have hb := bel_next hb hX2
          clear hX2
          have HZ2 : Hid (∀ j, j < k + 1 → sAt l j = sAt l2 j) := fun j hj => by
            rcases Nat.lt_or_ge j k with h9 | h9
            · exact HZ.out j h9
            · rw [show j = k by omega, ← HX.out, ← HY.out]; exact HQ.out
          go_wp2
          go_roundw
          case rel => exact ⟨k + 1, by omega, by omega, rfl, HZ2, hb⟩
          case measure => simp [intOf]; omega
        · have HQ : Hid (¬ x = y) := hq
          clear hq
          have HN : Hid (cmn l l2 = k) := cmn_is (by rw [HLM.out]; omega) (by rw [HLM2.out]; omega) HZ.out (.inr (.inr (by rw [← HX.out, ← HY.out]; exact HQ.out)))
          have HF : Hid (coE mk48 nm48 r l l2 = 0 ∧ coN mk48 nm48 r l l2 = (k : Int)) := ⟨HE.out.1, by rw [HE.out.2, HN.out]⟩
          go_upto_region 10 with (fail)
          refine jd ?_
          refine jm (.int .i64 (k : Int)) ?_
          refine jm (.slice (some ⟨b, off, none⟩) m c') ?_
          refine jv (.int .i64 (m : Int)) (exec_lenv Tryd.underlying30 _ (by rfl) (some ⟨b, off, none⟩) m c' (by rfl) _ rfl) ?_
          refine jv (.bool true) (exec_lss _ _ _ _ (by rfl) .i64 (k : Int) (m : Int) (by rfl) (by rfl) true (decide_eq_true (by omega))) ?_
          refine jm (.bool true) ?_
          refine jm (.int .i64 (k : Int)) ?_
          refine jm (.slice (some ⟨b2, off2, none⟩) m2 c2) ?_
          refine jv (.int .i64 (m2 : Int)) (exec_lenv Tryd.underlying30 _ (by rfl) (some ⟨b2, off2, none⟩) m2 c2 (by rfl) _ rfl) ?_
          refine jv (.bool true) (exec_lss _ _ _ _ (by rfl) .i64 (k : Int) (m2 : Int) (by rfl) (by rfl) true (decide_eq_true (by omega))) ?_
          refine jm (.bool true) ?_
          refine jm (.bool true) ?_
          refine jm (.slice (some ⟨b, off, none⟩) m c') ?_
          refine jm (.int .i64 (k : Int)) ?_
          refine jv (.pointer (some ⟨b, off + k * 37, none⟩)) (exec_ixv Tryd.underlying30 info_sl _ _ (by rfl) b (off) m c' k (by omega) (by rfl) (by rfl) rfl) ?_
          refine jg (.agg (slc x).toArray) (fun X hX hF => exec_ldc 28 _ (by rfl) b (off + k * 37) (by rfl) Tryd.underlying28 rfl (slc x) X (hcx.below hX hbb) (info_slc ox)) ?_
          refine jm (.slice (some ⟨b2, off2, none⟩) m2 c2) ?_
          refine jm (.int .i64 (k : Int)) ?_
          refine jv (.pointer (some ⟨b2, off2 + k * 37, none⟩)) (exec_ixv Tryd.underlying30 info_sl _ _ (by rfl) b2 (off2) m2 c2 k (by omega) (by rfl) (by rfl) rfl) ?_
          refine jg (.agg (slc y).toArray) (fun X hX hF => exec_ldc 28 _ (by rfl) b2 (off2 + k * 37) (by rfl) Tryd.underlying28 rfl (slc y) X (hcy.below hX hbb2) (info_slc oy)) ?_
          refine jv (.bool false) (exec_eqsl _ _ _ (by rfl) x y ox oy (by rfl) (by rfl) _ (decide_eq_false HQ.out)) ?_
          refine jm (.bool false) ?_
          refine jz fun X1 hX1 => ?_
          have hcx := hcx.below hX1 hbb
          have hcy := hcy.below hX1 hbb2
          replace hbb := Nat.lt_of_lt_of_le hbb (hX1).size
          replace hbb2 := Nat.lt_of_lt_of_le hbb2 (hX1).size
          have hb := bel_next hb hX1
          clear hX1
          go_upto_region 12 with (fail)
          refine jp ?_
          refine jm (.int .i64 (k : Int)) ?_
          refine jm (.int .i64 (k : Int)) ?_
          refine jm (.int .i64 0) ?_
          refine jz fun X2 hX2 => ?_
          have hcx := hcx.below hX2 hbb
          have hcy := hcy.below hX2 hbb2
          replace hbb := Nat.lt_of_lt_of_le hbb (hX2).size
          replace hbb2 := Nat.lt_of_lt_of_le hbb2 (hX2).size
          have hb := bel_next hb hX2
          clear hX2
          go_wp2
          go_ret2
          exact ⟨by rw [HF.out.1, HF.out.2]; rfl, hb⟩
      · have HN : Hid (cmn l l2 = k) := cmn_is (by rw [HLM.out]; omega) (by rw [HLM2.out]; omega) HZ.out (.inr (.inl (by rw [HLM2.out]; omega)))
        have HF : Hid (coE mk48 nm48 r l l2 = 0 ∧ coN mk48 nm48 r l l2 = (k : Int)) := ⟨HE.out.1, by rw [HE.out.2, HN.out]⟩
        go_upto_region 10 with (fail)
        refine jd ?_
        refine jm (.int .i64 (k : Int)) ?_
        refine jm (.slice A' m c') ?_
        refine jv (.int .i64 (m : Int)) (exec_lenv Tryd.underlying30 _ (by rfl) A' m c' (by rfl) _ rfl) ?_
        refine jv (.bool true) (exec_lss _ _ _ _ (by rfl) .i64 (k : Int) (m : Int) (by rfl) (by rfl) true (decide_eq_true (by omega))) ?_
        refine jm (.bool true) ?_
        refine jm (.int .i64 (k : Int)) ?_
        refine jm (.slice A2 m2 c2) ?_
        refine jv (.int .i64 (m2 : Int)) (exec_lenv Tryd.underlying30 _ (by rfl) A2 m2 c2 (by rfl) _ rfl) ?_
        refine jv (.bool false) (exec_lss _ _ _ _ (by rfl) .i64 (k : Int) (m2 : Int) (by rfl) (by rfl) false (decide_eq_false (by omega))) ?_
        refine jm (.bool false) ?_
        refine jm (.bool false) ?_
        refine js ?_
        refine js ?_
        refine js ?_
        refine js ?_
        refine js ?_
        refine js ?_
        refine js ?_
        refine js ?_
        refine js ?_
        refine jm (.bool false) ?_
        refine jz fun X1 hX1 => ?_
        have hb := bel_next hb hX1
        clear hX1
        go_upto_region 12 with (fail)
        refine jp ?_
        refine jm (.int .i64 (k : Int)) ?_
        refine jm (.int .i64 (k : Int)) ?_
        refine jm (.int .i64 0) ?_
        refine jz fun X2 hX2 => ?_
        have hb := bel_next hb hX2
        clear hX2
        go_wp2
        go_ret2
        exact ⟨by rw [HF.out.1, HF.out.2]; rfl, hb⟩
    · have HN : Hid (cmn l l2 = k) := cmn_is (by rw [HLM.out]; omega) (by rw [HLM2.out]; omega) HZ.out (.inl (by rw [HLM.out]; omega))
      have HF : Hid (coE mk48 nm48 r l l2 = 0 ∧ coN mk48 nm48 r l l2 = (k : Int)) := ⟨HE.out.1, by rw [HE.out.2, HN.out]⟩
      go_upto_region 10 with (fail)
      refine jd ?_
      refine jm (.int .i64 (k : Int)) ?_
      refine jm (.slice A' m c') ?_
      refine jv (.int .i64 (m : Int)) (exec_lenv Tryd.underlying30 _ (by rfl) A' m c' (by rfl) _ rfl) ?_
      refine jv (.bool false) (exec_lss _ _ _ _ (by rfl) .i64 (k : Int) (m : Int) (by rfl) (by rfl) false (decide_eq_false (by omega))) ?_
      refine jm (.bool false) ?_
      refine js ?_
      refine js ?_
      refine js ?_
      refine js ?_
      refine jm (.bool false) ?_
      refine jm (.bool false) ?_
      refine js ?_
      refine js ?_
      refine js ?_
      refine js ?_
      refine js ?_
      refine js ?_
      refine js ?_
      refine js ?_
      refine js ?_
      refine jm (.bool false) ?_
      refine jz fun X1 hX1 => ?_
      have hb := bel_next hb hX1
      clear hX1
      go_upto_region 12 with (fail)
      refine jp ?_
      refine jm (.int .i64 (k : Int)) ?_
      refine jm (.int .i64 (k : Int)) ?_
      refine jm (.int .i64 0) ?_
      refine jz fun X2 hX2 => ?_
      have hb := bel_next hb hX2
      clear hX2
      go_wp2
      go_ret2
      exact ⟨by rw [HF.out.1, HF.out.2]; rfl, hb⟩
theorem sco5 (A : Option Addr) (n c : Nat) (r : List (List UInt8)) (w : World) (hr : Rd w 1 (.slice A n c) n (r.map tx)) (hln : r.length = n) (hn1 : n ≤ 9223372036854775807) (A' : Option Addr) (m c' : Nat) (l : List Sl) (hrl : Rd w 37 (.slice A' m c') m (fl slc l)) (hlm : l.length = m) (hm1 : m ≤ 9223372036854775807) (hok : ∀ s ∈ l, SlOk s) (A2 : Option Addr) (m2 c2 : Nat) (l2 : List Sl) (hrl2 : Rd w 37 (.slice A2 m2 c2) m2 (fl slc l2)) (hlm2 : l2.length = m2) (hm2 : m2 ≤ 9223372036854775807) (hok2 : ∀ s ∈ l2, SlOk s) (hK : KK w) (h : lgE mk48 nm48 r l = 0) (h2 : lgE mk48 nm48 r l2 = 0) (h0 : 0 < m) (h02 : ¬ 0 < m2) (hst : 0 < l.length → 0 < l2.length → (sAt l 0).st = (sAt l2 0).st) : Calls Tryd.prog 22 #[.agg #[.slice A n c], .slice A' m c', .slice A2 m2 c2] w fun e w' => e = .returned (.tuple #[.int .i64 (coN mk48 nm48 r l l2), .int .i64 (coE mk48 nm48 r l l2)]) ∧ Since w w' := by
  have HLG := Lib.hid h
  have HLG2 := Lib.hid h2
  clear h h2
  have HE : Hid (coE mk48 nm48 r l l2 = 0 ∧ coN mk48 nm48 r l l2 = (cmn l l2 : Int)) := by
    have h9 := coE_0 HLG.out HLG2.out hst
    exact ⟨h9, coN_yes h9⟩
  clear hst
  have hz := zero16
  have hzs := zeroSl
  have HKK : Hid (∀ X, Since w X → KK X) := fun X h => hK.below h hK.1
  have HRX : Hid (∀ X, Since w X → Rd X 1 (.slice A n c) n (r.map tx)) := fun X h => hr.below h
  have HRL : Hid (∀ X, Since w X → Rd X 37 (.slice A' m c') m (fl slc l)) := fun X h => hrl.below h
  have HLN := Lib.hid hln
  have HLM := Lib.hid hlm
  have HOK := Lib.hid hok
  clear hK hr hrl hln hlm hok
  have HRL2 : Hid (∀ X, Since w X → Rd X 37 (.slice A2 m2 c2) m2 (fl slc l2)) := fun X h => hrl2.below h
  have HLM2 := Lib.hid hlm2
  have HOK2 := Lib.hid hok2
  clear hrl2 hlm2 hok2
  go_enter Tryd.func22, Tryd.ntmps22
  go_upto_region 1 with (fail)
  obtain ⟨W0, hW0, hB0, hb⟩ := start1 w 24 [.slice A n c]
  rw [← hW0]
  clear hW0
  refine jp ?_
  refine ja hB0 Tryd.underlying24 (by rfl) info_rg ?_
  refine jm (.slice A' m c') ?_
  refine jc (.int .i64 0) (fun X hX hF => mo (slgC A n c r X (HRX.out X (bel_next hb hX)) HLN.out hn1 A' m c' l (HRL.out X (bel_next hb hX)) HLM.out hm1 HOK.out (HKK.out X (bel_next hb hX))) (by rw [HLG.out])) ?_
  refine jm (.int .i64 0) ?_
  refine jz fun X1 hX1 => ?_
  have hB0 := hB0.bel hX1
  have hb := bel_next hb hX1
  clear hX1
  go_upto_region 2 with (fail)
  refine jp ?_
  refine jm (.int .i64 0) ?_
  refine jv (.bool false) (exec_nei _ _ _ _ (by rfl) .i64 0 0 (by rfl) (by rfl) false (by rfl)) ?_
  refine jz fun X2 hX2 => ?_
  have hB0 := hB0.bel hX2
  have hb := bel_next hb hX2
  clear hX2
  go_upto_region 4 with (fail)
  refine jp ?_
  refine ja hB0 Tryd.underlying24 (by rfl) info_rg ?_
  refine jm (.slice A2 m2 c2) ?_
  refine jc (.int .i64 0) (fun X hX hF => mo (slgC A n c r X (HRX.out X (bel_next hb hX)) HLN.out hn1 A2 m2 c2 l2 (HRL2.out X (bel_next hb hX)) HLM2.out hm2 HOK2.out (HKK.out X (bel_next hb hX))) (by rw [HLG2.out])) ?_
  refine jm (.int .i64 0) ?_
  refine jz fun X3 hX3 => ?_
  have hB0 := hB0.bel hX3
  have hb := bel_next hb hX3
  clear hX3
  go_upto_region 5 with (fail)
  refine jp ?_
  refine jm (.int .i64 0) ?_
  refine jv (.bool false) (exec_nei _ _ _ _ (by rfl) .i64 0 0 (by rfl) (by rfl) false (by rfl)) ?_
  refine jz fun X4 hX4 => ?_
  have hB0 := hB0.bel hX4
  have hb := bel_next hb hX4
  clear hX4
  go_upto_region 7 with (fail)
  refine jd ?_
  refine jm (.slice A' m c') ?_
  refine jv (.int .i64 (m : Int)) (exec_lenv Tryd.underlying30 _ (by rfl) A' m c' (by rfl) _ rfl) ?_
  refine jv (.bool true) (exec_gtr _ _ _ _ (by rfl) .i64 (m : Int) 0 (by rfl) (by rfl) true (decide_eq_true (by omega))) ?_
  refine jm (.bool true) ?_
  refine jm (.slice A2 m2 c2) ?_
  refine jv (.int .i64 (m2 : Int)) (exec_lenv Tryd.underlying30 _ (by rfl) A2 m2 c2 (by rfl) _ rfl) ?_
  refine jv (.bool false) (exec_gtr _ _ _ _ (by rfl) .i64 (m2 : Int) 0 (by rfl) (by rfl) false (decide_eq_false (by omega))) ?_
  refine jm (.bool false) ?_
  refine jm (.bool false) ?_
  refine js ?_
  refine js ?_
  refine js ?_
  refine js ?_
  refine js ?_
  refine js ?_
  refine js ?_
  refine js ?_
  refine js ?_
  refine jm (.bool false) ?_
  refine jz fun X5 hX5 => ?_
  have hB0 := hB0.bel hX5
  have hb := bel_next hb hX5
  clear hX5
  go_upto_region 9 with (fail)
  refine jp ?_
  refine jm (.int .i64 0) ?_
  refine jz fun X6 hX6 => ?_
  have hB0 := hB0.bel hX6
  have hb := bel_next hb hX6
  clear hX6
  go_wp2
  go_loopw [10] (fun kv wr => ∃ k : Nat, k ≤ m ∧ k ≤ m2 ∧ kv = .int .i64 (k : Int) ∧ Hid (∀ j, j < k → sAt l j = sAt l2 j) ∧ Below w.heap.size w wr) (fun kv _ => m - (intOf kv).toNat)
  case atStart => exact ⟨0, by omega, by omega, rfl, (fun j hj => by omega), hb⟩
  case round =>
    clear hb hB0
    obtain ⟨k, hk, hk2, rfl, HZ, hb⟩ := hrel
    rcases Nat.lt_or_ge k m with hlt | hlt
    · rcases Nat.lt_or_ge k m2 with hlt2 | hlt2
      · obtain ⟨b, off, rfl, hbb, hall⟩ := (HRL.out _ hb).sls HOK.out HLM.out (by omega)
        obtain ⟨b2, off2, rfl, hbb2, hall2⟩ := (HRL2.out _ hb).sls HOK2.out HLM2.out (by omega)
        have hcx := hall k (by omega)
        have hcy := hall2 k (by omega)
        clear hall hall2
        have ox := ok_at HOK.out (k := k) (by rw [HLM.out]; exact hlt)
        have oy := ok_at HOK2.out (k := k) (by rw [HLM2.out]; exact hlt2)
        obtain ⟨x, hx9⟩ : ∃ x, x = sAt l k := ⟨_, rfl⟩
        obtain ⟨y, hy9⟩ : ∃ y, y = sAt l2 k := ⟨_, rfl⟩
        rw [← hx9] at hcx ox
        rw [← hy9] at hcy oy
        have HX := Lib.hid hx9
        have HY := Lib.hid hy9
        clear hx9 hy9
        by_cases hq : x = y
        · have HQ := Lib.hid hq
          clear hq
          go_upto_region 10 with (fail)
          refine jd ?_
          refine jm (.int .i64 (k : Int)) ?_
          refine jm (.slice (some ⟨b, off, none⟩) m c') ?_
          refine jv (.int .i64 (m : Int)) (exec_lenv Tryd.underlying30 _ (by rfl) (some ⟨b, off, none⟩) m c' (by rfl) _ rfl) ?_
          refine jv (.bool true) (exec_lss _ _ _ _ (by rfl) .i64 (k : Int) (m : Int) (by rfl) (by rfl) true (decide_eq_true (by omega))) ?_
          refine jm (.bool true) ?_
          refine jm (.int .i64 (k : Int)) ?_
          refine jm (.slice (some ⟨b2, off2, none⟩) m2 c2) ?_
          refine jv (.int .i64 (m2 : Int)) (exec_lenv Tryd.underlying30 _ (by rfl) (some ⟨b2, off2, none⟩) m2 c2 (by rfl) _ rfl) ?_
          refine jv (.bool true) (exec_lss _ _ _ _ (by rfl) .i64 (k : Int) (m2 : Int) (by rfl) (by rfl) true (decide_eq_true (by omega))) ?_
          refine jm (.bool true) ?_
          refine jm (.bool true) ?_
          refine jm (.slice (some ⟨b, off, none⟩) m c') ?_
          refine jm (.int .i64 (k : Int)) ?_
          refine jv (.pointer (some ⟨b, off + k * 37, none⟩)) (exec_ixv Tryd.underlying30 info_sl _ _ (by rfl) b (off) m c' k (by omega) (by rfl) (by rfl) rfl) ?_
          refine jg (.agg (slc x).toArray) (fun X hX hF => exec_ldc 28 _ (by rfl) b (off + k * 37) (by rfl) Tryd.underlying28 rfl (slc x) X (hcx.below hX hbb) (info_slc ox)) ?_
          refine jm (.slice (some ⟨b2, off2, none⟩) m2 c2) ?_
          refine jm (.int .i64 (k : Int)) ?_
          refine jv (.pointer (some ⟨b2, off2 + k * 37, none⟩)) (exec_ixv Tryd.underlying30 info_sl _ _ (by rfl) b2 (off2) m2 c2 k (by omega) (by rfl) (by rfl) rfl) ?_
          refine jg (.agg (slc y).toArray) (fun X hX hF => exec_ldc 28 _ (by rfl) b2 (off2 + k * 37) (by rfl) Tryd.underlying28 rfl (slc y) X (hcy.below hX hbb2) (info_slc oy)) ?_
          refine jv (.bool true) (exec_eqsl _ _ _ (by rfl) x y ox oy (by rfl) (by rfl) _ (decide_eq_true HQ.out)) ?_
          refine jm (.bool true) ?_
          refine jz fun X1 hX1 => ?_
          have hcx := hcx.below hX1 hbb
          have hcy := hcy.below hX1 hbb2
          replace hbb := Nat.lt_of_lt_of_le hbb (hX1).size
          replace hbb2 := Nat.lt_of_lt_of_le hbb2 (hX1).size
          have hb := bel_next hb hX1
          clear hX1
          go_upto_region 11 with (fail)
          refine jp ?_
          refine jm (.int .i64 (k : Int)) ?_
          refine jv (.int .i64 ((k + 1 : Nat) : Int)) (exec_add _ _ _ _ (by rfl) (k : Int) 1 ((k + 1 : Nat) : Int) (by rfl) (by rfl) (by omega) (by omega) (by omega)) ?_
          refine jm (.int .i64 ((k + 1 : Nat) : Int)) ?_
          refine jz fun X2 hX2 => ?_
          have hcx := hcx.below hX2 hbb
          have hcy := hcy.below hX2 hbb2
          replace hbb := Nat.lt_of_lt_of_le hbb (hX2).size
          replace hbb2 := Nat.lt_of_lt_of_le hbb2 (hX2).size
          have hb := bel_next hb hX2
          clear hX2
          have HZ2 : Hid (∀ j, j < k + 1 → sAt l j = sAt l2 j) := fun j hj => by
            rcases Nat.lt_or_ge j k with h9 | h9
            · exact HZ.out j h9
            · rw [show j = k by omega, ← HX.out, ← HY.out]; exact HQ.out
          go_wp2
          go_roundw
          case rel => exact ⟨k + 1, by omega, by omega, rfl, HZ2, hb⟩
          case measure => simp [intOf]; omega
        · have HQ : Hid (¬ x = y) := hq
          clear hq
          have HN : Hid (cmn l l2 = k) := cmn_is (by rw [HLM.out]; omega) (by rw [HLM2.out]; omega) HZ.out (.inr (.inr (by rw [← HX.out, ← HY.out]; exact HQ.out)))
          have HF : Hid (coE mk48 nm48 r l l2 = 0 ∧ coN mk48 nm48 r l l2 = (k : Int)) := ⟨HE.out.1, by rw [HE.out.2, HN.out]⟩
          go_upto_region 10 with (fail)
          refine jd ?_
          refine jm (.int .i64 (k : Int)) ?_
          refine jm (.slice (some ⟨b, off, none⟩) m c') ?_
          refine jv (.int .i64 (m : Int)) (exec_lenv Tryd.underlying30 _ (by rfl) (some ⟨b, off, none⟩) m c' (by rfl) _ rfl) ?_
          refine jv (.bool true) (exec_lss _ _ _ _ (by rfl) .i64 (k : Int) (m : Int) (by rfl) (by rfl) true (decide_eq_true (by omega))) ?_
          refine jm (.bool true) ?_
          refine jm (.int .i64 (k : Int)) ?_
          refine jm (.slice (some ⟨b2, off2, none⟩) m2 c2) ?_
          refine jv (.int .i64 (m2 : Int)) (exec_lenv Tryd.underlying30 _ (by rfl) (some ⟨b2, off2, none⟩) m2 c2 (by rfl) _ rfl) ?_
          refine jv (.bool true) (exec_lss _ _ _ _ (by rfl) .i64 (k : Int) (m2 : Int) (by rfl) (by rfl) true (decide_eq_true (by omega))) ?_
          refine jm (.bool true) ?_
          refine jm (.bool true) ?_
          refine jm (.slice (some ⟨b, off, none⟩) m c') ?_
          refine jm (.int .i64 (k : Int)) ?_
          refine jv (.pointer (some ⟨b, off + k * 37, none⟩)) (exec_ixv Tryd.underlying30 info_sl _ _ (by rfl) b (off) m c' k (by omega) (by rfl) (by rfl) rfl) ?_
          refine jg (.agg (slc x).toArray) (fun X hX hF => exec_ldc 28 _ (by rfl) b (off + k * 37) (by rfl) Tryd.underlying28 rfl (slc x) X (hcx.below hX hbb) (info_slc ox)) ?_
          refine jm (.slice (some ⟨b2, off2, none⟩) m2 c2) ?_
          refine jm (.int .i64 (k : Int)) ?_
          refine jv (.pointer (some ⟨b2, off2 + k * 37, none⟩)) (exec_ixv Tryd.underlying30 info_sl _ _ (by rfl) b2 (off2) m2 c2 k (by omega) (by rfl) (by rfl) rfl) ?_
          refine jg (.agg (slc y).toArray) (fun X hX hF => exec_ldc 28 _ (by rfl) b2 (off2 + k * 37) (by rfl) Tryd.underlying28 rfl (slc y) X (hcy.below hX hbb2) (info_slc oy)) ?_
          refine jv (.bool false) (exec_eqsl _ _ _ (by rfl) x y ox oy (by rfl) (by rfl) _ (decide_eq_false HQ.out)) ?_
          refine jm (.bool false) ?_
          refine jz fun X1 hX1 => ?_
          have hcx := hcx.below hX1 hbb
          have hcy := hcy.below hX1 hbb2
          replace hbb := Nat.lt_of_lt_of_le hbb (hX1).size
          replace hbb2 := Nat.lt_of_lt_of_le hbb2 (hX1).size
          have hb := bel_next hb hX1
          clear hX1
          go_upto_region 12 with (fail)
          refine jp ?_
          refine jm (.int .i64 (k : Int)) ?_
          refine jm (.int .i64 (k : Int)) ?_
          refine jm (.int .i64 0) ?_
          refine jz fun X2 hX2 => ?_
          have hcx := hcx.below hX2 hbb
          have hcy := hcy.below hX2 hbb2
          replace hbb := Nat.lt_of_lt_of_le hbb (hX2).size
          replace hbb2 := Nat.lt_of_lt_of_le hbb2 (hX2).size
          have hb := bel_next hb hX2
          clear hX2
          go_wp2
          go_ret2
          exact ⟨by rw [HF.out.1, HF.out.2]; rfl, hb⟩
      · have HN : Hid (cmn l l2 = k) := cmn_is (by rw [HLM.out]; omega) (by rw [HLM2.out]; omega) HZ.out (.inr (.inl (by rw [HLM2.out]; omega)))
        have HF : Hid (coE mk48 nm48 r l l2 = 0 ∧ coN mk48 nm48 r l l2 = (k : Int)) := ⟨HE.out.1, by rw [HE.out.2, HN.out]⟩
        go_upto_region 10 with (fail)
        refine jd ?_
        refine jm (.int .i64 (k : Int)) ?_
        refine jm (.slice A' m c') ?_
        refine jv (.int .i64 (m : Int)) (exec_lenv Tryd.underlying30 _ (by rfl) A' m c' (by rfl) _ rfl) ?_
        refine jv (.bool true) (exec_lss _ _ _ _ (by rfl) .i64 (k : Int) (m : Int) (by rfl) (by rfl) true (decide_eq_true (by omega))) ?_
        refine jm (.bool true) ?_
        refine jm (.int .i64 (k : Int)) ?_
        refine jm (.slice A2 m2 c2) ?_
        refine jv (.int .i64 (m2 : Int)) (exec_lenv Tryd.underlying30 _ (by rfl) A2 m2 c2 (by rfl) _ rfl) ?_
        refine jv (.bool false) (exec_lss _ _ _ _ (by rfl) .i64 (k : Int) (m2 : Int) (by rfl) (by rfl) false (decide_eq_false (by omega))) ?_
        refine jm (.bool false) ?_
        refine jm (.bool false) ?_
        refine js ?_
        refine js ?_
        refine js ?_
        refine js ?_
        refine js ?_
        refine js ?_
        refine js ?_
        refine js ?_
        refine js ?_
        refine jm (.bool false) ?_
        refine jz fun X1 hX1 => ?_
        have hb := bel_next hb hX1
        clear hX1
        go_upto_region 12 with (fail)
        refine jp ?_
        refine jm (.int .i64 (k : Int)) ?_
        refine jm (.int .i64 (k : Int)) ?_
        refine jm (.int .i64 0) ?_
        refine jz fun X2 hX2 => ?_
        have hb := bel_next hb hX2
        clear hX2
        go_wp2
        go_ret2
        exact ⟨by rw [HF.out.1, HF.out.2]; rfl, hb⟩
    · have HN : Hid (cmn l l2 = k) := cmn_is (by rw [HLM.out]; omega) (by rw [HLM2.out]; omega) HZ.out (.inl (by rw [HLM.out]; omega))
      have HF : Hid (coE mk48 nm48 r l l2 = 0 ∧ coN mk48 nm48 r l l2 = (k : Int)) := ⟨HE.out.1, by rw [HE.out.2, HN.out]⟩
      go_upto_region 10 with (fail)
      refine jd ?_
      refine jm (.int .i64 (k : Int)) ?_
      refine jm (.slice A' m c') ?_
      refine jv (.int .i64 (m : Int)) (exec_lenv Tryd.underlying30 _ (by rfl) A' m c' (by rfl) _ rfl) ?_
      refine jv (.bool false) (exec_lss _ _ _ _ (by rfl) .i64 (k : Int) (m : Int) (by rfl) (by rfl) false (decide_eq_false (by omega))) ?_
      refine jm (.bool false) ?_
      refine js ?_
      refine js ?_
      refine js ?_
      refine js ?_
      refine jm (.bool false) ?_
      refine jm (.bool false) ?_
      refine js ?_
      refine js ?_
      refine js ?_
      refine js ?_
      refine js ?_
      refine js ?_
      refine js ?_
      refine js ?_
      refine js ?_
      refine jm (.bool false) ?_
      refine jz fun X1 hX1 => ?_
      have hb := bel_next hb hX1
      clear hX1
      go_upto_region 12 with (fail)
      refine jp ?_
      refine jm (.int .i64 (k : Int)) ?_
      refine jm (.int .i64 (k : Int)) ?_
      refine jm (.int .i64 0) ?_
      refine jz fun X2 hX2 => ?_
      have hb := bel_next hb hX2
      clear hX2
      go_wp2
      go_ret2
      exact ⟨by rw [HF.out.1, HF.out.2]; rfl, hb⟩
theorem sco6 (A : Option Addr) (n c : Nat) (r : List (List UInt8)) (w : World) (hr : Rd w 1 (.slice A n c) n (r.map tx)) (hln : r.length = n) (hn1 : n ≤ 9223372036854775807) (A' : Option Addr) (m c' : Nat) (l : List Sl) (hrl : Rd w 37 (.slice A' m c') m (fl slc l)) (hlm : l.length = m) (hm1 : m ≤ 9223372036854775807) (hok : ∀ s ∈ l, SlOk s) (A2 : Option Addr) (m2 c2 : Nat) (l2 : List Sl) (hrl2 : Rd w 37 (.slice A2 m2 c2) m2 (fl slc l2)) (hlm2 : l2.length = m2) (hm2 : m2 ≤ 9223372036854775807) (hok2 : ∀ s ∈ l2, SlOk s) (hK : KK w) (h : lgE mk48 nm48 r l = 0) (h2 : lgE mk48 nm48 r l2 = 0) (h0 : 0 < m) (h02 : 0 < m2) (hst : 0 < l.length → 0 < l2.length → (sAt l 0).st = (sAt l2 0).st) : Calls Tryd.prog 22 #[.agg #[.slice A n c], .slice A' m c', .slice A2 m2 c2] w fun e w' => e = .returned (.tuple #[.int .i64 (coN mk48 nm48 r l l2), .int .i64 (coE mk48 nm48 r l l2)]) ∧ Since w w' := by
  have HLG := Lib.hid h
  have HLG2 := Lib.hid h2
  clear h h2
  have HE : Hid (coE mk48 nm48 r l l2 = 0 ∧ coN mk48 nm48 r l l2 = (cmn l l2 : Int)) := by
    have h9 := coE_0 HLG.out HLG2.out hst
    exact ⟨h9, coN_yes h9⟩
  obtain ⟨b, off, rfl, hbb, hall⟩ := hrl.sls hok hlm h0
  obtain ⟨b2, off2, rfl, hbb2, hall2⟩ := hrl2.sls hok2 hlm2 h02
  have hcx := hall 0 (by omega)
  have hcy := hall2 0 (by omega)
  clear hall hall2
  obtain ⟨x, hx9⟩ : ∃ x, x = sAt l 0 := ⟨_, rfl⟩
  obtain ⟨y, hy9⟩ : ∃ y, y = sAt l2 0 := ⟨_, rfl⟩
  rw [← hx9] at hcx
  rw [← hy9] at hcy
  have HX := Lib.hid hx9
  have HY := Lib.hid hy9
  clear hx9 hy9
  have HS : Hid (x.st = y.st) := by rw [HX.out, HY.out]; exact hst (by omega) (by omega)
  clear HX HY
  clear hst
  have hz := zero16
  have hzs := zeroSl
  have HKK : Hid (∀ X, Since w X → KK X) := fun X h => hK.below h hK.1
  have HRX : Hid (∀ X, Since w X → Rd X 1 (.slice A n c) n (r.map tx)) := fun X h => hr.below h
  have HRL : Hid (∀ X, Since w X → Rd X 37 (.slice (some ⟨b, off, none⟩) m c') m (fl slc l)) := fun X h => hrl.below h
  have HLN := Lib.hid hln
  have HLM := Lib.hid hlm
  have HOK := Lib.hid hok
  clear hK hr hrl hln hlm hok
  have HRL2 : Hid (∀ X, Since w X → Rd X 37 (.slice (some ⟨b2, off2, none⟩) m2 c2) m2 (fl slc l2)) := fun X h => hrl2.below h
  have HLM2 := Lib.hid hlm2
  have HOK2 := Lib.hid hok2
  clear hrl2 hlm2 hok2
  go_enter Tryd.func22, Tryd.ntmps22
  go_upto_region 1 with (fail)
  obtain ⟨W0, hW0, hB0, hb⟩ := start1 w 24 [.slice A n c]
  rw [← hW0]
  clear hW0
  have hcx := hcx.below hb hbb
  have hcy := hcy.below hb hbb2
  replace hbb := Nat.lt_of_lt_of_le hbb (hb).size
  replace hbb2 := Nat.lt_of_lt_of_le hbb2 (hb).size
  refine jp ?_
  refine ja hB0 Tryd.underlying24 (by rfl) info_rg ?_
  refine jm (.slice (some ⟨b, off, none⟩) m c') ?_
  refine jc (.int .i64 0) (fun X hX hF => mo (slgC A n c r X (HRX.out X (bel_next hb hX)) HLN.out hn1 (some ⟨b, off, none⟩) m c' l (HRL.out X (bel_next hb hX)) HLM.out hm1 HOK.out (HKK.out X (bel_next hb hX))) (by rw [HLG.out])) ?_
  refine jm (.int .i64 0) ?_
  refine jz fun X1 hX1 => ?_
  have hB0 := hB0.bel hX1
  have hcx := hcx.below hX1 hbb
  have hcy := hcy.below hX1 hbb2
  replace hbb := Nat.lt_of_lt_of_le hbb (hX1).size
  replace hbb2 := Nat.lt_of_lt_of_le hbb2 (hX1).size
  have hb := bel_next hb hX1
  clear hX1
  go_upto_region 2 with (fail)
  refine jp ?_
  refine jm (.int .i64 0) ?_
  refine jv (.bool false) (exec_nei _ _ _ _ (by rfl) .i64 0 0 (by rfl) (by rfl) false (by rfl)) ?_
  refine jz fun X2 hX2 => ?_
  have hB0 := hB0.bel hX2
  have hcx := hcx.below hX2 hbb
  have hcy := hcy.below hX2 hbb2
  replace hbb := Nat.lt_of_lt_of_le hbb (hX2).size
  replace hbb2 := Nat.lt_of_lt_of_le hbb2 (hX2).size
  have hb := bel_next hb hX2
  clear hX2
  go_upto_region 4 with (fail)
  refine jp ?_
  refine ja hB0 Tryd.underlying24 (by rfl) info_rg ?_
  refine jm (.slice (some ⟨b2, off2, none⟩) m2 c2) ?_
  refine jc (.int .i64 0) (fun X hX hF => mo (slgC A n c r X (HRX.out X (bel_next hb hX)) HLN.out hn1 (some ⟨b2, off2, none⟩) m2 c2 l2 (HRL2.out X (bel_next hb hX)) HLM2.out hm2 HOK2.out (HKK.out X (bel_next hb hX))) (by rw [HLG2.out])) ?_
  refine jm (.int .i64 0) ?_
  refine jz fun X3 hX3 => ?_
  have hB0 := hB0.bel hX3
  have hcx := hcx.below hX3 hbb
  have hcy := hcy.below hX3 hbb2
  replace hbb := Nat.lt_of_lt_of_le hbb (hX3).size
  replace hbb2 := Nat.lt_of_lt_of_le hbb2 (hX3).size
  have hb := bel_next hb hX3
  clear hX3
  go_upto_region 5 with (fail)
  refine jp ?_
  refine jm (.int .i64 0) ?_
  refine jv (.bool false) (exec_nei _ _ _ _ (by rfl) .i64 0 0 (by rfl) (by rfl) false (by rfl)) ?_
  refine jz fun X4 hX4 => ?_
  have hB0 := hB0.bel hX4
  have hcx := hcx.below hX4 hbb
  have hcy := hcy.below hX4 hbb2
  replace hbb := Nat.lt_of_lt_of_le hbb (hX4).size
  replace hbb2 := Nat.lt_of_lt_of_le hbb2 (hX4).size
  have hb := bel_next hb hX4
  clear hX4
  go_upto_region 7 with (fail)
  refine jd ?_
  refine jm (.slice (some ⟨b, off, none⟩) m c') ?_
  refine jv (.int .i64 (m : Int)) (exec_lenv Tryd.underlying30 _ (by rfl) (some ⟨b, off, none⟩) m c' (by rfl) _ rfl) ?_
  refine jv (.bool true) (exec_gtr _ _ _ _ (by rfl) .i64 (m : Int) 0 (by rfl) (by rfl) true (decide_eq_true (by omega))) ?_
  refine jm (.bool true) ?_
  refine jm (.slice (some ⟨b2, off2, none⟩) m2 c2) ?_
  refine jv (.int .i64 (m2 : Int)) (exec_lenv Tryd.underlying30 _ (by rfl) (some ⟨b2, off2, none⟩) m2 c2 (by rfl) _ rfl) ?_
  refine jv (.bool true) (exec_gtr _ _ _ _ (by rfl) .i64 (m2 : Int) 0 (by rfl) (by rfl) true (decide_eq_true (by omega))) ?_
  refine jm (.bool true) ?_
  refine jm (.bool true) ?_
  refine jm (.slice (some ⟨b, off, none⟩) m c') ?_
  refine jv (.pointer (some ⟨b, off + 0 * 37, none⟩)) (exec_ixv Tryd.underlying30 info_sl _ _ (by rfl) b (off) m c' 0 (by omega) (by rfl) (by rfl) rfl) ?_
  refine jn (.pointer (some ⟨b, off + 0 * 37, none⟩)) ?_
  refine jg (.int .i64 x.st) (fun X hX hF => exec_ld 3 _ (by rfl) b (off + 0 * 37) (by rfl) _ X ((hcx.below hX hbb) 0 _ rfl) (fun X u h => load_int b (off + 0 * 37) X u h)) ?_
  refine jm (.slice (some ⟨b2, off2, none⟩) m2 c2) ?_
  refine jv (.pointer (some ⟨b2, off2 + 0 * 37, none⟩)) (exec_ixv Tryd.underlying30 info_sl _ _ (by rfl) b2 (off2) m2 c2 0 (by omega) (by rfl) (by rfl) rfl) ?_
  refine jn (.pointer (some ⟨b2, off2 + 0 * 37, none⟩)) ?_
  refine jg (.int .i64 y.st) (fun X hX hF => exec_ld 3 _ (by rfl) b2 (off2 + 0 * 37) (by rfl) _ X ((hcy.below hX hbb2) 0 _ rfl) (fun X u h => load_int b2 (off2 + 0 * 37) X u h)) ?_
  refine jv (.bool false) (exec_nei _ _ _ _ (by rfl) .i64 x.st y.st (by rfl) (by rfl) false (by rw [decide_eq_true HS.out]; rfl)) ?_
  refine jm (.bool false) ?_
  refine jz fun X5 hX5 => ?_
  have hB0 := hB0.bel hX5
  have hcx := hcx.below hX5 hbb
  have hcy := hcy.below hX5 hbb2
  replace hbb := Nat.lt_of_lt_of_le hbb (hX5).size
  replace hbb2 := Nat.lt_of_lt_of_le hbb2 (hX5).size
  have hb := bel_next hb hX5
  clear hX5
  go_upto_region 9 with (fail)
  refine jp ?_
  refine jm (.int .i64 0) ?_
  refine jz fun X6 hX6 => ?_
  have hB0 := hB0.bel hX6
  have hb := bel_next hb hX6
  clear hX6
  clear hcx hcy hbb hbb2
  go_wp2
  go_loopw [10] (fun kv wr => ∃ k : Nat, k ≤ m ∧ k ≤ m2 ∧ kv = .int .i64 (k : Int) ∧ Hid (∀ j, j < k → sAt l j = sAt l2 j) ∧ Below w.heap.size w wr) (fun kv _ => m - (intOf kv).toNat)
  case atStart => exact ⟨0, by omega, by omega, rfl, (fun j hj => by omega), hb⟩
  case round =>
    clear hb hB0
    obtain ⟨k, hk, hk2, rfl, HZ, hb⟩ := hrel
    rcases Nat.lt_or_ge k m with hlt | hlt
    · rcases Nat.lt_or_ge k m2 with hlt2 | hlt2
      · have hbb : b < wr.heap.size := by obtain ⟨b9, off9, h8, h9, _⟩ := (HRL.out _ hb).sls HOK.out HLM.out (by omega); injection h8 with h8; injection h8 with h7 _; rw [h7]; exact h9
        have hbb2 : b2 < wr.heap.size := by obtain ⟨b9, off9, h8, h9, _⟩ := (HRL2.out _ hb).sls HOK2.out HLM2.out (by omega); injection h8 with h8; injection h8 with h7 _; rw [h7]; exact h9
        have hcx : Cl wr b (off + k * 37) (slc (sAt l k)) := by obtain ⟨b9, off9, h8, _, h9⟩ := (HRL.out _ hb).sls HOK.out HLM.out (by omega); injection h8 with h8; injection h8 with h7 h6; rw [h7, h6]; exact h9 k (by omega)
        have hcy : Cl wr b2 (off2 + k * 37) (slc (sAt l2 k)) := by obtain ⟨b9, off9, h8, _, h9⟩ := (HRL2.out _ hb).sls HOK2.out HLM2.out (by omega); injection h8 with h8; injection h8 with h7 h6; rw [h7, h6]; exact h9 k (by omega)
        have ox := ok_at HOK.out (k := k) (by rw [HLM.out]; exact hlt)
        have oy := ok_at HOK2.out (k := k) (by rw [HLM2.out]; exact hlt2)
        obtain ⟨x, hx9⟩ : ∃ x, x = sAt l k := ⟨_, rfl⟩
        obtain ⟨y, hy9⟩ : ∃ y, y = sAt l2 k := ⟨_, rfl⟩
        rw [← hx9] at hcx ox
        rw [← hy9] at hcy oy
        have HX := Lib.hid hx9
        have HY := Lib.hid hy9
        clear hx9 hy9
        by_cases hq : x = y
        · have HQ := Lib.hid hq
          clear hq
          go_upto_region 10 with (fail)
          refine jd ?_
          refine jm (.int .i64 (k : Int)) ?_
          refine jm (.slice (some ⟨b, off, none⟩) m c') ?_
          refine jv (.int .i64 (m : Int)) (exec_lenv Tryd.underlying30 _ (by rfl) (some ⟨b, off, none⟩) m c' (by rfl) _ rfl) ?_
          refine jv (.bool true) (exec_lss _ _ _ _ (by rfl) .i64 (k : Int) (m : Int) (by rfl) (by rfl) true (decide_eq_true (by omega))) ?_
          refine jm (.bool true) ?_
          refine jm (.int .i64 (k : Int)) ?_
          refine jm (.slice (some ⟨b2, off2, none⟩) m2 c2) ?_
          refine jv (.int .i64 (m2 : Int)) (exec_lenv Tryd.underlying30 _ (by rfl) (some ⟨b2, off2, none⟩) m2 c2 (by rfl) _ rfl) ?_
          refine jv (.bool true) (exec_lss _ _ _ _ (by rfl) .i64 (k : Int) (m2 : Int) (by rfl) (by rfl) true (decide_eq_true (by omega))) ?_
          refine jm (.bool true) ?_
          refine jm (.bool true) ?_
          refine jm (.slice (some ⟨b, off, none⟩) m c') ?_
          refine jm (.int .i64 (k : Int)) ?_
          refine jv (.pointer (some ⟨b, off + k * 37, none⟩)) (exec_ixv Tryd.underlying30 info_sl _ _ (by rfl) b (off) m c' k (by omega) (by rfl) (by rfl) rfl) ?_
          refine jg (.agg (slc x).toArray) (fun X hX hF => exec_ldc 28 _ (by rfl) b (off + k * 37) (by rfl) Tryd.underlying28 rfl (slc x) X (hcx.below hX hbb) (info_slc ox)) ?_
          refine jm (.slice (some ⟨b2, off2, none⟩) m2 c2) ?_
          refine jm (.int .i64 (k : Int)) ?_
          refine jv (.pointer (some ⟨b2, off2 + k * 37, none⟩)) (exec_ixv Tryd.underlying30 info_sl _ _ (by rfl) b2 (off2) m2 c2 k (by omega) (by rfl) (by rfl) rfl) ?_
          refine jg (.agg (slc y).toArray) (fun X hX hF => exec_ldc 28 _ (by rfl) b2 (off2 + k * 37) (by rfl) Tryd.underlying28 rfl (slc y) X (hcy.below hX hbb2) (info_slc oy)) ?_
          refine jv (.bool true) (exec_eqsl _ _ _ (by rfl) x y ox oy (by rfl) (by rfl) _ (decide_eq_true HQ.out)) ?_
          refine jm (.bool true) ?_
          refine jz fun X1 hX1 => ?_
          have hcx := hcx.below hX1 hbb
          have hcy := hcy.below hX1 hbb2
          replace hbb := Nat.lt_of_lt_of_le hbb (hX1).size
          replace hbb2 := Nat.lt_of_lt_of_le hbb2 (hX1).size
          have hb := bel_next hb hX1
          clear hX1
          go_upto_region 11 with (fail)
          refine jp ?_
          refine jm (.int .i64 (k : Int)) ?_
          refine jv (.int .i64 ((k + 1 : Nat) : Int)) (exec_add _ _ _ _ (by rfl) (k : Int) 1 ((k + 1 : Nat) : Int) (by rfl) (by rfl) (by omega) (by omega) (by omega)) ?_
          refine jm (.int .i64 ((k + 1 : Nat) : Int)) ?_
          refine jz fun X2 hX2 => ?_
          have hcx := hcx.below hX2 hbb
          have hcy := hcy.below hX2 hbb2
          replace hbb := Nat.lt_of_lt_of_le hbb (hX2).size
          replace hbb2 := Nat.lt_of_lt_of_le hbb2 (hX2).size
          have hb := bel_next hb hX2
          clear hX2
          have HZ2 : Hid (∀ j, j < k + 1 → sAt l j = sAt l2 j) := fun j hj => by
            rcases Nat.lt_or_ge j k with h9 | h9
            · exact HZ.out j h9
            · rw [show j = k by omega, ← HX.out, ← HY.out]; exact HQ.out
          go_wp2
          go_roundw
          case rel => exact ⟨k + 1, by omega, by omega, rfl, HZ2, hb⟩
          case measure => simp [intOf]; omega
        · have HQ : Hid (¬ x = y) := hq
          clear hq
          have HN : Hid (cmn l l2 = k) := cmn_is (by rw [HLM.out]; omega) (by rw [HLM2.out]; omega) HZ.out (.inr (.inr (by rw [← HX.out, ← HY.out]; exact HQ.out)))
          have HF : Hid (coE mk48 nm48 r l l2 = 0 ∧ coN mk48 nm48 r l l2 = (k : Int)) := ⟨HE.out.1, by rw [HE.out.2, HN.out]⟩
          go_upto_region 10 with (fail)
          refine jd ?_
          refine jm (.int .i64 (k : Int)) ?_
          refine jm (.slice (some ⟨b, off, none⟩) m c') ?_
          refine jv (.int .i64 (m : Int)) (exec_lenv Tryd.underlying30 _ (by rfl) (some ⟨b, off, none⟩) m c' (by rfl) _ rfl) ?_
          refine jv (.bool true) (exec_lss _ _ _ _ (by rfl) .i64 (k : Int) (m : Int) (by rfl) (by rfl) true (decide_eq_true (by omega))) ?_
          refine jm (.bool true) ?_
          refine jm (.int .i64 (k : Int)) ?_
          refine jm (.slice (some ⟨b2, off2, none⟩) m2 c2) ?_
          refine jv (.int .i64 (m2 : Int)) (exec_lenv Tryd.underlying30 _ (by rfl) (some ⟨b2, off2, none⟩) m2 c2 (by rfl) _ rfl) ?_
          refine jv (.bool true) (exec_lss _ _ _ _ (by rfl) .i64 (k : Int) (m2 : Int) (by rfl) (by rfl) true (decide_eq_true (by omega))) ?_
          refine jm (.bool true) ?_
          refine jm (.bool true) ?_
          refine jm (.slice (some ⟨b, off, none⟩) m c') ?_
          refine jm (.int .i64 (k : Int)) ?_
          refine jv (.pointer (some ⟨b, off + k * 37, none⟩)) (exec_ixv Tryd.underlying30 info_sl _ _ (by rfl) b (off) m c' k (by omega) (by rfl) (by rfl) rfl) ?_
          refine jg (.agg (slc x).toArray) (fun X hX hF => exec_ldc 28 _ (by rfl) b (off + k * 37) (by rfl) Tryd.underlying28 rfl (slc x) X (hcx.below hX hbb) (info_slc ox)) ?_
          refine jm (.slice (some ⟨b2, off2, none⟩) m2 c2) ?_
          refine jm (.int .i64 (k : Int)) ?_
          refine jv (.pointer (some ⟨b2, off2 + k * 37, none⟩)) (exec_ixv Tryd.underlying30 info_sl _ _ (by rfl) b2 (off2) m2 c2 k (by omega) (by rfl) (by rfl) rfl) ?_
          refine jg (.agg (slc y).toArray) (fun X hX hF => exec_ldc 28 _ (by rfl) b2 (off2 + k * 37) (by rfl) Tryd.underlying28 rfl (slc y) X (hcy.below hX hbb2) (info_slc oy)) ?_
          refine jv (.bool false) (exec_eqsl _ _ _ (by rfl) x y ox oy (by rfl) (by rfl) _ (decide_eq_false HQ.out)) ?_
          refine jm (.bool false) ?_
          refine jz fun X1 hX1 => ?_
          have hcx := hcx.below hX1 hbb
          have hcy := hcy.below hX1 hbb2
          replace hbb := Nat.lt_of_lt_of_le hbb (hX1).size
          replace hbb2 := Nat.lt_of_lt_of_le hbb2 (hX1).size
          have hb := bel_next hb hX1
          clear hX1
          go_upto_region 12 with (fail)
          refine jp ?_
          refine jm (.int .i64 (k : Int)) ?_
          refine jm (.int .i64 (k : Int)) ?_
          refine jm (.int .i64 0) ?_
          refine jz fun X2 hX2 => ?_
          have hcx := hcx.below hX2 hbb
          have hcy := hcy.below hX2 hbb2
          replace hbb := Nat.lt_of_lt_of_le hbb (hX2).size
          replace hbb2 := Nat.lt_of_lt_of_le hbb2 (hX2).size
          have hb := bel_next hb hX2
          clear hX2
          go_wp2
          go_ret2
          exact ⟨by rw [HF.out.1, HF.out.2]; rfl, hb⟩
      · have HN : Hid (cmn l l2 = k) := cmn_is (by rw [HLM.out]; omega) (by rw [HLM2.out]; omega) HZ.out (.inr (.inl (by rw [HLM2.out]; omega)))
        have HF : Hid (coE mk48 nm48 r l l2 = 0 ∧ coN mk48 nm48 r l l2 = (k : Int)) := ⟨HE.out.1, by rw [HE.out.2, HN.out]⟩
        go_upto_region 10 with (fail)
        refine jd ?_
        refine jm (.int .i64 (k : Int)) ?_
        refine jm (.slice (some ⟨b, off, none⟩) m c') ?_
        refine jv (.int .i64 (m : Int)) (exec_lenv Tryd.underlying30 _ (by rfl) (some ⟨b, off, none⟩) m c' (by rfl) _ rfl) ?_
        refine jv (.bool true) (exec_lss _ _ _ _ (by rfl) .i64 (k : Int) (m : Int) (by rfl) (by rfl) true (decide_eq_true (by omega))) ?_
        refine jm (.bool true) ?_
        refine jm (.int .i64 (k : Int)) ?_
        refine jm (.slice (some ⟨b2, off2, none⟩) m2 c2) ?_
        refine jv (.int .i64 (m2 : Int)) (exec_lenv Tryd.underlying30 _ (by rfl) (some ⟨b2, off2, none⟩) m2 c2 (by rfl) _ rfl) ?_
        refine jv (.bool false) (exec_lss _ _ _ _ (by rfl) .i64 (k : Int) (m2 : Int) (by rfl) (by rfl) false (decide_eq_false (by omega))) ?_
        refine jm (.bool false) ?_
        refine jm (.bool false) ?_
        refine js ?_
        refine js ?_
        refine js ?_
        refine js ?_
        refine js ?_
        refine js ?_
        refine js ?_
        refine js ?_
        refine js ?_
        refine jm (.bool false) ?_
        refine jz fun X1 hX1 => ?_
        have hb := bel_next hb hX1
        clear hX1
        go_upto_region 12 with (fail)
        refine jp ?_
        refine jm (.int .i64 (k : Int)) ?_
        refine jm (.int .i64 (k : Int)) ?_
        refine jm (.int .i64 0) ?_
        refine jz fun X2 hX2 => ?_
        have hb := bel_next hb hX2
        clear hX2
        go_wp2
        go_ret2
        exact ⟨by rw [HF.out.1, HF.out.2]; rfl, hb⟩
    · have HN : Hid (cmn l l2 = k) := cmn_is (by rw [HLM.out]; omega) (by rw [HLM2.out]; omega) HZ.out (.inl (by rw [HLM.out]; omega))
      have HF : Hid (coE mk48 nm48 r l l2 = 0 ∧ coN mk48 nm48 r l l2 = (k : Int)) := ⟨HE.out.1, by rw [HE.out.2, HN.out]⟩
      go_upto_region 10 with (fail)
      refine jd ?_
      refine jm (.int .i64 (k : Int)) ?_
      refine jm (.slice (some ⟨b, off, none⟩) m c') ?_
      refine jv (.int .i64 (m : Int)) (exec_lenv Tryd.underlying30 _ (by rfl) (some ⟨b, off, none⟩) m c' (by rfl) _ rfl) ?_
      refine jv (.bool false) (exec_lss _ _ _ _ (by rfl) .i64 (k : Int) (m : Int) (by rfl) (by rfl) false (decide_eq_false (by omega))) ?_
      refine jm (.bool false) ?_
      refine js ?_
      refine js ?_
      refine js ?_
      refine js ?_
      refine jm (.bool false) ?_
      refine jm (.bool false) ?_
      refine js ?_
      refine js ?_
      refine js ?_
      refine js ?_
      refine js ?_
      refine js ?_
      refine js ?_
      refine js ?_
      refine js ?_
      refine jm (.bool false) ?_
      refine jz fun X1 hX1 => ?_
      have hb := bel_next hb hX1
      clear hX1
      go_upto_region 12 with (fail)
      refine jp ?_
      refine jm (.int .i64 (k : Int)) ?_
      refine jm (.int .i64 (k : Int)) ?_
      refine jm (.int .i64 0) ?_
      refine jz fun X2 hX2 => ?_
      have hb := bel_next hb hX2
      clear hX2
      go_wp2
      go_ret2
      exact ⟨by rw [HF.out.1, HF.out.2]; rfl, hb⟩
theorem scoC (A : Option Addr) (n c : Nat) (r : List (List UInt8)) (w : World) (hr : Rd w 1 (.slice A n c) n (r.map tx)) (hln : r.length = n) (hn1 : n ≤ 9223372036854775807) (A' : Option Addr) (m c' : Nat) (l : List Sl) (hrl : Rd w 37 (.slice A' m c') m (fl slc l)) (hlm : l.length = m) (hm1 : m ≤ 9223372036854775807) (hok : ∀ s ∈ l, SlOk s) (A2 : Option Addr) (m2 c2 : Nat) (l2 : List Sl) (hrl2 : Rd w 37 (.slice A2 m2 c2) m2 (fl slc l2)) (hlm2 : l2.length = m2) (hm2 : m2 ≤ 9223372036854775807) (hok2 : ∀ s ∈ l2, SlOk s) (hK : KK w) : Calls Tryd.prog 22 #[.agg #[.slice A n c], .slice A' m c', .slice A2 m2 c2] w fun e w' => e = .returned (.tuple #[.int .i64 (coN mk48 nm48 r l l2), .int .i64 (coE mk48 nm48 r l l2)]) ∧ Since w w' := by
  by_cases h : lgE mk48 nm48 r l = 0
  · by_cases h2 : lgE mk48 nm48 r l2 = 0
    · by_cases h0 : 0 < m
      · by_cases h02 : 0 < m2
        · by_cases hs : (sAt l 0).st = (sAt l2 0).st
          · exact sco6 A n c r w hr hln hn1 A' m c' l hrl hlm hm1 hok A2 m2 c2 l2 hrl2 hlm2 hm2 hok2 hK h h2 h0 h02 (fun _ _ => hs)
          · exact sco3 A n c r w hr hln hn1 A' m c' l hrl hlm hm1 hok A2 m2 c2 l2 hrl2 hlm2 hm2 hok2 hK h h2 h0 h02 hs
        · exact sco5 A n c r w hr hln hn1 A' m c' l hrl hlm hm1 hok A2 m2 c2 l2 hrl2 hlm2 hm2 hok2 hK h h2 h0 h02 (fun _ h9 => by omega)
      · exact sco4 A n c r w hr hln hn1 A' m c' l hrl hlm hm1 hok A2 m2 c2 l2 hrl2 hlm2 hm2 hok2 hK h h2 h0 (fun h9 _ => by omega)
    · exact sco2 A n c r w hr hln hn1 A' m c' l hrl hlm hm1 hok A2 m2 c2 l2 hrl2 hlm2 hm2 hok2 hK h h2
  · exact sco1 A n c r w hr hln hn1 A' m c' l hrl hlm hm1 hok A2 m2 c2 l2 hrl2 hlm2 hm2 hok2 hK h
end Go.Proofs.YthinopepcmidmaaDoor
