/-
  Reference of layer 48: Short, Few.
-/
import Derived.Test.YthinopepcmidmaaDoorRa48
set_option linter.unusedSimpArgs false
set_option linter.unusedVariables false
set_option maxRecDepth 100000
set_option maxHeartbeats 1600000
namespace Go.Proofs.YthinopepcmidmaaDoor
open Go.RowKit
/-- Whether a statement's body is short, or a bit too long. -/
def shS (s : Sl) : Bool := decide (s.bd.length ≤ 120 ∨ 4096 < s.bd.length ∧ s.bd.length ≤ 4100)
theorem shS_le {s : Sl} (h : shS s = true) : s.bd.length ≤ 4100 := by
  have h9 := of_decide_eq_true h
  omega
/-- A truth from which something follows. -/
def Bv (P : Prop) (v : Value) (_ : World) : Prop := ∃ b : Bool, v = .bool b ∧ (b = true → P)
theorem Bv.lasts (P : Prop) : Lasts (Bv P) := fun _ _ _ h _ => h
/-- What few statements are. -/
def FewP (l : List Sl) (most : Int) : Prop := (l.length : Int) ≤ most → ∀ j, j < l.length → shS (sAt l j) = true
theorem rsh1 (s : Sl) (w : World) (hs : SlOk s) (h : s.bd.length ≤ 120) : Calls Tryd.prog 19 #[.agg (slc s).toArray] w fun e w' => e = .returned (.bool (shS s)) ∧ Since w w' := by
  have HS : Hid (shS s = true) := decide_eq_true (by omega)
  go_enter Tryd.func19, Tryd.ntmps19
  go_upto_region 1 with (fail)
  obtain ⟨W0, hW0, hB0, hb⟩ := start1 w 28 (slc s)
  rw [← hW0]
  clear hW0
  refine jp ?_
  refine jn (.pointer (some ⟨w.heap.size, 4, none⟩)) ?_
  refine jf (st s.bd) hB0 4 load_str ?_
  refine jv (.int .i64 (s.bd.length : Int)) (exec_lens Tryd.underlying9 _ (by rfl) s.bd (by rfl) _ rfl) ?_
  refine jv (.bool true) (exec_leq _ _ _ _ (by rfl) .i64 (s.bd.length : Int) 120 (by rfl) (by rfl) true (decide_eq_true (by omega))) ?_
  refine jm (.bool true) ?_
  refine js ?_
  refine js ?_
  refine js ?_
  refine js ?_
  refine js ?_
  refine js ?_
  refine js ?_
  refine js ?_
  refine js ?_
  refine js ?_
  refine jm (.bool true) ?_
  refine jm (.bool true) ?_
  refine jz fun X1 hX1 => ?_
  have hB0 := hB0.bel hX1
  have hb := bel_next hb hX1
  clear hX1
  go_wp2
  go_ret
  exact ⟨by rw [HS.out]; rfl, hb⟩
theorem rsh2 (s : Sl) (w : World) (hs : SlOk s) (h : 120 < s.bd.length) (h2 : s.bd.length ≤ 4096) : Calls Tryd.prog 19 #[.agg (slc s).toArray] w fun e w' => e = .returned (.bool (shS s)) ∧ Since w w' := by
  have HS : Hid (shS s = false) := decide_eq_false (by omega)
  go_enter Tryd.func19, Tryd.ntmps19
  go_upto_region 1 with (fail)
  obtain ⟨W0, hW0, hB0, hb⟩ := start1 w 28 (slc s)
  rw [← hW0]
  clear hW0
  refine jp ?_
  refine jn (.pointer (some ⟨w.heap.size, 4, none⟩)) ?_
  refine jf (st s.bd) hB0 4 load_str ?_
  refine jv (.int .i64 (s.bd.length : Int)) (exec_lens Tryd.underlying9 _ (by rfl) s.bd (by rfl) _ rfl) ?_
  refine jv (.bool false) (exec_leq _ _ _ _ (by rfl) .i64 (s.bd.length : Int) 120 (by rfl) (by rfl) false (decide_eq_false (by omega))) ?_
  refine jm (.bool false) ?_
  refine jn (.pointer (some ⟨w.heap.size, 4, none⟩)) ?_
  refine jf (st s.bd) hB0 4 load_str ?_
  refine jv (.int .i64 (s.bd.length : Int)) (exec_lens Tryd.underlying9 _ (by rfl) s.bd (by rfl) _ rfl) ?_
  refine jv (.bool false) (exec_gtr _ _ _ _ (by rfl) .i64 (s.bd.length : Int) 4096 (by rfl) (by rfl) false (decide_eq_false (by omega))) ?_
  refine jm (.bool false) ?_
  refine js ?_
  refine js ?_
  refine js ?_
  refine js ?_
  refine jm (.bool false) ?_
  refine jm (.bool false) ?_
  refine jm (.bool false) ?_
  refine jz fun X1 hX1 => ?_
  have hB0 := hB0.bel hX1
  have hb := bel_next hb hX1
  clear hX1
  go_wp2
  go_ret
  exact ⟨by rw [HS.out]; rfl, hb⟩
theorem rsh3 (s : Sl) (w : World) (hs : SlOk s) (h : 4096 < s.bd.length) (h2 : s.bd.length ≤ 4100) : Calls Tryd.prog 19 #[.agg (slc s).toArray] w fun e w' => e = .returned (.bool (shS s)) ∧ Since w w' := by
  have HS : Hid (shS s = true) := decide_eq_true (by omega)
  go_enter Tryd.func19, Tryd.ntmps19
  go_upto_region 1 with (fail)
  obtain ⟨W0, hW0, hB0, hb⟩ := start1 w 28 (slc s)
  rw [← hW0]
  clear hW0
  refine jp ?_
  refine jn (.pointer (some ⟨w.heap.size, 4, none⟩)) ?_
  refine jf (st s.bd) hB0 4 load_str ?_
  refine jv (.int .i64 (s.bd.length : Int)) (exec_lens Tryd.underlying9 _ (by rfl) s.bd (by rfl) _ rfl) ?_
  refine jv (.bool false) (exec_leq _ _ _ _ (by rfl) .i64 (s.bd.length : Int) 120 (by rfl) (by rfl) false (decide_eq_false (by omega))) ?_
  refine jm (.bool false) ?_
  refine jn (.pointer (some ⟨w.heap.size, 4, none⟩)) ?_
  refine jf (st s.bd) hB0 4 load_str ?_
  refine jv (.int .i64 (s.bd.length : Int)) (exec_lens Tryd.underlying9 _ (by rfl) s.bd (by rfl) _ rfl) ?_
  refine jv (.bool true) (exec_gtr _ _ _ _ (by rfl) .i64 (s.bd.length : Int) 4096 (by rfl) (by rfl) true (decide_eq_true (by omega))) ?_
  refine jm (.bool true) ?_
  refine jn (.pointer (some ⟨w.heap.size, 4, none⟩)) ?_
  refine jf (st s.bd) hB0 4 load_str ?_
  refine jv (.int .i64 (s.bd.length : Int)) (exec_lens Tryd.underlying9 _ (by rfl) s.bd (by rfl) _ rfl) ?_
  refine jv (.bool true) (exec_leq _ _ _ _ (by rfl) .i64 (s.bd.length : Int) 4100 (by rfl) (by rfl) true (decide_eq_true (by omega))) ?_
  refine jm (.bool true) ?_
  refine jm (.bool true) ?_
  refine jm (.bool true) ?_
  refine jz fun X1 hX1 => ?_
  have hB0 := hB0.bel hX1
  have hb := bel_next hb hX1
  clear hX1
  go_wp2
  go_ret
  exact ⟨by rw [HS.out]; rfl, hb⟩
theorem rsh4 (s : Sl) (w : World) (hs : SlOk s) (h : 4100 < s.bd.length) : Calls Tryd.prog 19 #[.agg (slc s).toArray] w fun e w' => e = .returned (.bool (shS s)) ∧ Since w w' := by
  have HS : Hid (shS s = false) := decide_eq_false (by omega)
  go_enter Tryd.func19, Tryd.ntmps19
  go_upto_region 1 with (fail)
  obtain ⟨W0, hW0, hB0, hb⟩ := start1 w 28 (slc s)
  rw [← hW0]
  clear hW0
  refine jp ?_
  refine jn (.pointer (some ⟨w.heap.size, 4, none⟩)) ?_
  refine jf (st s.bd) hB0 4 load_str ?_
  refine jv (.int .i64 (s.bd.length : Int)) (exec_lens Tryd.underlying9 _ (by rfl) s.bd (by rfl) _ rfl) ?_
  refine jv (.bool false) (exec_leq _ _ _ _ (by rfl) .i64 (s.bd.length : Int) 120 (by rfl) (by rfl) false (decide_eq_false (by omega))) ?_
  refine jm (.bool false) ?_
  refine jn (.pointer (some ⟨w.heap.size, 4, none⟩)) ?_
  refine jf (st s.bd) hB0 4 load_str ?_
  refine jv (.int .i64 (s.bd.length : Int)) (exec_lens Tryd.underlying9 _ (by rfl) s.bd (by rfl) _ rfl) ?_
  refine jv (.bool true) (exec_gtr _ _ _ _ (by rfl) .i64 (s.bd.length : Int) 4096 (by rfl) (by rfl) true (decide_eq_true (by omega))) ?_
  refine jm (.bool true) ?_
  refine jn (.pointer (some ⟨w.heap.size, 4, none⟩)) ?_
  refine jf (st s.bd) hB0 4 load_str ?_
  refine jv (.int .i64 (s.bd.length : Int)) (exec_lens Tryd.underlying9 _ (by rfl) s.bd (by rfl) _ rfl) ?_
  refine jv (.bool false) (exec_leq _ _ _ _ (by rfl) .i64 (s.bd.length : Int) 4100 (by rfl) (by rfl) false (decide_eq_false (by omega))) ?_
  refine jm (.bool false) ?_
  refine jm (.bool false) ?_
  refine jm (.bool false) ?_
  refine jz fun X1 hX1 => ?_
  have hB0 := hB0.bel hX1
  have hb := bel_next hb hX1
  clear hX1
  go_wp2
  go_ret
  exact ⟨by rw [HS.out]; rfl, hb⟩
theorem rshC (s : Sl) (w : World) (hs : SlOk s) : Calls Tryd.prog 19 #[.agg (slc s).toArray] w fun e w' => e = .returned (.bool (shS s)) ∧ Since w w' := by
  by_cases h1 : s.bd.length ≤ 120
  · exact rsh1 s w hs h1
  · by_cases h2 : s.bd.length ≤ 4096
    · exact rsh2 s w hs (by omega) h2
    · by_cases h3 : s.bd.length ≤ 4100
      · exact rsh3 s w hs (by omega) h3
      · exact rsh4 s w hs (by omega)
theorem rfw1 (A : Option Addr) (n c : Nat) (r : List (List UInt8)) (w : World) (hr : Rd w 1 (.slice A n c) n (r.map tx)) (hln : r.length = n) (hn1 : n ≤ 9223372036854775807) (A' : Option Addr) (m c' : Nat) (l : List Sl) (hrl : Rd w 37 (.slice A' m c') m (fl slc l)) (hlm : l.length = m) (hm1 : m ≤ 9223372036854775807) (hok : ∀ s ∈ l, SlOk s) (most : Int) (hmo : 0 ≤ most ∧ most ≤ 4000) (h : 10 < n) : Calls Tryd.prog 9 #[.agg #[.slice A n c], .slice A' m c', .int .i64 most] w fun e w' => ∃ v, e = .returned v ∧ Bv (FewP l most) v w' ∧ Since w w' := by
  have HRX : Hid (∀ X, Since w X → Rd X 1 (.slice A n c) n (r.map tx)) := fun X h => hr.below h
  have HLN := Lib.hid hln
  have HRL : Hid (∀ X, Since w X → Rd X 37 (.slice A' m c') m (fl slc l)) := fun X h => hrl.below h
  have HLM := Lib.hid hlm
  have HOK := Lib.hid hok
  clear hr hrl hln hlm hok
  obtain ⟨hmo0, hmo1⟩ := hmo
  go_enter Tryd.func9, Tryd.ntmps9
  go_upto_region 1 with (fail)
  obtain ⟨W0, hW0, hB0, hb⟩ := start1 w 24 [.slice A n c]
  rw [← hW0]
  clear hW0
  refine jp ?_
  refine jm (.slice A' m c') ?_
  refine jv (.int .i64 (m : Int)) (exec_lenv Tryd.underlying30 _ (by rfl) A' m c' (by rfl) _ rfl) ?_
  refine jm (.int .i64 (m : Int)) ?_
  refine jz fun X1 hX1 => ?_
  have hB0 := hB0.bel hX1
  have hb := bel_next hb hX1
  clear hX1
  go_upto_region 2 with (fail)
  refine jp ?_
  refine jn (.pointer (some ⟨w.heap.size, 0, none⟩)) ?_
  refine jf (.slice A n c) hB0 0 load_sts ?_
  refine jv (.int .i64 (n : Int)) (exec_lenv Tryd.underlying22 _ (by rfl) A n c (by rfl) _ rfl) ?_
  refine jv (.bool true) (exec_gtr _ _ _ _ (by rfl) .i64 (n : Int) 10 (by rfl) (by rfl) true (decide_eq_true (by omega))) ?_
  refine jm (.bool true) ?_
  refine js ?_
  refine js ?_
  refine js ?_
  refine js ?_
  refine js ?_
  refine js ?_
  refine js ?_
  refine jm (.bool true) ?_
  refine jm (.bool true) ?_
  refine js ?_
  refine js ?_
  refine jm (.bool true) ?_
  refine jz fun X2 hX2 => ?_
  have hB0 := hB0.bel hX2
  have hb := bel_next hb hX2
  clear hX2
  go_upto_region 3 with (fail)
  refine jp ?_
  refine jm (.bool false) ?_
  refine jz fun X3 hX3 => ?_
  have hB0 := hB0.bel hX3
  have hb := bel_next hb hX3
  clear hX3
  go_wp2
  go_ret
  exact ⟨.bool false, rfl, ⟨false, rfl, fun h9 => by cases h9⟩, hb⟩
theorem rfw2 (A : Option Addr) (n c : Nat) (r : List (List UInt8)) (w : World) (hr : Rd w 1 (.slice A n c) n (r.map tx)) (hln : r.length = n) (hn1 : n ≤ 9223372036854775807) (A' : Option Addr) (m c' : Nat) (l : List Sl) (hrl : Rd w 37 (.slice A' m c') m (fl slc l)) (hlm : l.length = m) (hm1 : m ≤ 9223372036854775807) (hok : ∀ s ∈ l, SlOk s) (most : Int) (hmo : 0 ≤ most ∧ most ≤ 4000) (h : n ≤ 10) (h2 : most < (m : Int)) (h3 : m ≤ 4000) : Calls Tryd.prog 9 #[.agg #[.slice A n c], .slice A' m c', .int .i64 most] w fun e w' => ∃ v, e = .returned v ∧ Bv (FewP l most) v w' ∧ Since w w' := by
  have HRX : Hid (∀ X, Since w X → Rd X 1 (.slice A n c) n (r.map tx)) := fun X h => hr.below h
  have HLN := Lib.hid hln
  have HRL : Hid (∀ X, Since w X → Rd X 37 (.slice A' m c') m (fl slc l)) := fun X h => hrl.below h
  have HLM := Lib.hid hlm
  have HOK := Lib.hid hok
  clear hr hrl hln hlm hok
  obtain ⟨hmo0, hmo1⟩ := hmo
  go_enter Tryd.func9, Tryd.ntmps9
  go_upto_region 1 with (fail)
  obtain ⟨W0, hW0, hB0, hb⟩ := start1 w 24 [.slice A n c]
  rw [← hW0]
  clear hW0
  refine jp ?_
  refine jm (.slice A' m c') ?_
  refine jv (.int .i64 (m : Int)) (exec_lenv Tryd.underlying30 _ (by rfl) A' m c' (by rfl) _ rfl) ?_
  refine jm (.int .i64 (m : Int)) ?_
  refine jz fun X1 hX1 => ?_
  have hB0 := hB0.bel hX1
  have hb := bel_next hb hX1
  clear hX1
  go_upto_region 2 with (fail)
  refine jp ?_
  refine jn (.pointer (some ⟨w.heap.size, 0, none⟩)) ?_
  refine jf (.slice A n c) hB0 0 load_sts ?_
  refine jv (.int .i64 (n : Int)) (exec_lenv Tryd.underlying22 _ (by rfl) A n c (by rfl) _ rfl) ?_
  refine jv (.bool false) (exec_gtr _ _ _ _ (by rfl) .i64 (n : Int) 10 (by rfl) (by rfl) false (decide_eq_false (by omega))) ?_
  refine jm (.bool false) ?_
  refine jm (.int .i64 (m : Int)) ?_
  refine jm (.int .i64 most) ?_
  refine jv (.bool true) (exec_gtr _ _ _ _ (by rfl) .i64 (m : Int) most (by rfl) (by rfl) true (decide_eq_true (by omega))) ?_
  refine jm (.bool true) ?_
  refine jm (.int .i64 (m : Int)) ?_
  refine jv (.bool true) (exec_leq _ _ _ _ (by rfl) .i64 (m : Int) 4000 (by rfl) (by rfl) true (decide_eq_true (by omega))) ?_
  refine jm (.bool true) ?_
  refine jm (.bool true) ?_
  refine jm (.bool true) ?_
  refine js ?_
  refine js ?_
  refine jm (.bool true) ?_
  refine jz fun X2 hX2 => ?_
  have hB0 := hB0.bel hX2
  have hb := bel_next hb hX2
  clear hX2
  go_upto_region 3 with (fail)
  refine jp ?_
  refine jm (.bool false) ?_
  refine jz fun X3 hX3 => ?_
  have hB0 := hB0.bel hX3
  have hb := bel_next hb hX3
  clear hX3
  go_wp2
  go_ret
  exact ⟨.bool false, rfl, ⟨false, rfl, fun h9 => by cases h9⟩, hb⟩
theorem rfw3 (A : Option Addr) (n c : Nat) (r : List (List UInt8)) (w : World) (hr : Rd w 1 (.slice A n c) n (r.map tx)) (hln : r.length = n) (hn1 : n ≤ 9223372036854775807) (A' : Option Addr) (m c' : Nat) (l : List Sl) (hrl : Rd w 37 (.slice A' m c') m (fl slc l)) (hlm : l.length = m) (hm1 : m ≤ 9223372036854775807) (hok : ∀ s ∈ l, SlOk s) (most : Int) (hmo : 0 ≤ most ∧ most ≤ 4000) (h : n ≤ 10) (h2 : most < (m : Int)) (h3 : 4005 < m) : Calls Tryd.prog 9 #[.agg #[.slice A n c], .slice A' m c', .int .i64 most] w fun e w' => ∃ v, e = .returned v ∧ Bv (FewP l most) v w' ∧ Since w w' := by
  have HRX : Hid (∀ X, Since w X → Rd X 1 (.slice A n c) n (r.map tx)) := fun X h => hr.below h
  have HLN := Lib.hid hln
  have HRL : Hid (∀ X, Since w X → Rd X 37 (.slice A' m c') m (fl slc l)) := fun X h => hrl.below h
  have HLM := Lib.hid hlm
  have HOK := Lib.hid hok
  clear hr hrl hln hlm hok
  obtain ⟨hmo0, hmo1⟩ := hmo
  go_enter Tryd.func9, Tryd.ntmps9
  go_upto_region 1 with (fail)
  obtain ⟨W0, hW0, hB0, hb⟩ := start1 w 24 [.slice A n c]
  rw [← hW0]
  clear hW0
  refine jp ?_
  refine jm (.slice A' m c') ?_
  refine jv (.int .i64 (m : Int)) (exec_lenv Tryd.underlying30 _ (by rfl) A' m c' (by rfl) _ rfl) ?_
  refine jm (.int .i64 (m : Int)) ?_
  refine jz fun X1 hX1 => ?_
  have hB0 := hB0.bel hX1
  have hb := bel_next hb hX1
  clear hX1
  go_upto_region 2 with (fail)
  refine jp ?_
  refine jn (.pointer (some ⟨w.heap.size, 0, none⟩)) ?_
  refine jf (.slice A n c) hB0 0 load_sts ?_
  refine jv (.int .i64 (n : Int)) (exec_lenv Tryd.underlying22 _ (by rfl) A n c (by rfl) _ rfl) ?_
  refine jv (.bool false) (exec_gtr _ _ _ _ (by rfl) .i64 (n : Int) 10 (by rfl) (by rfl) false (decide_eq_false (by omega))) ?_
  refine jm (.bool false) ?_
  refine jm (.int .i64 (m : Int)) ?_
  refine jm (.int .i64 most) ?_
  refine jv (.bool true) (exec_gtr _ _ _ _ (by rfl) .i64 (m : Int) most (by rfl) (by rfl) true (decide_eq_true (by omega))) ?_
  refine jm (.bool true) ?_
  refine jm (.int .i64 (m : Int)) ?_
  refine jv (.bool false) (exec_leq _ _ _ _ (by rfl) .i64 (m : Int) 4000 (by rfl) (by rfl) false (decide_eq_false (by omega))) ?_
  refine jm (.bool false) ?_
  refine jm (.bool false) ?_
  refine jm (.bool false) ?_
  refine jm (.int .i64 (m : Int)) ?_
  refine jv (.bool true) (exec_gtr _ _ _ _ (by rfl) .i64 (m : Int) 4005 (by rfl) (by rfl) true (decide_eq_true (by omega))) ?_
  refine jm (.bool true) ?_
  refine jz fun X2 hX2 => ?_
  have hB0 := hB0.bel hX2
  have hb := bel_next hb hX2
  clear hX2
  go_upto_region 3 with (fail)
  refine jp ?_
  refine jm (.bool false) ?_
  refine jz fun X3 hX3 => ?_
  have hB0 := hB0.bel hX3
  have hb := bel_next hb hX3
  clear hX3
  go_wp2
  go_ret
  exact ⟨.bool false, rfl, ⟨false, rfl, fun h9 => by cases h9⟩, hb⟩
theorem rfw4 (A : Option Addr) (n c : Nat) (r : List (List UInt8)) (w : World) (hr : Rd w 1 (.slice A n c) n (r.map tx)) (hln : r.length = n) (hn1 : n ≤ 9223372036854775807) (A' : Option Addr) (m c' : Nat) (l : List Sl) (hrl : Rd w 37 (.slice A' m c') m (fl slc l)) (hlm : l.length = m) (hm1 : m ≤ 9223372036854775807) (hok : ∀ s ∈ l, SlOk s) (most : Int) (hmo : 0 ≤ most ∧ most ≤ 4000) (h : n ≤ 10) (h2 : (m : Int) ≤ most) : Calls Tryd.prog 9 #[.agg #[.slice A n c], .slice A' m c', .int .i64 most] w fun e w' => ∃ v, e = .returned v ∧ Bv (FewP l most) v w' ∧ Since w w' := by
  have HRX : Hid (∀ X, Since w X → Rd X 1 (.slice A n c) n (r.map tx)) := fun X h => hr.below h
  have HLN := Lib.hid hln
  have HRL : Hid (∀ X, Since w X → Rd X 37 (.slice A' m c') m (fl slc l)) := fun X h => hrl.below h
  have HLM := Lib.hid hlm
  have HOK := Lib.hid hok
  clear hr hrl hln hlm hok
  obtain ⟨hmo0, hmo1⟩ := hmo
  go_enter Tryd.func9, Tryd.ntmps9
  go_upto_region 1 with (fail)
  obtain ⟨W0, hW0, hB0, hb⟩ := start1 w 24 [.slice A n c]
  rw [← hW0]
  clear hW0
  refine jp ?_
  refine jm (.slice A' m c') ?_
  refine jv (.int .i64 (m : Int)) (exec_lenv Tryd.underlying30 _ (by rfl) A' m c' (by rfl) _ rfl) ?_
  refine jm (.int .i64 (m : Int)) ?_
  refine jz fun X1 hX1 => ?_
  have hB0 := hB0.bel hX1
  have hb := bel_next hb hX1
  clear hX1
  go_upto_region 2 with (fail)
  refine jp ?_
  refine jn (.pointer (some ⟨w.heap.size, 0, none⟩)) ?_
  refine jf (.slice A n c) hB0 0 load_sts ?_
  refine jv (.int .i64 (n : Int)) (exec_lenv Tryd.underlying22 _ (by rfl) A n c (by rfl) _ rfl) ?_
  refine jv (.bool false) (exec_gtr _ _ _ _ (by rfl) .i64 (n : Int) 10 (by rfl) (by rfl) false (decide_eq_false (by omega))) ?_
  refine jm (.bool false) ?_
  refine jm (.int .i64 (m : Int)) ?_
  refine jm (.int .i64 most) ?_
  refine jv (.bool false) (exec_gtr _ _ _ _ (by rfl) .i64 (m : Int) most (by rfl) (by rfl) false (decide_eq_false (by omega))) ?_
  refine jm (.bool false) ?_
  refine js ?_
  refine js ?_
  refine jm (.bool false) ?_
  refine jm (.bool false) ?_
  refine jm (.bool false) ?_
  refine jm (.int .i64 (m : Int)) ?_
  refine jv (.bool false) (exec_gtr _ _ _ _ (by rfl) .i64 (m : Int) 4005 (by rfl) (by rfl) false (decide_eq_false (by omega))) ?_
  refine jm (.bool false) ?_
  refine jz fun X2 hX2 => ?_
  have hB0 := hB0.bel hX2
  have hb := bel_next hb hX2
  clear hX2
  go_upto_region 4 with (fail)
  refine jp ?_
  refine jm (.int .i64 0) ?_
  refine jz fun X3 hX3 => ?_
  have hB0 := hB0.bel hX3
  have hb := bel_next hb hX3
  clear hX3
  go_wp2
  go_loopw [8] (fun kv wr => ∃ k : Nat, k ≤ n ∧ kv = .int .i64 (k : Int) ∧ Blk wr w.heap.size 24 [.slice A n c] ∧ Below w.heap.size w wr) (fun kv _ => n - (intOf kv).toNat)
  case atStart => exact ⟨0, by omega, rfl, hB0, hb⟩
  case round =>
    clear hb hB0
    obtain ⟨k, hk, rfl, hB0, hb⟩ := hrel
    obtain ⟨wo, rfl⟩ : ∃ wo : World, wo = wr := ⟨_, rfl⟩
    rcases Nat.lt_or_ge k n with hlt | hlt
    · obtain ⟨b, off, rfl, hbb, hcx⟩ := (HRX.out _ hb).strIn HLN.out hlt
      obtain ⟨x, hx9⟩ : ∃ x, x = sec r k := ⟨_, rfl⟩
      rw [← hx9] at hcx
      clear hx9
      go_upto_region 5 with (fail)
      refine jp ?_
      refine jm (.int .i64 (k : Int)) ?_
      refine jn (.pointer (some ⟨w.heap.size, 0, none⟩)) ?_
      refine jf (.slice (some ⟨b, off, none⟩) n c) hB0 0 load_sts ?_
      refine jv (.int .i64 (n : Int)) (exec_lenv Tryd.underlying22 _ (by rfl) (some ⟨b, off, none⟩) n c (by rfl) _ rfl) ?_
      refine jv (.bool true) (exec_lss _ _ _ _ (by rfl) .i64 (k : Int) (n : Int) (by rfl) (by rfl) true (decide_eq_true (by omega))) ?_
      refine jz fun X1 hX1 => ?_
      have hB0 := hB0.bel hX1
      have hcx := hcx.below hX1 hbb
      replace hbb := Nat.lt_of_lt_of_le hbb (hX1).size
      have hb := bel_next hb hX1
      clear hX1
      by_cases hx70 : x.length ≤ 70
      · go_upto_region 7 with (fail)
        refine jp ?_
        refine jn (.pointer (some ⟨w.heap.size, 0, none⟩)) ?_
        refine jf (.slice (some ⟨b, off, none⟩) n c) hB0 0 load_sts ?_
        refine jm (.int .i64 (k : Int)) ?_
        refine jv (.pointer (some ⟨b, off + k * 1, none⟩)) (exec_ixv Tryd.underlying22 info_st1 _ _ (by rfl) b (off) n c k (by omega) (by rfl) (by rfl) rfl) ?_
        refine jg (st x) (fun X hX hF => exec_ld 9 _ (by rfl) b (off + k * 1) (by rfl) _ X ((hcx.below hX hbb) 0 _ rfl) (fun X u h => load_str b (off + k * 1) X u h)) ?_
        refine jv (.int .i64 (x.length : Int)) (exec_lens Tryd.underlying9 _ (by rfl) x (by rfl) _ rfl) ?_
        refine jv (.bool false) (exec_gtr _ _ _ _ (by rfl) .i64 (x.length : Int) 70 (by rfl) (by rfl) false (decide_eq_false (by omega))) ?_
        refine jz fun X2 hX2 => ?_
        have hB0 := hB0.bel hX2
        have hcx := hcx.below hX2 hbb
        replace hbb := Nat.lt_of_lt_of_le hbb (hX2).size
        have hb := bel_next hb hX2
        clear hX2
        go_upto_region 6 with (fail)
        refine jp ?_
        refine jm (.int .i64 (k : Int)) ?_
        refine jv (.int .i64 ((k + 1 : Nat) : Int)) (exec_add _ _ _ _ (by rfl) (k : Int) 1 ((k + 1 : Nat) : Int) (by rfl) (by rfl) (by omega) (by omega) (by omega)) ?_
        refine jm (.int .i64 ((k + 1 : Nat) : Int)) ?_
        refine jz fun X3 hX3 => ?_
        have hB0 := hB0.bel hX3
        have hb := bel_next hb hX3
        clear hX3
        go_wp2
        go_roundw
        case rel => exact ⟨k + 1, by omega, rfl, hB0, hb⟩
        case measure => simp [intOf]; omega
      · go_upto_region 7 with (fail)
        refine jp ?_
        refine jn (.pointer (some ⟨w.heap.size, 0, none⟩)) ?_
        refine jf (.slice (some ⟨b, off, none⟩) n c) hB0 0 load_sts ?_
        refine jm (.int .i64 (k : Int)) ?_
        refine jv (.pointer (some ⟨b, off + k * 1, none⟩)) (exec_ixv Tryd.underlying22 info_st1 _ _ (by rfl) b (off) n c k (by omega) (by rfl) (by rfl) rfl) ?_
        refine jg (st x) (fun X hX hF => exec_ld 9 _ (by rfl) b (off + k * 1) (by rfl) _ X ((hcx.below hX hbb) 0 _ rfl) (fun X u h => load_str b (off + k * 1) X u h)) ?_
        refine jv (.int .i64 (x.length : Int)) (exec_lens Tryd.underlying9 _ (by rfl) x (by rfl) _ rfl) ?_
        refine jv (.bool true) (exec_gtr _ _ _ _ (by rfl) .i64 (x.length : Int) 70 (by rfl) (by rfl) true (decide_eq_true (by omega))) ?_
        refine jz fun X2 hX2 => ?_
        have hB0 := hB0.bel hX2
        have hcx := hcx.below hX2 hbb
        replace hbb := Nat.lt_of_lt_of_le hbb (hX2).size
        have hb := bel_next hb hX2
        clear hX2
        go_upto_region 8 with (fail)
        refine jp ?_
        refine jm (.bool false) ?_
        refine jz fun X3 hX3 => ?_
        have hB0 := hB0.bel hX3
        have hcx := hcx.below hX3 hbb
        replace hbb := Nat.lt_of_lt_of_le hbb (hX3).size
        have hb := bel_next hb hX3
        clear hX3
        go_wp2
        go_ret
        exact ⟨.bool false, rfl, ⟨false, rfl, fun h9 => by cases h9⟩, hb⟩
    · have hkn : n ≤ k := hlt
      go_upto_region 5 with (fail)
      refine jp ?_
      refine jm (.int .i64 (k : Int)) ?_
      refine jn (.pointer (some ⟨w.heap.size, 0, none⟩)) ?_
      refine jf (.slice A n c) hB0 0 load_sts ?_
      refine jv (.int .i64 (n : Int)) (exec_lenv Tryd.underlying22 _ (by rfl) A n c (by rfl) _ rfl) ?_
      refine jv (.bool false) (exec_lss _ _ _ _ (by rfl) .i64 (k : Int) (n : Int) (by rfl) (by rfl) false (decide_eq_false (by omega))) ?_
      refine jz fun X1 hX1 => ?_
      have hB0 := hB0.bel hX1
      have hb := bel_next hb hX1
      clear hX1
      go_upto_region 9 with (fail)
      refine jp ?_
      refine jm (.int .i64 0) ?_
      refine jz fun X2 hX2 => ?_
      have hB0 := hB0.bel hX2
      have hb := bel_next hb hX2
      clear hX2
      go_wp2
      go_loopw [9] (fun jv wr => ∃ j : Nat, j ≤ m ∧ jv = .int .i64 (j : Int) ∧ Hid (∀ i, i < j → shS (sAt l i) = true) ∧ Blk wr w.heap.size 24 [.slice A n c] ∧ Below w.heap.size w wr) (fun jv _ => m - (intOf jv).toNat)
      case atStart => exact ⟨0, by omega, rfl, (fun i hi => by omega), hB0, hb⟩
      case round =>
        clear hb hB0
        obtain ⟨j, hj, rfl, HZ, hB0, hb⟩ := hrel
        rcases Nat.lt_or_ge j m with hlj | hlj
        · obtain ⟨b, off, rfl, hbb, hall⟩ := (HRL.out _ hb).sls HOK.out HLM.out (by omega)
          have hcx := hall j hlj
          clear hall
          have ox := ok_at HOK.out (k := j) (by rw [HLM.out]; exact hlj)
          obtain ⟨x, hx9⟩ : ∃ x, x = sAt l j := ⟨_, rfl⟩
          rw [← hx9] at hcx ox
          have HX : Hid (sAt l j = x) := hx9.symm
          clear hx9
          go_upto_region 10 with (fail)
          refine jp ?_
          refine jm (.int .i64 (j : Int)) ?_
          refine jm (.int .i64 (m : Int)) ?_
          refine jv (.bool true) (exec_lss _ _ _ _ (by rfl) .i64 (j : Int) (m : Int) (by rfl) (by rfl) true (decide_eq_true (by omega))) ?_
          refine jm (.bool true) ?_
          refine jm (.int .i64 (m : Int)) ?_
          refine jm (.int .i64 most) ?_
          refine jv (.bool true) (exec_leq _ _ _ _ (by rfl) .i64 (m : Int) most (by rfl) (by rfl) true (decide_eq_true (by omega))) ?_
          refine jm (.bool true) ?_
          refine jz fun X3 hX3 => ?_
          have hB0 := hB0.bel hX3
          have hcx := hcx.below hX3 hbb
          replace hbb := Nat.lt_of_lt_of_le hbb (hX3).size
          have hb := bel_next hb hX3
          clear hX3
          cases hsh : shS x
          · have HSH := Lib.hid hsh
            clear hsh
            go_upto_region 12 with (fail)
            refine jp ?_
            refine jm (.slice (some ⟨b, off, none⟩) m c') ?_
            refine jm (.int .i64 (j : Int)) ?_
            refine jv (.pointer (some ⟨b, off + j * 37, none⟩)) (exec_ixv Tryd.underlying30 info_sl _ _ (by rfl) b (off) m c' j (by omega) (by rfl) (by rfl) rfl) ?_
            refine jg (.agg (slc x).toArray) (fun X hX hF => exec_ldc 28 _ (by rfl) b (off + j * 37) (by rfl) Tryd.underlying28 rfl (slc x) X (hcx.below hX hbb) (info_slc ox)) ?_
            refine jc (.bool false) (fun X hX hF => mo (rshC x X ox) (by rw [HSH.out])) ?_
            refine jm (.bool false) ?_
            refine jz fun X4 hX4 => ?_
            have hB0 := hB0.bel hX4
            have hcx := hcx.below hX4 hbb
            replace hbb := Nat.lt_of_lt_of_le hbb (hX4).size
            have hb := bel_next hb hX4
            clear hX4
            go_upto_region 13 with (fail)
            refine jp ?_
            refine jm (.bool false) ?_
            refine jm (.bool true) ?_
            refine jz fun X5 hX5 => ?_
            have hB0 := hB0.bel hX5
            have hcx := hcx.below hX5 hbb
            replace hbb := Nat.lt_of_lt_of_le hbb (hX5).size
            have hb := bel_next hb hX5
            clear hX5
            go_upto_region 14 with (fail)
            refine jp ?_
            refine jm (.bool false) ?_
            refine jz fun X6 hX6 => ?_
            have hB0 := hB0.bel hX6
            have hcx := hcx.below hX6 hbb
            replace hbb := Nat.lt_of_lt_of_le hbb (hX6).size
            have hb := bel_next hb hX6
            clear hX6
            go_wp2
            go_ret
            exact ⟨.bool false, rfl, ⟨false, rfl, fun h9 => by cases h9⟩, hb⟩
          · have HSH := Lib.hid hsh
            clear hsh
            go_upto_region 12 with (fail)
            refine jp ?_
            refine jm (.slice (some ⟨b, off, none⟩) m c') ?_
            refine jm (.int .i64 (j : Int)) ?_
            refine jv (.pointer (some ⟨b, off + j * 37, none⟩)) (exec_ixv Tryd.underlying30 info_sl _ _ (by rfl) b (off) m c' j (by omega) (by rfl) (by rfl) rfl) ?_
            refine jg (.agg (slc x).toArray) (fun X hX hF => exec_ldc 28 _ (by rfl) b (off + j * 37) (by rfl) Tryd.underlying28 rfl (slc x) X (hcx.below hX hbb) (info_slc ox)) ?_
            refine jc (.bool true) (fun X hX hF => mo (rshC x X ox) (by rw [HSH.out])) ?_
            refine jm (.bool true) ?_
            refine jz fun X4 hX4 => ?_
            have hB0 := hB0.bel hX4
            have hcx := hcx.below hX4 hbb
            replace hbb := Nat.lt_of_lt_of_le hbb (hX4).size
            have hb := bel_next hb hX4
            clear hX4
            go_upto_region 13 with (fail)
            refine jp ?_
            refine jm (.bool true) ?_
            refine jm (.bool false) ?_
            refine jz fun X5 hX5 => ?_
            have hB0 := hB0.bel hX5
            have hcx := hcx.below hX5 hbb
            replace hbb := Nat.lt_of_lt_of_le hbb (hX5).size
            have hb := bel_next hb hX5
            clear hX5
            go_upto_region 11 with (fail)
            refine jp ?_
            refine jm (.int .i64 (j : Int)) ?_
            refine jv (.int .i64 ((j + 1 : Nat) : Int)) (exec_add _ _ _ _ (by rfl) (j : Int) 1 ((j + 1 : Nat) : Int) (by rfl) (by rfl) (by omega) (by omega) (by omega)) ?_
            refine jm (.int .i64 ((j + 1 : Nat) : Int)) ?_
            refine jz fun X6 hX6 => ?_
            have hB0 := hB0.bel hX6
            have hb := bel_next hb hX6
            clear hX6
            have HZ2 : Hid (∀ i, i < j + 1 → shS (sAt l i) = true) := fun i hi => by
              rcases Nat.lt_or_ge i j with h9 | h9
              · exact HZ.out i h9
              · rw [show i = j by omega, HX.out]; exact HSH.out
            go_wp2
            go_roundw
            case rel => exact ⟨j + 1, by omega, rfl, HZ2, hB0, hb⟩
            case measure => simp [intOf]; omega
        · have hjm : m ≤ j := hlj
          go_upto_region 10 with (fail)
          refine jp ?_
          refine jm (.int .i64 (j : Int)) ?_
          refine jm (.int .i64 (m : Int)) ?_
          refine jv (.bool false) (exec_lss _ _ _ _ (by rfl) .i64 (j : Int) (m : Int) (by rfl) (by rfl) false (decide_eq_false (by omega))) ?_
          refine jm (.bool false) ?_
          refine js ?_
          refine js ?_
          refine js ?_
          refine jm (.bool false) ?_
          refine jz fun X3 hX3 => ?_
          have hB0 := hB0.bel hX3
          have hb := bel_next hb hX3
          clear hX3
          go_upto_region 15 with (fail)
          refine jp ?_
          refine jm (.bool true) ?_
          refine jz fun X4 hX4 => ?_
          have hB0 := hB0.bel hX4
          have hb := bel_next hb hX4
          clear hX4
          go_wp2
          go_ret
          exact ⟨.bool true, rfl, ⟨true, rfl, fun _ _ i hi => HZ.out i (by have := HLM.out; omega)⟩, hb⟩
theorem rfw5 (A : Option Addr) (n c : Nat) (r : List (List UInt8)) (w : World) (hr : Rd w 1 (.slice A n c) n (r.map tx)) (hln : r.length = n) (hn1 : n ≤ 9223372036854775807) (A' : Option Addr) (m c' : Nat) (l : List Sl) (hrl : Rd w 37 (.slice A' m c') m (fl slc l)) (hlm : l.length = m) (hm1 : m ≤ 9223372036854775807) (hok : ∀ s ∈ l, SlOk s) (most : Int) (hmo : 0 ≤ most ∧ most ≤ 4000) (h : n ≤ 10) (h2 : most < (m : Int)) (h3 : 4000 < m) (h4 : m ≤ 4005) : Calls Tryd.prog 9 #[.agg #[.slice A n c], .slice A' m c', .int .i64 most] w fun e w' => ∃ v, e = .returned v ∧ Bv (FewP l most) v w' ∧ Since w w' := by
  have HRX : Hid (∀ X, Since w X → Rd X 1 (.slice A n c) n (r.map tx)) := fun X h => hr.below h
  have HLN := Lib.hid hln
  have HRL : Hid (∀ X, Since w X → Rd X 37 (.slice A' m c') m (fl slc l)) := fun X h => hrl.below h
  have HLM := Lib.hid hlm
  have HOK := Lib.hid hok
  clear hr hrl hln hlm hok
  obtain ⟨hmo0, hmo1⟩ := hmo
  go_enter Tryd.func9, Tryd.ntmps9
  go_upto_region 1 with (fail)
  obtain ⟨W0, hW0, hB0, hb⟩ := start1 w 24 [.slice A n c]
  rw [← hW0]
  clear hW0
  refine jp ?_
  refine jm (.slice A' m c') ?_
  refine jv (.int .i64 (m : Int)) (exec_lenv Tryd.underlying30 _ (by rfl) A' m c' (by rfl) _ rfl) ?_
  refine jm (.int .i64 (m : Int)) ?_
  refine jz fun X1 hX1 => ?_
  have hB0 := hB0.bel hX1
  have hb := bel_next hb hX1
  clear hX1
  go_upto_region 2 with (fail)
  refine jp ?_
  refine jn (.pointer (some ⟨w.heap.size, 0, none⟩)) ?_
  refine jf (.slice A n c) hB0 0 load_sts ?_
  refine jv (.int .i64 (n : Int)) (exec_lenv Tryd.underlying22 _ (by rfl) A n c (by rfl) _ rfl) ?_
  refine jv (.bool false) (exec_gtr _ _ _ _ (by rfl) .i64 (n : Int) 10 (by rfl) (by rfl) false (decide_eq_false (by omega))) ?_
  refine jm (.bool false) ?_
  refine jm (.int .i64 (m : Int)) ?_
  refine jm (.int .i64 most) ?_
  refine jv (.bool true) (exec_gtr _ _ _ _ (by rfl) .i64 (m : Int) most (by rfl) (by rfl) true (decide_eq_true (by omega))) ?_
  refine jm (.bool true) ?_
  refine jm (.int .i64 (m : Int)) ?_
  refine jv (.bool false) (exec_leq _ _ _ _ (by rfl) .i64 (m : Int) 4000 (by rfl) (by rfl) false (decide_eq_false (by omega))) ?_
  refine jm (.bool false) ?_
  refine jm (.bool false) ?_
  refine jm (.bool false) ?_
  refine jm (.int .i64 (m : Int)) ?_
  refine jv (.bool false) (exec_gtr _ _ _ _ (by rfl) .i64 (m : Int) 4005 (by rfl) (by rfl) false (decide_eq_false (by omega))) ?_
  refine jm (.bool false) ?_
  refine jz fun X2 hX2 => ?_
  have hB0 := hB0.bel hX2
  have hb := bel_next hb hX2
  clear hX2
  go_upto_region 4 with (fail)
  refine jp ?_
  refine jm (.int .i64 0) ?_
  refine jz fun X3 hX3 => ?_
  have hB0 := hB0.bel hX3
  have hb := bel_next hb hX3
  clear hX3
  go_wp2
  go_loopw [8] (fun kv wr => ∃ k : Nat, k ≤ n ∧ kv = .int .i64 (k : Int) ∧ Blk wr w.heap.size 24 [.slice A n c] ∧ Below w.heap.size w wr) (fun kv _ => n - (intOf kv).toNat)
  case atStart => exact ⟨0, by omega, rfl, hB0, hb⟩
  case round =>
    clear hb hB0
    obtain ⟨k, hk, rfl, hB0, hb⟩ := hrel
    obtain ⟨wo, rfl⟩ : ∃ wo : World, wo = wr := ⟨_, rfl⟩
    rcases Nat.lt_or_ge k n with hlt | hlt
    · obtain ⟨b, off, rfl, hbb, hcx⟩ := (HRX.out _ hb).strIn HLN.out hlt
      obtain ⟨x, hx9⟩ : ∃ x, x = sec r k := ⟨_, rfl⟩
      rw [← hx9] at hcx
      clear hx9
      go_upto_region 5 with (fail)
      refine jp ?_
      refine jm (.int .i64 (k : Int)) ?_
      refine jn (.pointer (some ⟨w.heap.size, 0, none⟩)) ?_
      refine jf (.slice (some ⟨b, off, none⟩) n c) hB0 0 load_sts ?_
      refine jv (.int .i64 (n : Int)) (exec_lenv Tryd.underlying22 _ (by rfl) (some ⟨b, off, none⟩) n c (by rfl) _ rfl) ?_
      refine jv (.bool true) (exec_lss _ _ _ _ (by rfl) .i64 (k : Int) (n : Int) (by rfl) (by rfl) true (decide_eq_true (by omega))) ?_
      refine jz fun X1 hX1 => ?_
      have hB0 := hB0.bel hX1
      have hcx := hcx.below hX1 hbb
      replace hbb := Nat.lt_of_lt_of_le hbb (hX1).size
      have hb := bel_next hb hX1
      clear hX1
      by_cases hx70 : x.length ≤ 70
      · go_upto_region 7 with (fail)
        refine jp ?_
        refine jn (.pointer (some ⟨w.heap.size, 0, none⟩)) ?_
        refine jf (.slice (some ⟨b, off, none⟩) n c) hB0 0 load_sts ?_
        refine jm (.int .i64 (k : Int)) ?_
        refine jv (.pointer (some ⟨b, off + k * 1, none⟩)) (exec_ixv Tryd.underlying22 info_st1 _ _ (by rfl) b (off) n c k (by omega) (by rfl) (by rfl) rfl) ?_
        refine jg (st x) (fun X hX hF => exec_ld 9 _ (by rfl) b (off + k * 1) (by rfl) _ X ((hcx.below hX hbb) 0 _ rfl) (fun X u h => load_str b (off + k * 1) X u h)) ?_
        refine jv (.int .i64 (x.length : Int)) (exec_lens Tryd.underlying9 _ (by rfl) x (by rfl) _ rfl) ?_
        refine jv (.bool false) (exec_gtr _ _ _ _ (by rfl) .i64 (x.length : Int) 70 (by rfl) (by rfl) false (decide_eq_false (by omega))) ?_
        refine jz fun X2 hX2 => ?_
        have hB0 := hB0.bel hX2
        have hcx := hcx.below hX2 hbb
        replace hbb := Nat.lt_of_lt_of_le hbb (hX2).size
        have hb := bel_next hb hX2
        clear hX2
        go_upto_region 6 with (fail)
        refine jp ?_
        refine jm (.int .i64 (k : Int)) ?_
        refine jv (.int .i64 ((k + 1 : Nat) : Int)) (exec_add _ _ _ _ (by rfl) (k : Int) 1 ((k + 1 : Nat) : Int) (by rfl) (by rfl) (by omega) (by omega) (by omega)) ?_
        refine jm (.int .i64 ((k + 1 : Nat) : Int)) ?_
        refine jz fun X3 hX3 => ?_
        have hB0 := hB0.bel hX3
        have hb := bel_next hb hX3
        clear hX3
        go_wp2
        go_roundw
        case rel => exact ⟨k + 1, by omega, rfl, hB0, hb⟩
        case measure => simp [intOf]; omega
      · go_upto_region 7 with (fail)
        refine jp ?_
        refine jn (.pointer (some ⟨w.heap.size, 0, none⟩)) ?_
        refine jf (.slice (some ⟨b, off, none⟩) n c) hB0 0 load_sts ?_
        refine jm (.int .i64 (k : Int)) ?_
        refine jv (.pointer (some ⟨b, off + k * 1, none⟩)) (exec_ixv Tryd.underlying22 info_st1 _ _ (by rfl) b (off) n c k (by omega) (by rfl) (by rfl) rfl) ?_
        refine jg (st x) (fun X hX hF => exec_ld 9 _ (by rfl) b (off + k * 1) (by rfl) _ X ((hcx.below hX hbb) 0 _ rfl) (fun X u h => load_str b (off + k * 1) X u h)) ?_
        refine jv (.int .i64 (x.length : Int)) (exec_lens Tryd.underlying9 _ (by rfl) x (by rfl) _ rfl) ?_
        refine jv (.bool true) (exec_gtr _ _ _ _ (by rfl) .i64 (x.length : Int) 70 (by rfl) (by rfl) true (decide_eq_true (by omega))) ?_
        refine jz fun X2 hX2 => ?_
        have hB0 := hB0.bel hX2
        have hcx := hcx.below hX2 hbb
        replace hbb := Nat.lt_of_lt_of_le hbb (hX2).size
        have hb := bel_next hb hX2
        clear hX2
        go_upto_region 8 with (fail)
        refine jp ?_
        refine jm (.bool false) ?_
        refine jz fun X3 hX3 => ?_
        have hB0 := hB0.bel hX3
        have hcx := hcx.below hX3 hbb
        replace hbb := Nat.lt_of_lt_of_le hbb (hX3).size
        have hb := bel_next hb hX3
        clear hX3
        go_wp2
        go_ret
        exact ⟨.bool false, rfl, ⟨false, rfl, fun h9 => by cases h9⟩, hb⟩
    · have hkn : n ≤ k := hlt
      go_upto_region 5 with (fail)
      refine jp ?_
      refine jm (.int .i64 (k : Int)) ?_
      refine jn (.pointer (some ⟨w.heap.size, 0, none⟩)) ?_
      refine jf (.slice A n c) hB0 0 load_sts ?_
      refine jv (.int .i64 (n : Int)) (exec_lenv Tryd.underlying22 _ (by rfl) A n c (by rfl) _ rfl) ?_
      refine jv (.bool false) (exec_lss _ _ _ _ (by rfl) .i64 (k : Int) (n : Int) (by rfl) (by rfl) false (decide_eq_false (by omega))) ?_
      refine jz fun X1 hX1 => ?_
      have hB0 := hB0.bel hX1
      have hb := bel_next hb hX1
      clear hX1
      go_upto_region 9 with (fail)
      refine jp ?_
      refine jm (.int .i64 0) ?_
      refine jz fun X2 hX2 => ?_
      have hB0 := hB0.bel hX2
      have hb := bel_next hb hX2
      clear hX2
      go_wp2
      go_loopw [9] (fun jv wr => jv = .int .i64 0 ∧ Blk wr w.heap.size 24 [.slice A n c] ∧ Below w.heap.size w wr) (fun jv _ => 0)
      case atStart => exact ⟨rfl, hB0, hb⟩
      case round =>
        clear hb hB0
        obtain ⟨rfl, hB0, hb⟩ := hrel
        go_upto_region 10 with (fail)
        refine jp ?_
        refine jm (.int .i64 0) ?_
        refine jm (.int .i64 (m : Int)) ?_
        refine jv (.bool true) (exec_lss _ _ _ _ (by rfl) .i64 0 (m : Int) (by rfl) (by rfl) true (decide_eq_true (by omega))) ?_
        refine jm (.bool true) ?_
        refine jm (.int .i64 (m : Int)) ?_
        refine jm (.int .i64 most) ?_
        refine jv (.bool false) (exec_leq _ _ _ _ (by rfl) .i64 (m : Int) most (by rfl) (by rfl) false (decide_eq_false (by omega))) ?_
        refine jm (.bool false) ?_
        refine jz fun X3 hX3 => ?_
        have hB0 := hB0.bel hX3
        have hb := bel_next hb hX3
        clear hX3
        go_upto_region 15 with (fail)
        refine jp ?_
        refine jm (.bool true) ?_
        refine jz fun X4 hX4 => ?_
        have hB0 := hB0.bel hX4
        have hb := bel_next hb hX4
        clear hX4
        go_wp2
        go_ret
        exact ⟨.bool true, rfl, ⟨true, rfl, fun _ h9 => by have h8 := HLM.out; rw [h8] at h9; omega⟩, hb⟩
theorem rfwC (A : Option Addr) (n c : Nat) (r : List (List UInt8)) (w : World) (hr : Rd w 1 (.slice A n c) n (r.map tx)) (hln : r.length = n) (hn1 : n ≤ 9223372036854775807) (A' : Option Addr) (m c' : Nat) (l : List Sl) (hrl : Rd w 37 (.slice A' m c') m (fl slc l)) (hlm : l.length = m) (hm1 : m ≤ 9223372036854775807) (hok : ∀ s ∈ l, SlOk s) (most : Int) (hmo : 0 ≤ most ∧ most ≤ 4000) : Calls Tryd.prog 9 #[.agg #[.slice A n c], .slice A' m c', .int .i64 most] w fun e w' => ∃ v, e = .returned v ∧ Bv (FewP l most) v w' ∧ Since w w' := by
  by_cases h : n ≤ 10
  · by_cases h2 : most < (m : Int)
    · by_cases h3 : m ≤ 4000
      · exact rfw2 A n c r w hr hln hn1 A' m c' l hrl hlm hm1 hok most hmo h h2 h3
      · by_cases h4 : m ≤ 4005
        · exact rfw5 A n c r w hr hln hn1 A' m c' l hrl hlm hm1 hok most hmo h h2 (by omega) h4
        · exact rfw3 A n c r w hr hln hn1 A' m c' l hrl hlm hm1 hok most hmo h h2 (by omega)
    · exact rfw4 A n c r w hr hln hn1 A' m c' l hrl hlm hm1 hok most hmo h (by omega)
  · exact rfw1 A n c r w hr hln hn1 A' m c' l hrl hlm hm1 hok most hmo (by omega)
end Go.Proofs.YthinopepcmidmaaDoor
