/-
  law 13: CurveIsMonotone.
-/
import Derived.Test.YtchhlgcakjjncaaDoorS13
set_option linter.unusedSimpArgs false
set_option linter.unusedVariables false
set_option maxRecDepth 100000
set_option maxHeartbeats 1600000
namespace Go.Proofs.YtchhlgcakjjncaaDoor
open Go.RowKit
theorem flow0_sz {l : List Pt} (hf : fewP l 1000) (s : Int) : szR (flowC0 l s) 10000 := by
  unfold flowC0
  split
  · rename_i h
    exact flow_sz (ck_zero h) hf s
  · exact szR_zero.mono (by omega)
/-- What holds of a curve without an error. -/
theorem mono_flow {l : List Pt} (hc : ck l = 0) {s t : Int} (h : s ≤ t) : flowC0 l s ≤ flowC0 l t := by
  unfold flowC0
  rw [if_pos hc, if_pos hc]
  exact flow_mono (ck_zero hc).crv h
theorem nn_flow {l : List Pt} (hc : ck l = 0) (s : Int) : 0 ≤ flowC0 l s := by
  unfold flowC0
  rw [if_pos hc]
  exact flow_nn (ck_zero hc).crv s
theorem top_flow {l : List Pt} (hc : ck l = 0) (s : Int) : flowC0 l s ≤ trq (pt l (l.length - 1)).2 := by
  have hk := (ck_zero hc).crv
  have hp := hk.pos
  have h1 := flow_le_top hk s
  rw [List.length_map] at h1 hp
  rw [(kn_at (by omega)).2] at h1
  unfold flowC0
  rw [if_pos hc]
  exact h1
theorem at_flow {l : List Pt} (hc : ck l = 0) {k : Nat} (hk : k < l.length) : flowC0 l (pt l k).1 = trq (pt l k).2 := by
  have h1 := flow_point (ck_zero hc).crv (k := k) (by rw [List.length_map]; exact hk)
  rw [(kn_at hk).1, (kn_at hk).2] at h1
  unfold flowC0
  rw [if_pos hc]
  exact h1
theorem up_flow {l : List Pt} (hc : ck l = 0) {s : Int} (hs : (pt l (l.length - 1)).1 ≤ s) : flowC0 l s = trq (pt l (l.length - 1)).2 := by
  have hk := (ck_zero hc).crv
  have hp := hk.pos
  rw [List.length_map] at hp
  have h1 := flow_top hk (s := s) (by rw [List.length_map, (kn_at (by omega)).1]; exact hs)
  rw [List.length_map, (kn_at (by omega)).2] at h1
  unfold flowC0
  rw [if_pos hc]
  exact h1
theorem rng_pt {l : List Pt} (hc : ck l = 0) {k : Nat} (hk : k < l.length) : -1000 ≤ (pt l k).1 ∧ (pt l k).1 ≤ 2000 := (((ck_iff l).1 hc).2 k hk).1
theorem vd_pt {l : List Pt} (hc : ck l = 0) {k : Nat} (hk : k < l.length) : vd (pt l k).2.1 (pt l k).2.2.1 (pt l k).2.2.2 = true := (ck_zero hc).vd k hk
theorem len_pt {l : List Pt} (hc : ck l = 0) : 1 ≤ l.length ∧ l.length ≤ 16 := ((ck_iff l).1 hc).1
theorem ls_low {l : List Pt} (hc : ck l = 0) {x : Rat} {r : Nat} (hr : lst (l.map kp) x = r) {k : Nat} (hk : k < r) : flowC0 l (-1000 + (k : Int)) < x := by
  unfold flowC0
  rw [if_pos hc]
  exact lst_low (by rw [hr]; exact hk)
theorem ls_at {l : List Pt} (hc : ck l = 0) {x : Rat} {r : Nat} (hr : lst (l.map kp) x = r) (h : r < 3001) : x ≤ flowC0 l (-1000 + (r : Int)) := by
  unfold flowC0
  rw [if_pos hc, ← hr]
  exact lst_at (by rw [hr]; exact h)
theorem le_ok {l : List Pt} (hc : ck l = 0) {x : Rat} {r : Nat} (hr : lst (l.map kp) x = r) (h : r < 3001) : leN l true x = -1000 + (r : Int) ∧ leE l true x = 0 := by
  unfold leN leE
  rw [if_neg (show ¬ (ck l ≠ 0) from fun h9 => h9 hc), if_neg (show ¬ (ck l ≠ 0) from fun h9 => h9 hc), hr, if_pos h, if_pos h]
  exact ⟨rfl, rfl⟩
theorem le_no {l : List Pt} (hc : ck l = 0) {x : Rat} {r : Nat} (hr : lst (l.map kp) x = r) (h : ¬ r < 3001) : leN l true x = 0 ∧ leE l true x = 8 := by
  unfold leN leE
  rw [if_neg (show ¬ (ck l ≠ 0) from fun h9 => h9 hc), if_neg (show ¬ (ck l ≠ 0) from fun h9 => h9 hc), hr, if_neg h, if_neg h]
  exact ⟨rfl, rfl⟩
theorem mono0 (w : World) (A : Option Addr) (n c : Nat) (l : List Pt) (hr : Rd w 4 (.slice A n c) n (fl ptc l)) (hln : l.length = n) (hn1 : n ≤ 9223372036854775807) (s0 s1 : Int) (n' : Bool) (p q : List UInt8) (h0 : fewB l 8 = false) : Calls Tryd.prog 7 #[.agg #[.slice A n c], .agg #[.int .i64 s0, .int .i64 s1], .agg #[.bool n', .string ⟨p.toArray⟩, .string ⟨q.toArray⟩]] w fun e w' => e = .returned (.bool true) ∧ Since w w' := by
  have HRX : Hid (∀ X, Since w X → Rd X 4 (.slice A n c) n (fl ptc l)) := fun X h => hr.below h
  clear hr
  go_enter Tryd.func7, Tryd.ntmps7
  go_upto_region 1 with (fail)
  obtain ⟨W0, hW0, hB0, hB1, hB2, hb⟩ := start3 w 48 49 26 [.slice A n c] [.int .i64 s0, .int .i64 s1] [.bool n', .string ⟨p.toArray⟩, .string ⟨q.toArray⟩]
  rw [← hW0]
  clear hW0
  refine jp ?_
  refine ja hB0 Tryd.underlying48 (by rfl) info_cv ?_
  refine jc (.bool false) (fun X hX hF => mo (few13L A n c l X (HRX.out X (hb.trans (Below.mono hX hb.size))) hln hn1) (by rw [h0])) ?_
  refine jm (.bool true) ?_
  refine jm (.bool true) ?_
  refine js ?_
  refine js ?_
  refine js ?_
  refine js ?_
  refine jm (.bool true) ?_
  refine jm (.bool true) ?_
  refine js ?_
  refine js ?_
  refine js ?_
  refine js ?_
  refine jm (.bool true) ?_
  refine jm (.bool true) ?_
  refine js ?_
  refine js ?_
  refine js ?_
  refine jm (.bool true) ?_
  refine jm (.bool true) ?_
  refine js ?_
  refine js ?_
  refine js ?_
  refine jm (.bool true) ?_
  refine jz fun X1 hX1 => ?_
  have hB0 := hB0.bel hX1
  have hB1 := hB1.bel hX1
  have hB2 := hB2.bel hX1
  have hb := bel_next hb hX1
  clear hX1
  go_upto_region 2 with (fail)
  refine jp ?_
  refine jc (.bool true) (fun X hX hF => sanityC X) ?_
  refine jm (.bool true) ?_
  refine jz fun X2 hX2 => ?_
  have hB0 := hB0.bel hX2
  have hB1 := hB1.bel hX2
  have hB2 := hB2.bel hX2
  have hb := bel_next hb hX2
  clear hX2
  go_wp2
  go_ret
  exact ⟨rfl, hb⟩
theorem mono1 (w : World) (A : Option Addr) (n c : Nat) (l : List Pt) (hr : Rd w 4 (.slice A n c) n (fl ptc l)) (hln : l.length = n) (hn1 : n ≤ 9223372036854775807) (s0 s1 : Int) (n' : Bool) (p q : List UInt8) (h0 : fewB l 8 = true) (hp : 20 < p.length) : Calls Tryd.prog 7 #[.agg #[.slice A n c], .agg #[.int .i64 s0, .int .i64 s1], .agg #[.bool n', .string ⟨p.toArray⟩, .string ⟨q.toArray⟩]] w fun e w' => e = .returned (.bool true) ∧ Since w w' := by
  have HRX : Hid (∀ X, Since w X → Rd X 4 (.slice A n c) n (fl ptc l)) := fun X h => hr.below h
  clear hr
  go_enter Tryd.func7, Tryd.ntmps7
  go_upto_region 1 with (fail)
  obtain ⟨W0, hW0, hB0, hB1, hB2, hb⟩ := start3 w 48 49 26 [.slice A n c] [.int .i64 s0, .int .i64 s1] [.bool n', .string ⟨p.toArray⟩, .string ⟨q.toArray⟩]
  rw [← hW0]
  clear hW0
  refine jp ?_
  refine ja hB0 Tryd.underlying48 (by rfl) info_cv ?_
  refine jc (.bool true) (fun X hX hF => mo (few13L A n c l X (HRX.out X (hb.trans (Below.mono hX hb.size))) hln hn1) (by rw [h0])) ?_
  refine jm (.bool false) ?_
  refine jm (.bool false) ?_
  refine jn (.pointer (some ⟨(w.heap.size + 2), 1, none⟩)) ?_
  refine jf (st p) hB2 1 load_str ?_
  refine jv (.int .i64 (p.length : Int)) (exec_lens Tryd.underlying9 _ (by rfl) p (by rfl) _ rfl) ?_
  refine jv (.bool true) (exec_gtr _ _ _ _ (by rfl) .i64 (p.length : Int) 20 (by rfl) (by rfl) true (decide_eq_true (by omega))) ?_
  refine jm (.bool true) ?_
  refine jm (.bool true) ?_
  refine js ?_
  refine js ?_
  refine js ?_
  refine js ?_
  refine jm (.bool true) ?_
  refine jm (.bool true) ?_
  refine js ?_
  refine js ?_
  refine js ?_
  refine jm (.bool true) ?_
  refine jm (.bool true) ?_
  refine js ?_
  refine js ?_
  refine js ?_
  refine jm (.bool true) ?_
  refine jz fun X1 hX1 => ?_
  have hB0 := hB0.bel hX1
  have hB1 := hB1.bel hX1
  have hB2 := hB2.bel hX1
  have hb := bel_next hb hX1
  clear hX1
  go_upto_region 2 with (fail)
  refine jp ?_
  refine jc (.bool true) (fun X hX hF => sanityC X) ?_
  refine jm (.bool true) ?_
  refine jz fun X2 hX2 => ?_
  have hB0 := hB0.bel hX2
  have hB1 := hB1.bel hX2
  have hB2 := hB2.bel hX2
  have hb := bel_next hb hX2
  clear hX2
  go_wp2
  go_ret
  exact ⟨rfl, hb⟩
theorem mono2 (w : World) (A : Option Addr) (n c : Nat) (l : List Pt) (hr : Rd w 4 (.slice A n c) n (fl ptc l)) (hln : l.length = n) (hn1 : n ≤ 9223372036854775807) (s0 s1 : Int) (n' : Bool) (p q : List UInt8) (h0 : fewB l 8 = true) (hp : p.length ≤ 20) (hq : 20 < q.length) : Calls Tryd.prog 7 #[.agg #[.slice A n c], .agg #[.int .i64 s0, .int .i64 s1], .agg #[.bool n', .string ⟨p.toArray⟩, .string ⟨q.toArray⟩]] w fun e w' => e = .returned (.bool true) ∧ Since w w' := by
  have HRX : Hid (∀ X, Since w X → Rd X 4 (.slice A n c) n (fl ptc l)) := fun X h => hr.below h
  clear hr
  go_enter Tryd.func7, Tryd.ntmps7
  go_upto_region 1 with (fail)
  obtain ⟨W0, hW0, hB0, hB1, hB2, hb⟩ := start3 w 48 49 26 [.slice A n c] [.int .i64 s0, .int .i64 s1] [.bool n', .string ⟨p.toArray⟩, .string ⟨q.toArray⟩]
  rw [← hW0]
  clear hW0
  refine jp ?_
  refine ja hB0 Tryd.underlying48 (by rfl) info_cv ?_
  refine jc (.bool true) (fun X hX hF => mo (few13L A n c l X (HRX.out X (hb.trans (Below.mono hX hb.size))) hln hn1) (by rw [h0])) ?_
  refine jm (.bool false) ?_
  refine jm (.bool false) ?_
  refine jn (.pointer (some ⟨(w.heap.size + 2), 1, none⟩)) ?_
  refine jf (st p) hB2 1 load_str ?_
  refine jv (.int .i64 (p.length : Int)) (exec_lens Tryd.underlying9 _ (by rfl) p (by rfl) _ rfl) ?_
  refine jv (.bool false) (exec_gtr _ _ _ _ (by rfl) .i64 (p.length : Int) 20 (by rfl) (by rfl) false (decide_eq_false (by omega))) ?_
  refine jm (.bool false) ?_
  refine jm (.bool false) ?_
  refine jn (.pointer (some ⟨(w.heap.size + 2), 2, none⟩)) ?_
  refine jf (st q) hB2 2 load_str ?_
  refine jv (.int .i64 (q.length : Int)) (exec_lens Tryd.underlying9 _ (by rfl) q (by rfl) _ rfl) ?_
  refine jv (.bool true) (exec_gtr _ _ _ _ (by rfl) .i64 (q.length : Int) 20 (by rfl) (by rfl) true (decide_eq_true (by omega))) ?_
  refine jm (.bool true) ?_
  refine jm (.bool true) ?_
  refine js ?_
  refine js ?_
  refine js ?_
  refine jm (.bool true) ?_
  refine jm (.bool true) ?_
  refine js ?_
  refine js ?_
  refine js ?_
  refine jm (.bool true) ?_
  refine jz fun X1 hX1 => ?_
  have hB0 := hB0.bel hX1
  have hB1 := hB1.bel hX1
  have hB2 := hB2.bel hX1
  have hb := bel_next hb hX1
  clear hX1
  go_upto_region 2 with (fail)
  refine jp ?_
  refine jc (.bool true) (fun X hX hF => sanityC X) ?_
  refine jm (.bool true) ?_
  refine jz fun X2 hX2 => ?_
  have hB0 := hB0.bel hX2
  have hB1 := hB1.bel hX2
  have hB2 := hB2.bel hX2
  have hb := bel_next hb hX2
  clear hX2
  go_wp2
  go_ret
  exact ⟨rfl, hb⟩
theorem mono3 (w : World) (A : Option Addr) (n c : Nat) (l : List Pt) (hr : Rd w 4 (.slice A n c) n (fl ptc l)) (hln : l.length = n) (hn1 : n ≤ 9223372036854775807) (s0 s1 : Int) (n' : Bool) (p q : List UInt8) (h0 : fewB l 8 = true) (hp : p.length ≤ 20) (hq : q.length ≤ 20) (hv : vd n' p q = false) : Calls Tryd.prog 7 #[.agg #[.slice A n c], .agg #[.int .i64 s0, .int .i64 s1], .agg #[.bool n', .string ⟨p.toArray⟩, .string ⟨q.toArray⟩]] w fun e w' => e = .returned (.bool true) ∧ Since w w' := by
  have HRX : Hid (∀ X, Since w X → Rd X 4 (.slice A n c) n (fl ptc l)) := fun X h => hr.below h
  clear hr
  go_enter Tryd.func7, Tryd.ntmps7
  go_upto_region 1 with (fail)
  obtain ⟨W0, hW0, hB0, hB1, hB2, hb⟩ := start3 w 48 49 26 [.slice A n c] [.int .i64 s0, .int .i64 s1] [.bool n', .string ⟨p.toArray⟩, .string ⟨q.toArray⟩]
  rw [← hW0]
  clear hW0
  refine jp ?_
  refine ja hB0 Tryd.underlying48 (by rfl) info_cv ?_
  refine jc (.bool true) (fun X hX hF => mo (few13L A n c l X (HRX.out X (hb.trans (Below.mono hX hb.size))) hln hn1) (by rw [h0])) ?_
  refine jm (.bool false) ?_
  refine jm (.bool false) ?_
  refine jn (.pointer (some ⟨(w.heap.size + 2), 1, none⟩)) ?_
  refine jf (st p) hB2 1 load_str ?_
  refine jv (.int .i64 (p.length : Int)) (exec_lens Tryd.underlying9 _ (by rfl) p (by rfl) _ rfl) ?_
  refine jv (.bool false) (exec_gtr _ _ _ _ (by rfl) .i64 (p.length : Int) 20 (by rfl) (by rfl) false (decide_eq_false (by omega))) ?_
  refine jm (.bool false) ?_
  refine jm (.bool false) ?_
  refine jn (.pointer (some ⟨(w.heap.size + 2), 2, none⟩)) ?_
  refine jf (st q) hB2 2 load_str ?_
  refine jv (.int .i64 (q.length : Int)) (exec_lens Tryd.underlying9 _ (by rfl) q (by rfl) _ rfl) ?_
  refine jv (.bool false) (exec_gtr _ _ _ _ (by rfl) .i64 (q.length : Int) 20 (by rfl) (by rfl) false (decide_eq_false (by omega))) ?_
  refine jm (.bool false) ?_
  refine jm (.bool false) ?_
  refine ja hB2 Tryd.underlying26 (by rfl) info_rat ?_
  refine jc (.bool false) (fun X hX hF => mo (validG n' p q X ⟨by omega, by omega⟩) (by rw [hv])) ?_
  refine jm (.bool true) ?_
  refine jm (.bool true) ?_
  refine jm (.bool true) ?_
  refine js ?_
  refine js ?_
  refine js ?_
  refine jm (.bool true) ?_
  refine jz fun X1 hX1 => ?_
  have hB0 := hB0.bel hX1
  have hB1 := hB1.bel hX1
  have hB2 := hB2.bel hX1
  have hb := bel_next hb hX1
  clear hX1
  go_upto_region 2 with (fail)
  refine jp ?_
  refine jc (.bool true) (fun X hX hF => sanityC X) ?_
  refine jm (.bool true) ?_
  refine jz fun X2 hX2 => ?_
  have hB0 := hB0.bel hX2
  have hB1 := hB1.bel hX2
  have hB2 := hB2.bel hX2
  have hb := bel_next hb hX2
  clear hX2
  go_wp2
  go_ret
  exact ⟨rfl, hb⟩
theorem mono4 (w : World) (A : Option Addr) (n c : Nat) (l : List Pt) (hr : Rd w 4 (.slice A n c) n (fl ptc l)) (hln : l.length = n) (hn1 : n ≤ 9223372036854775807) (s0 s1 : Int) (n' : Bool) (p q : List UInt8) (h0 : fewB l 8 = true) (hp : p.length ≤ 20) (hq : q.length ≤ 20) (hv : vd n' p q = true) (hf : fewP l 1000) (hc : ck l ≠ 0) : Calls Tryd.prog 7 #[.agg #[.slice A n c], .agg #[.int .i64 s0, .int .i64 s1], .agg #[.bool n', .string ⟨p.toArray⟩, .string ⟨q.toArray⟩]] w fun e w' => e = .returned (.bool true) ∧ Since w w' := by
  have HRX : Hid (∀ X, Since w X → Rd X 4 (.slice A n c) n (fl ptc l)) := fun X h => hr.below h
  clear hr
  go_enter Tryd.func7, Tryd.ntmps7
  go_upto_region 1 with (fail)
  obtain ⟨W0, hW0, hB0, hB1, hB2, hb⟩ := start3 w 48 49 26 [.slice A n c] [.int .i64 s0, .int .i64 s1] [.bool n', .string ⟨p.toArray⟩, .string ⟨q.toArray⟩]
  rw [← hW0]
  clear hW0
  refine jp ?_
  refine ja hB0 Tryd.underlying48 (by rfl) info_cv ?_
  refine jc (.bool true) (fun X hX hF => mo (few13L A n c l X (HRX.out X (hb.trans (Below.mono hX hb.size))) hln hn1) (by rw [h0])) ?_
  refine jm (.bool false) ?_
  refine jm (.bool false) ?_
  refine jn (.pointer (some ⟨(w.heap.size + 2), 1, none⟩)) ?_
  refine jf (st p) hB2 1 load_str ?_
  refine jv (.int .i64 (p.length : Int)) (exec_lens Tryd.underlying9 _ (by rfl) p (by rfl) _ rfl) ?_
  refine jv (.bool false) (exec_gtr _ _ _ _ (by rfl) .i64 (p.length : Int) 20 (by rfl) (by rfl) false (decide_eq_false (by omega))) ?_
  refine jm (.bool false) ?_
  refine jm (.bool false) ?_
  refine jn (.pointer (some ⟨(w.heap.size + 2), 2, none⟩)) ?_
  refine jf (st q) hB2 2 load_str ?_
  refine jv (.int .i64 (q.length : Int)) (exec_lens Tryd.underlying9 _ (by rfl) q (by rfl) _ rfl) ?_
  refine jv (.bool false) (exec_gtr _ _ _ _ (by rfl) .i64 (q.length : Int) 20 (by rfl) (by rfl) false (decide_eq_false (by omega))) ?_
  refine jm (.bool false) ?_
  refine jm (.bool false) ?_
  refine ja hB2 Tryd.underlying26 (by rfl) info_rat ?_
  refine jc (.bool true) (fun X hX hF => mo (validG n' p q X ⟨by omega, by omega⟩) (by rw [hv])) ?_
  refine jm (.bool false) ?_
  refine jm (.bool false) ?_
  refine jm (.bool false) ?_
  refine ja hB0 Tryd.underlying48 (by rfl) info_cv ?_
  refine jc (.int .i64 (ck l)) (fun X hX hF => checkC A n c l X (HRX.out X (hb.trans (Below.mono hX hb.size))) hln hn1 hf.mono) ?_
  refine jv (.bool true) (exec_nei _ _ _ _ (by rfl) .i64 (ck l) 0 (by rfl) (by rfl) true (by rw [decide_eq_false (by omega)]; rfl)) ?_
  refine jm (.bool true) ?_
  refine jz fun X1 hX1 => ?_
  have hB0 := hB0.bel hX1
  have hB1 := hB1.bel hX1
  have hB2 := hB2.bel hX1
  have hb := bel_next hb hX1
  clear hX1
  go_upto_region 2 with (fail)
  refine jp ?_
  refine jc (.bool true) (fun X hX hF => sanityC X) ?_
  refine jm (.bool true) ?_
  refine jz fun X2 hX2 => ?_
  have hB0 := hB0.bel hX2
  have hB1 := hB1.bel hX2
  have hB2 := hB2.bel hX2
  have hb := bel_next hb hX2
  clear hX2
  go_wp2
  go_ret
  exact ⟨rfl, hb⟩
theorem monoM (w : World) (b off : Nat) (n c : Nat) (l : List Pt) (hr : Rd w 4 (.slice (some ⟨b, off, none⟩) n c) n (fl ptc l)) (hln : l.length = n) (hn1 : n ≤ 9223372036854775807) (s0 s1 : Int) (n' : Bool) (p q : List UInt8) (HF8 : Hid (fewB l 8 = true)) (hfw : fewP l 8) (hf : fewP l 1000) (hc : ck l = 0) (ht : tz p q 20) (HV : Hid (vd n' p q = true)) (y : Rat) (HY : Hid (rq n' p q = y)) (x : Pt) (HX : Hid (x = pt l (n - 1))) (fx : Rat) (HFX : Hid (rq x.2.1 x.2.2.1 x.2.2.2 = fx)) (fn fm : Rat) (sfn : szR fn 10000) (sfm : szR fm 10000) (HFN : Hid (flowC0 l (-1000 + (lst (l.map kp) y : Int)) = fn)) (HFM : Hid (flowC0 l (-1000 + (lst (l.map kp) y : Int) - 1) = fm)) : Calls Tryd.prog 7 #[.agg #[.slice (some ⟨b, off, none⟩) n c], .agg #[.int .i64 s0, .int .i64 s1], .agg #[.bool n', .string ⟨p.toArray⟩, .string ⟨q.toArray⟩]] w fun e w' => e = .returned (.bool true) ∧ Since w w' := by
  have HRX : Hid (∀ X, Since w X → Rd X 4 (.slice (some ⟨b, off, none⟩) n c) n (fl ptc l)) := fun X h => hr.below h
  clear hr
  have hl16 := len_pt hc
  rw [hln] at hl16
  have HLN := Lib.hid hln
  have hkx : n - 1 < l.length := by omega
  have hp : p.length ≤ 20 := ht.1
  have hq : q.length ≤ 20 := ht.2
  have tx : tz x.2.2.1 x.2.2.2 8 := by rw [HX.out]; exact hfw (n - 1) hkx
  have HVX : Hid (vd x.2.1 x.2.2.1 x.2.2.2 = true) := by show _ = _; rw [HX.out]; exact vd_pt hc hkx
  have hxr : -1000 ≤ x.1 ∧ x.1 ≤ 2000 := by rw [HX.out]; exact rng_pt hc hkx
  have k1 : cmpR (flowC0 l (min s0 s1)) (flowC0 l (max s0 s1)) ≤ 0 := cmpR_le.2 (mono_flow hc (by omega))
  have HNA : Hid (rN (flowC0 l (min s0 s1)) = false) := nn_rN (nn_flow hc _)
  have htop : ∀ s, flowC0 l s ≤ fx := fun s => by
    have h9 := top_flow hc s
    rw [hln, ← HX.out] at h9
    rw [← HFX.out]
    exact h9
  have k2 : cmpR (flowC0 l (max s0 s1)) fx ≤ 0 := cmpR_le.2 (htop _)
  have HAX : Hid (flowC0 l x.1 = fx) := by
    show _ = _
    rw [← HFX.out, HX.out]
    exact at_flow hc hkx
  have hup : flowC0 l 2000 = fx := by
    have h9 := up_flow hc (s := 2000) (by rw [hln, ← HX.out]; omega)
    rw [hln, ← HX.out] at h9
    rw [← HFX.out]
    exact h9
  have hrl := lst_le (l.map kp) y
  obtain ⟨r, hr9⟩ : ∃ r, lst (l.map kp) y = r := ⟨_, rfl⟩
  rw [hr9] at hrl
  have HR := Lib.hid hr9
  have HUP := Lib.hid hup
  rw [hr9] at HFN HFM
  clear hr9 hup
  have LB0 : szR (flowC0 l (min s0 s1)) 10000 := flow0_sz hf (min s0 s1)
  have LB1 : szR (flowC0 l (max s0 s1)) 10000 := flow0_sz hf (max s0 s1)
  have LB2 : szR fn 10000 := sfn
  have LB3 : szR fm 10000 := sfm
  go_enter Tryd.func7, Tryd.ntmps7
  go_upto_region 1 with (fail)
  obtain ⟨W0, hW0, hB0, hB1, hB2, hb⟩ := start3 w 48 49 26 [.slice (some ⟨b, off, none⟩) n c] [.int .i64 s0, .int .i64 s1] [.bool n', .string ⟨p.toArray⟩, .string ⟨q.toArray⟩]
  rw [← hW0]
  clear hW0
  refine jp ?_
  refine ja hB0 Tryd.underlying48 (by rfl) info_cv ?_
  refine jc (.bool true) (fun X hX hF => mo (few13L (some ⟨b, off, none⟩) n c l X (HRX.out X (hb.trans (Below.mono hX hb.size))) hln hn1) (by rw [HF8.out])) ?_
  refine jm (.bool false) ?_
  refine jm (.bool false) ?_
  refine jn (.pointer (some ⟨(w.heap.size + 2), 1, none⟩)) ?_
  refine jf (st p) hB2 1 load_str ?_
  refine jv (.int .i64 (p.length : Int)) (exec_lens Tryd.underlying9 _ (by rfl) p (by rfl) _ rfl) ?_
  refine jv (.bool false) (exec_gtr _ _ _ _ (by rfl) .i64 (p.length : Int) 20 (by rfl) (by rfl) false (decide_eq_false (by omega))) ?_
  refine jm (.bool false) ?_
  refine jm (.bool false) ?_
  refine jn (.pointer (some ⟨(w.heap.size + 2), 2, none⟩)) ?_
  refine jf (st q) hB2 2 load_str ?_
  refine jv (.int .i64 (q.length : Int)) (exec_lens Tryd.underlying9 _ (by rfl) q (by rfl) _ rfl) ?_
  refine jv (.bool false) (exec_gtr _ _ _ _ (by rfl) .i64 (q.length : Int) 20 (by rfl) (by rfl) false (decide_eq_false (by omega))) ?_
  refine jm (.bool false) ?_
  refine jm (.bool false) ?_
  refine ja hB2 Tryd.underlying26 (by rfl) info_rat ?_
  refine jc (.bool true) (fun X hX hF => mo (validG n' p q X (ht.mono (by omega))) (by rw [HV.out])) ?_
  refine jm (.bool false) ?_
  refine jm (.bool false) ?_
  refine jm (.bool false) ?_
  refine ja hB0 Tryd.underlying48 (by rfl) info_cv ?_
  refine jc (.int .i64 0) (fun X hX hF => mo (checkC (some ⟨b, off, none⟩) n c l X (HRX.out X (hb.trans (Below.mono hX hb.size))) hln hn1 hf.mono) (by rw [hc])) ?_
  refine jv (.bool false) (exec_nei _ _ _ _ (by rfl) .i64 0 0 (by rfl) (by rfl) false (by rw [decide_eq_true (by omega)]; rfl)) ?_
  refine jm (.bool false) ?_
  refine jz fun X1 hX1 => ?_
  have hB0 := hB0.bel hX1
  have hB1 := hB1.bel hX1
  have hB2 := hB2.bel hX1
  have hb := bel_next hb hX1
  clear hX1
  go_upto_region 3 with (fail)
  refine lh_region (fun i => if i = 14 then ⟨26, [.bool false, .string ⟨#[]⟩, .string ⟨#[]⟩], [.bool (rN (flowC0 l (min s0 s1))), .string ⟨(rP (flowC0 l (min s0 s1))).toArray⟩, .string ⟨(rD (flowC0 l (min s0 s1))).toArray⟩]⟩ else if i = 15 then ⟨26, [.bool false, .string ⟨#[]⟩, .string ⟨#[]⟩], [.bool (rN (flowC0 l (max s0 s1))), .string ⟨(rP (flowC0 l (max s0 s1))).toArray⟩, .string ⟨(rD (flowC0 l (max s0 s1))).toArray⟩]⟩ else ⟨0, [], []⟩) [none, none, none, none, none, none, none, none, none, none, none, none, none, none, some (Gat _ _ 14), some (Gat _ _ 15), some (fun u X => Gst _ 14 undef X), some (fun u X => Gst _ 15 undef X)] (by kernel_rfl) (by kernel_rfl) (lh_none (lh_none (lh_none (lh_none (lh_none (lh_none (lh_none (lh_none (lh_none (lh_none (lh_none (lh_none (lh_none (lh_none (lh_some (Gat.lasts) (lh_some (Gat.lasts) (lh_some ((fun _ _ _ h hR => Gst.lasts _ _ _ h hR)) (lh_some ((fun _ _ _ h hR => Gst.lasts _ _ _ h hR)) (lh_nil))))))))))))))))))) ?_
  simp only [iG, Nat.reduceAdd]
  refine ka hB0 Tryd.underlying48 (by rfl) info_cv ?_
  refine kn (.pointer (some ⟨(w.heap.size + 1), 0, none⟩)) ?_
  refine kf (.int .i64 s0) hB1 0 load_int ?_
  refine kn (.pointer (some ⟨(w.heap.size + 1), 1, none⟩)) ?_
  refine kf (.int .i64 s1) hB1 1 load_int ?_
  refine kv (.int .i64 (min s0 s1)) (exec_min _ _ (by rfl) .i64 s0 s1 (min s0 s1) (by rfl) (by rfl) (by omega)) ?_
  refine kc (rt (rN (flowC0 l (min s0 s1))) (rP (flowC0 l (min s0 s1))) (rD (flowC0 l (min s0 s1)))) (fun X hX hF => flowC (some ⟨b, off, none⟩) n c l (min s0 s1) X (HRX.out X (hb.trans (Below.mono hX hb.size))) hln hn1 hf) ?_
  refine ka hB0 Tryd.underlying48 (by rfl) info_cv ?_
  refine kn (.pointer (some ⟨(w.heap.size + 1), 0, none⟩)) ?_
  refine kf (.int .i64 s0) hB1 0 load_int ?_
  refine kn (.pointer (some ⟨(w.heap.size + 1), 1, none⟩)) ?_
  refine kf (.int .i64 s1) hB1 1 load_int ?_
  refine kv (.int .i64 (max s0 s1)) (exec_max _ _ (by rfl) .i64 s0 s1 (max s0 s1) (by rfl) (by rfl) (by omega)) ?_
  refine kc (rt (rN (flowC0 l (max s0 s1))) (rP (flowC0 l (max s0 s1))) (rD (flowC0 l (max s0 s1)))) (fun X hX hF => flowC (some ⟨b, off, none⟩) n c l (max s0 s1) X (HRX.out X (hb.trans (Below.mono hX hb.size))) hln hn1 hf) ?_
  refine kl (fun X => exec_alloc_rat (by rfl) X) ?_
  intro v7
  refine kl (fun X => exec_alloc_rat (by rfl) X) ?_
  intro v8
  refine kt 14 14 v7 (List.mem_cons_of_mem _ List.mem_cons_self) info_rat ?_
  refine kt 15 15 v8 (List.mem_cons_of_mem _ List.mem_cons_self) info_rat ?_
  refine kz ?_
  intro X2 s9 hX2 hF
  obtain ⟨g7, e7, hge7, hD7, tg7⟩ := Gst.at (hF _ _ (List.mem_cons_of_mem _ (List.mem_cons_of_mem _ (List.mem_cons_of_mem _ List.mem_cons_self)))) (hF _ _ (List.mem_cons_of_mem _ List.mem_cons_self))
  subst e7
  obtain ⟨g8, e8, hge8, hD8, tg8⟩ := Gst.at (hF _ _ (List.mem_cons_of_mem _ (List.mem_cons_of_mem _ List.mem_cons_self))) (hF _ _ List.mem_cons_self)
  subst e8
  have hne7_8 := gh_ne tg7 tg8 (by decide)
  have hB0 := hB0.bel hX2
  have hB1 := hB1.bel hX2
  have hB2 := hB2.bel hX2
  have hgs7 := hge7
  have hgs8 := hge8
  have hb := bel_next hb hX2
  clear hF tg7 tg8 s9 hX2
  change Blk X2 g7 26 [.bool (rN (flowC0 l (min s0 s1))), .string ⟨(rP (flowC0 l (min s0 s1))).toArray⟩, .string ⟨(rD (flowC0 l (min s0 s1))).toArray⟩] at hD7
  change Blk X2 g8 26 [.bool (rN (flowC0 l (max s0 s1))), .string ⟨(rP (flowC0 l (max s0 s1))).toArray⟩, .string ⟨(rD (flowC0 l (max s0 s1))).toArray⟩] at hD8
  obtain ⟨hbb, hcx⟩ := (HRX.out _ hb).ptIn HLN.out (show n - 1 < n by omega)
  rw [← HX.out] at hcx
  go_upto_region 4 with (fail)
  refine jq 8 ?_
  refine jn (.pointer (some ⟨w.heap.size, 0, none⟩)) ?_
  refine jf (.slice (some ⟨b, off, none⟩) n c) hB0 0 load_pts ?_
  refine jn (.pointer (some ⟨w.heap.size, 0, none⟩)) ?_
  refine jf (.slice (some ⟨b, off, none⟩) n c) hB0 0 load_pts ?_
  refine jv (.int .i64 (n : Int)) (exec_lenv Tryd.underlying46 _ (by rfl) (some ⟨b, off, none⟩) n c (by rfl) _ rfl) ?_
  refine jv (.int .i64 ((n - 1 : Nat) : Int)) (exec_sub _ _ _ _ (by rfl) (n : Int) 1 ((n - 1 : Nat) : Int) (by rfl) (by rfl) (by omega) (by omega) (by omega)) ?_
  refine jv (.pointer (some ⟨b, off + (n - 1) * 4, none⟩)) (exec_ixv Tryd.underlying46 info_pt _ _ (by rfl) b (off) n c (n - 1) (by omega) (by rfl) (by rfl) rfl) ?_
  refine jg (.agg #[.int .i64 x.1, .bool x.2.1, st x.2.2.1, st x.2.2.2]) (fun X hX hF => exec_ldc 54 _ (by rfl) b (off + (n - 1) * 4) (by rfl) Tryd.underlying54 rfl [.int .i64 x.1, .bool x.2.1, .string ⟨x.2.2.1.toArray⟩, .string ⟨x.2.2.2.toArray⟩] X (Cl.part (hcx.below hX hbb) 0 _ (by rfl)) info_pt) ?_
  refine jz fun X3 hX3 => ?_
  have hB0 := hB0.bel hX3
  have hB1 := hB1.bel hX3
  have hB2 := hB2.bel hX3
  have hD7 := hD7.bel hX3
  have hD8 := hD8.bel hX3
  have hcx := hcx.below hX3 hbb
  replace hbb := Nat.lt_of_lt_of_le hbb (hX3).size
  have hb := bel_next hb hX3
  clear hX3
  go_upto_region 5 with (refine osn 54 9 59 #[.int .i64 x.1, .bool x.2.1, .string ⟨x.2.2.1.toArray⟩, .string ⟨x.2.2.2.toArray⟩] info_pt ?_)
  obtain ⟨Y3, hY9, hD9, hS9⟩ := start1 X3 54 [.int .i64 x.1, .bool x.2.1, .string ⟨x.2.2.1.toArray⟩, .string ⟨x.2.2.2.toArray⟩]
  rw [← hY9]
  clear hY9
  have hgs9 := hb.size
  have hlt9x0 := hB0.lt
  have hlt9x1 := hB1.lt
  have hlt9x2 := hB2.lt
  have hlt9x3 := hD7.lt
  have hlt9x4 := hD8.lt
  have hcx := hcx.below hS9 hbb
  replace hbb := Nat.lt_of_lt_of_le hbb (hS9).size
  have hB0 := hB0.bel hS9
  have hB1 := hB1.bel hS9
  have hB2 := hB2.bel hS9
  have hD7 := hD7.bel hS9
  have hD8 := hD8.bel hS9
  have hb := bel_next hb hS9
  clear hS9
  generalize X3.heap.size = g9 at *
  refine jd ?_
  refine ja hD7 Tryd.underlying26 (by rfl) info_rat ?_
  refine ja hD8 Tryd.underlying26 (by rfl) info_rat ?_
  refine jc (.int .i64 (cmpR (flowC0 l (min s0 s1)) (flowC0 l (max s0 s1)))) (fun X hX hF => rcmpG (rN (flowC0 l (min s0 s1))) (rP (flowC0 l (min s0 s1))) (rD (flowC0 l (min s0 s1))) (rN (flowC0 l (max s0 s1))) (rP (flowC0 l (max s0 s1))) (rD (flowC0 l (max s0 s1))) (rq_rb (flowC0 l (min s0 s1))) (rq_rb (flowC0 l (max s0 s1))) X (tzR LB0 (by omega)) (tzR LB1 (by omega))) ?_
  refine jv (.bool false) (exec_gtr _ _ _ _ (by rfl) .i64 (cmpR (flowC0 l (min s0 s1)) (flowC0 l (max s0 s1))) 0 (by rfl) (by rfl) false (decide_eq_false (by omega))) ?_
  refine jm (.bool false) ?_
  refine jn (.pointer (some ⟨g7, 0, none⟩)) ?_
  refine jg (.bool false) (fun X hX hF => exec_ld 4 _ (by rfl) g7 0 (by rfl) (.bool false) X (by rw [← HNA.out]; exact (hD7.bel hX).cell (j := 0) rfl) (fun X u h => load_bool g7 0 X u h)) ?_
  refine jm (.bool false) ?_
  refine jm (.bool false) ?_
  refine ja hD8 Tryd.underlying26 (by rfl) info_rat ?_
  refine jn (.pointer (some ⟨g9, 1, none⟩)) ?_
  refine jg (.agg #[.bool x.2.1, st x.2.2.1, st x.2.2.2]) (fun X hX hF => exec_inr 26 _ (by rfl) g9 1 [.bool x.2.1, .string ⟨x.2.2.1.toArray⟩, .string ⟨x.2.2.2.toArray⟩] (by rfl) Tryd.underlying26 rfl X (hD9.bel hX) (by rfl) info_rat) ?_
  refine jc (.int .i64 (cmpR (flowC0 l (max s0 s1)) fx)) (fun X hX hF => rcmpG (rN (flowC0 l (max s0 s1))) (rP (flowC0 l (max s0 s1))) (rD (flowC0 l (max s0 s1))) x.2.1 x.2.2.1 x.2.2.2 (rq_rb (flowC0 l (max s0 s1))) HFX.out X (tzR LB1 (by omega)) (tx.mono (by omega))) ?_
  refine jv (.bool false) (exec_gtr _ _ _ _ (by rfl) .i64 (cmpR (flowC0 l (max s0 s1)) fx) 0 (by rfl) (by rfl) false (decide_eq_false (by omega))) ?_
  refine jm (.bool false) ?_
  refine jm (.bool false) ?_
  refine ja hB0 Tryd.underlying48 (by rfl) info_cv ?_
  refine jn (.pointer (some ⟨g9, 0, none⟩)) ?_
  refine jf (.int .i64 x.1) hD9 0 load_int ?_
  refine jc (rt (rN fx) (rP fx) (rD fx)) (fun X hX hF => mo (flowC (some ⟨b, off, none⟩) n c l x.1 X (HRX.out X (hb.trans (Below.mono hX hb.size))) hln hn1 hf) (by rw [HAX.out])) ?_
  refine jn (.pointer (some ⟨g9, 1, none⟩)) ?_
  refine jg (.agg #[.bool x.2.1, st x.2.2.1, st x.2.2.2]) (fun X hX hF => exec_inr 26 _ (by rfl) g9 1 [.bool x.2.1, .string ⟨x.2.2.1.toArray⟩, .string ⟨x.2.2.2.toArray⟩] (by rfl) Tryd.underlying26 rfl X (hD9.bel hX) (by rfl) info_rat) ?_
  refine jv (.bool false) (exec_ner _ _ (by rfl) (rN fx) (rP fx) (rD fx) x.2.1 x.2.2.1 x.2.2.2 (by rfl) (by rfl) false (rb_lit HVX.out HFX.out)) ?_
  refine jm (.bool false) ?_
  refine jz fun X4 hX4 => ?_
  have hB0 := hB0.bel hX4
  have hB1 := hB1.bel hX4
  have hB2 := hB2.bel hX4
  have hD7 := hD7.bel hX4
  have hD8 := hD8.bel hX4
  have hD9 := hD9.bel hX4
  have hb := bel_next hb hX4
  clear hX4
  rcases Nat.lt_or_ge r 3001 with hr1 | hr1
  · have HLE := Lib.hid (le_ok hc HR.out hr1)
    have k3 : 0 ≤ cmpR fn y := by rw [← HFN.out]; exact cmpR_ge.2 (ls_at hc HR.out hr1)
    rcases Nat.eq_zero_or_pos r with hr0 | hr0
    · go_upto_region 7 with (fail)
      refine jp ?_
      refine ja hB0 Tryd.underlying48 (by rfl) info_cv ?_
      refine ja hB2 Tryd.underlying26 (by rfl) info_rat ?_
      refine jc (.tuple #[.int .i64 (-1000 + (r : Int)), .int .i64 0]) (fun X hX hF => mo (leastC (some ⟨b, off, none⟩) n c l n' p q HY.out (ht.mono (by omega)) X (HRX.out X (hb.trans (Below.mono hX hb.size))) hln hn1 hf) (by rw [HV.out, HLE.out.1, HLE.out.2])) ?_
      refine jm (.tuple #[.int .i64 (-1000 + (r : Int)), .int .i64 0]) ?_
      refine jm (.int .i64 (-1000 + (r : Int))) ?_
      refine jm (.int .i64 0) ?_
      refine jm (.int .i64 (-1000 + (r : Int))) ?_
      refine jm (.int .i64 0) ?_
      refine jz fun X5 hX5 => ?_
      have hB0 := hB0.bel hX5
      have hB1 := hB1.bel hX5
      have hB2 := hB2.bel hX5
      have hD7 := hD7.bel hX5
      have hD8 := hD8.bel hX5
      have hD9 := hD9.bel hX5
      have hb := bel_next hb hX5
      clear hX5
      go_upto_region 8 with (fail)
      refine jp ?_
      refine jm (.int .i64 0) ?_
      refine jv (.bool false) (exec_nei _ _ _ _ (by rfl) .i64 0 0 (by rfl) (by rfl) false (by rw [decide_eq_true (by omega)]; rfl)) ?_
      refine jz fun X6 hX6 => ?_
      have hB0 := hB0.bel hX6
      have hB1 := hB1.bel hX6
      have hB2 := hB2.bel hX6
      have hD7 := hD7.bel hX6
      have hD8 := hD8.bel hX6
      have hD9 := hD9.bel hX6
      have hb := bel_next hb hX6
      clear hX6
      go_upto_region 10 with (fail)
      refine jd ?_
      refine jc (.bool true) (fun X hX hF => sanityC X) ?_
      refine jm (.bool true) ?_
      refine jm (.int .i64 (-1000 + (r : Int))) ?_
      refine jv (.bool true) (exec_geq _ _ _ _ (by rfl) .i64 (-1000 + (r : Int)) (-1000) (by rfl) (by rfl) true (decide_eq_true (by omega))) ?_
      refine jm (.bool true) ?_
      refine jm (.bool true) ?_
      refine jm (.int .i64 (-1000 + (r : Int))) ?_
      refine jv (.bool true) (exec_leq _ _ _ _ (by rfl) .i64 (-1000 + (r : Int)) 2000 (by rfl) (by rfl) true (decide_eq_true (by omega))) ?_
      refine jm (.bool true) ?_
      refine jm (.bool true) ?_
      refine ja hB0 Tryd.underlying48 (by rfl) info_cv ?_
      refine jm (.int .i64 (-1000 + (r : Int))) ?_
      refine jc (rt (rN fn) (rP fn) (rD fn)) (fun X hX hF => mo (flowC (some ⟨b, off, none⟩) n c l (-1000 + (r : Int)) X (HRX.out X (hb.trans (Below.mono hX hb.size))) hln hn1 hf) (by rw [HFN.out])) ?_
      refine ja hB2 Tryd.underlying26 (by rfl) info_rat ?_
      refine jc (.int .i64 (cmpR fn y)) (fun X hX hF => rcmpG (rN fn) (rP fn) (rD fn) n' p q (rq_rb fn) HY.out X (tzR LB2 (by omega)) (ht.mono (by omega))) ?_
      refine jv (.bool true) (exec_geq _ _ _ _ (by rfl) .i64 (cmpR fn y) 0 (by rfl) (by rfl) true (decide_eq_true (by omega))) ?_
      refine jm (.bool true) ?_
      refine jm (.bool true) ?_
      refine jm (.int .i64 (-1000 + (r : Int))) ?_
      refine jv (.bool true) (exec_eqi _ _ _ _ (by rfl) .i64 (-1000 + (r : Int)) (-1000) (by rfl) (by rfl) true (decide_eq_true (by omega))) ?_
      refine jm (.bool true) ?_
      refine js ?_
      refine js ?_
      refine js ?_
      refine js ?_
      refine js ?_
      refine js ?_
      refine js ?_
      refine jm (.bool true) ?_
      refine jm (.bool true) ?_
      refine jm (.bool true) ?_
      refine jz fun X7 hX7 => ?_
      have hB0 := hB0.bel hX7
      have hB1 := hB1.bel hX7
      have hB2 := hB2.bel hX7
      have hD7 := hD7.bel hX7
      have hD8 := hD8.bel hX7
      have hD9 := hD9.bel hX7
      have hb := bel_next hb hX7
      clear hX7
      go_wp2
      go_ret
      exact ⟨rfl, hb⟩
    · have k4 : cmpR fm y < 0 := by
        rw [← HFM.out]
        have h9 := ls_low hc HR.out (show r - 1 < r by omega)
        rw [show -1000 + ((r - 1 : Nat) : Int) = -1000 + (r : Int) - 1 by omega] at h9
        have h8 := cmpR_lt.2 h9
        omega
      go_upto_region 7 with (fail)
      refine jp ?_
      refine ja hB0 Tryd.underlying48 (by rfl) info_cv ?_
      refine ja hB2 Tryd.underlying26 (by rfl) info_rat ?_
      refine jc (.tuple #[.int .i64 (-1000 + (r : Int)), .int .i64 0]) (fun X hX hF => mo (leastC (some ⟨b, off, none⟩) n c l n' p q HY.out (ht.mono (by omega)) X (HRX.out X (hb.trans (Below.mono hX hb.size))) hln hn1 hf) (by rw [HV.out, HLE.out.1, HLE.out.2])) ?_
      refine jm (.tuple #[.int .i64 (-1000 + (r : Int)), .int .i64 0]) ?_
      refine jm (.int .i64 (-1000 + (r : Int))) ?_
      refine jm (.int .i64 0) ?_
      refine jm (.int .i64 (-1000 + (r : Int))) ?_
      refine jm (.int .i64 0) ?_
      refine jz fun X5 hX5 => ?_
      have hB0 := hB0.bel hX5
      have hB1 := hB1.bel hX5
      have hB2 := hB2.bel hX5
      have hD7 := hD7.bel hX5
      have hD8 := hD8.bel hX5
      have hD9 := hD9.bel hX5
      have hb := bel_next hb hX5
      clear hX5
      go_upto_region 8 with (fail)
      refine jp ?_
      refine jm (.int .i64 0) ?_
      refine jv (.bool false) (exec_nei _ _ _ _ (by rfl) .i64 0 0 (by rfl) (by rfl) false (by rw [decide_eq_true (by omega)]; rfl)) ?_
      refine jz fun X6 hX6 => ?_
      have hB0 := hB0.bel hX6
      have hB1 := hB1.bel hX6
      have hB2 := hB2.bel hX6
      have hD7 := hD7.bel hX6
      have hD8 := hD8.bel hX6
      have hD9 := hD9.bel hX6
      have hb := bel_next hb hX6
      clear hX6
      go_upto_region 10 with (fail)
      refine jd ?_
      refine jc (.bool true) (fun X hX hF => sanityC X) ?_
      refine jm (.bool true) ?_
      refine jm (.int .i64 (-1000 + (r : Int))) ?_
      refine jv (.bool true) (exec_geq _ _ _ _ (by rfl) .i64 (-1000 + (r : Int)) (-1000) (by rfl) (by rfl) true (decide_eq_true (by omega))) ?_
      refine jm (.bool true) ?_
      refine jm (.bool true) ?_
      refine jm (.int .i64 (-1000 + (r : Int))) ?_
      refine jv (.bool true) (exec_leq _ _ _ _ (by rfl) .i64 (-1000 + (r : Int)) 2000 (by rfl) (by rfl) true (decide_eq_true (by omega))) ?_
      refine jm (.bool true) ?_
      refine jm (.bool true) ?_
      refine ja hB0 Tryd.underlying48 (by rfl) info_cv ?_
      refine jm (.int .i64 (-1000 + (r : Int))) ?_
      refine jc (rt (rN fn) (rP fn) (rD fn)) (fun X hX hF => mo (flowC (some ⟨b, off, none⟩) n c l (-1000 + (r : Int)) X (HRX.out X (hb.trans (Below.mono hX hb.size))) hln hn1 hf) (by rw [HFN.out])) ?_
      refine ja hB2 Tryd.underlying26 (by rfl) info_rat ?_
      refine jc (.int .i64 (cmpR fn y)) (fun X hX hF => rcmpG (rN fn) (rP fn) (rD fn) n' p q (rq_rb fn) HY.out X (tzR LB2 (by omega)) (ht.mono (by omega))) ?_
      refine jv (.bool true) (exec_geq _ _ _ _ (by rfl) .i64 (cmpR fn y) 0 (by rfl) (by rfl) true (decide_eq_true (by omega))) ?_
      refine jm (.bool true) ?_
      refine jm (.bool true) ?_
      refine jm (.int .i64 (-1000 + (r : Int))) ?_
      refine jv (.bool false) (exec_eqi _ _ _ _ (by rfl) .i64 (-1000 + (r : Int)) (-1000) (by rfl) (by rfl) false (decide_eq_false (by omega))) ?_
      refine jm (.bool false) ?_
      refine ja hB0 Tryd.underlying48 (by rfl) info_cv ?_
      refine jm (.int .i64 (-1000 + (r : Int))) ?_
      refine jv (.int .i64 (-1000 + (r : Int) - 1)) (exec_sub _ _ _ _ (by rfl) (-1000 + (r : Int)) 1 (-1000 + (r : Int) - 1) (by rfl) (by rfl) (by omega) (by omega) (by omega)) ?_
      refine jc (rt (rN fm) (rP fm) (rD fm)) (fun X hX hF => mo (flowC (some ⟨b, off, none⟩) n c l (-1000 + (r : Int) - 1) X (HRX.out X (hb.trans (Below.mono hX hb.size))) hln hn1 hf) (by rw [HFM.out])) ?_
      refine ja hB2 Tryd.underlying26 (by rfl) info_rat ?_
      refine jc (.int .i64 (cmpR fm y)) (fun X hX hF => rcmpG (rN fm) (rP fm) (rD fm) n' p q (rq_rb fm) HY.out X (tzR LB3 (by omega)) (ht.mono (by omega))) ?_
      refine jv (.bool true) (exec_lss _ _ _ _ (by rfl) .i64 (cmpR fm y) 0 (by rfl) (by rfl) true (decide_eq_true (by omega))) ?_
      refine jm (.bool true) ?_
      refine jm (.bool true) ?_
      refine jm (.bool true) ?_
      refine jz fun X7 hX7 => ?_
      have hB0 := hB0.bel hX7
      have hB1 := hB1.bel hX7
      have hB2 := hB2.bel hX7
      have hD7 := hD7.bel hX7
      have hD8 := hD8.bel hX7
      have hD9 := hD9.bel hX7
      have hb := bel_next hb hX7
      clear hX7
      go_wp2
      go_ret
      exact ⟨rfl, hb⟩
  · have HLE := Lib.hid (le_no hc HR.out (by omega))
    have k3 : cmpR fx y < 0 := by
      rw [← HUP.out]
      have h9 := ls_low hc HR.out (k := 3000) (by omega)
      rw [show -1000 + ((3000 : Nat) : Int) = 2000 from rfl] at h9
      have h8 := cmpR_lt.2 h9
      omega
    go_upto_region 7 with (fail)
    refine jp ?_
    refine ja hB0 Tryd.underlying48 (by rfl) info_cv ?_
    refine ja hB2 Tryd.underlying26 (by rfl) info_rat ?_
    refine jc (.tuple #[.int .i64 0, .int .i64 8]) (fun X hX hF => mo (leastC (some ⟨b, off, none⟩) n c l n' p q HY.out (ht.mono (by omega)) X (HRX.out X (hb.trans (Below.mono hX hb.size))) hln hn1 hf) (by rw [HV.out, HLE.out.1, HLE.out.2])) ?_
    refine jm (.tuple #[.int .i64 0, .int .i64 8]) ?_
    refine jm (.int .i64 0) ?_
    refine jm (.int .i64 8) ?_
    refine jm (.int .i64 0) ?_
    refine jm (.int .i64 8) ?_
    refine jz fun X5 hX5 => ?_
    have hB0 := hB0.bel hX5
    have hB1 := hB1.bel hX5
    have hB2 := hB2.bel hX5
    have hD7 := hD7.bel hX5
    have hD8 := hD8.bel hX5
    have hD9 := hD9.bel hX5
    have hb := bel_next hb hX5
    clear hX5
    go_upto_region 8 with (fail)
    refine jp ?_
    refine jm (.int .i64 8) ?_
    refine jv (.bool true) (exec_nei _ _ _ _ (by rfl) .i64 8 0 (by rfl) (by rfl) true (by rw [decide_eq_false (by omega)]; rfl)) ?_
    refine jz fun X6 hX6 => ?_
    have hB0 := hB0.bel hX6
    have hB1 := hB1.bel hX6
    have hB2 := hB2.bel hX6
    have hD7 := hD7.bel hX6
    have hD8 := hD8.bel hX6
    have hD9 := hD9.bel hX6
    have hb := bel_next hb hX6
    clear hX6
    go_upto_region 9 with (fail)
    refine jp ?_
    refine jc (.bool true) (fun X hX hF => sanityC X) ?_
    refine jm (.bool true) ?_
    refine jm (.int .i64 8) ?_
    refine jv (.bool true) (exec_eqi _ _ _ _ (by rfl) .i64 8 8 (by rfl) (by rfl) true (decide_eq_true (by omega))) ?_
    refine jm (.bool true) ?_
    refine jm (.bool true) ?_
    refine jn (.pointer (some ⟨g9, 1, none⟩)) ?_
    refine jg (.agg #[.bool x.2.1, st x.2.2.1, st x.2.2.2]) (fun X hX hF => exec_inr 26 _ (by rfl) g9 1 [.bool x.2.1, .string ⟨x.2.2.1.toArray⟩, .string ⟨x.2.2.2.toArray⟩] (by rfl) Tryd.underlying26 rfl X (hD9.bel hX) (by rfl) info_rat) ?_
    refine ja hB2 Tryd.underlying26 (by rfl) info_rat ?_
    refine jc (.int .i64 (cmpR fx y)) (fun X hX hF => rcmpG x.2.1 x.2.2.1 x.2.2.2 n' p q HFX.out HY.out X (tx.mono (by omega)) (ht.mono (by omega))) ?_
    refine jv (.bool true) (exec_lss _ _ _ _ (by rfl) .i64 (cmpR fx y) 0 (by rfl) (by rfl) true (decide_eq_true (by omega))) ?_
    refine jm (.bool true) ?_
    refine jm (.bool true) ?_
    refine jz fun X7 hX7 => ?_
    have hB0 := hB0.bel hX7
    have hB1 := hB1.bel hX7
    have hB2 := hB2.bel hX7
    have hD7 := hD7.bel hX7
    have hD8 := hD8.bel hX7
    have hD9 := hD9.bel hX7
    have hb := bel_next hb hX7
    clear hX7
    go_wp2
    go_ret
    exact ⟨rfl, hb⟩
theorem monoW (w : World) (A : Option Addr) (n c : Nat) (l : List Pt) (hr : Rd w 4 (.slice A n c) n (fl ptc l)) (hln : l.length = n) (hn1 : n ≤ 9223372036854775807) (s0 s1 : Int) (n' : Bool) (p q : List UInt8) : Calls Tryd.prog 7 #[.agg #[.slice A n c], .agg #[.int .i64 s0, .int .i64 s1], .agg #[.bool n', .string ⟨p.toArray⟩, .string ⟨q.toArray⟩]] w fun e w' => e = .returned (.bool true) ∧ Since w w' := by
  rcases h0 : fewB l 8 with _ | _
  · exact mono0 w A n c l hr hln hn1 s0 s1 n' p q h0
  · have hfw := (fewB_of h0).2
    have hf : fewP l 1000 := hfw.mono
    rcases Nat.lt_or_ge 20 p.length with hp | hp
    · exact mono1 w A n c l hr hln hn1 s0 s1 n' p q h0 hp
    · rcases Nat.lt_or_ge 20 q.length with hq | hq
      · exact mono2 w A n c l hr hln hn1 s0 s1 n' p q h0 hp hq
      · rcases hv : vd n' p q with _ | _
        · exact mono3 w A n c l hr hln hn1 s0 s1 n' p q h0 hp hq hv
        · by_cases hc : ck l = 0
          · obtain ⟨b, off, rfl⟩ := some_addr hr hln hc
            exact monoM w b off n c l hr hln hn1 s0 s1 n' p q h0 hfw hf hc ⟨hp, hq⟩ hv _ rfl _ rfl _ rfl _ _ (flow0_sz hf _) (flow0_sz hf _) rfl rfl
          · exact mono4 w A n c l hr hln hn1 s0 s1 n' p q h0 hp hq hv hf hc
end Go.Proofs.YtchhlgcakjjncaaDoor
