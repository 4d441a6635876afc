/-
  law 13: CurveShifts.
-/
import Derived.Test.YtchhlgcakjjncaaDoorLm2
set_option linter.unusedSimpArgs false
set_option linter.unusedVariables false
set_option maxRecDepth 100000
set_option maxHeartbeats 1600000
namespace Go.Proofs.YtchhlgcakjjncaaDoor
open Go.RowKit
theorem scL_bad {l : List Pt} {t : Tr} (h : ck l = 0) (ht : posB t = false) : scE l t = 1 ∧ scL l t = [] := by
  unfold scE scL
  rw [if_neg (fun h9 => h9 h), if_pos ht, if_neg (fun h9 => by rw [ht] at h9; exact absurd h9.2 (by decide))]
  exact ⟨rfl, rfl⟩
theorem load_i16 (b k : Nat) (X : World) (v : Value) (h : X.cell? ⟨b, k, none⟩ = some v) : (loadVar 61 ⟨b, k, none⟩).run Tryd.prog X = .ok v X := by
  go_simp
theorem shfs0 (w : World) (A : Option Addr) (n c : Nat) (l : List Pt) (hr : Rd w 4 (.slice A n c) n (fl ptc l)) (hln : l.length = n) (hn1 : n ≤ 9223372036854775807) (d : Int) (n' : Bool) (p q : List UInt8) (d0 : -9223372036854775808 ≤ d) (d1 : d ≤ 9223372036854775807) (s t : Int) (s0 : -32768 ≤ s) (s1 : s ≤ 32767) (e0 : -32768 ≤ t) (e1 : t ≤ 32767) (h0 : fewB l 8 = false) : Calls Tryd.prog 9 #[.agg #[.slice A n c], .agg #[.int .i64 d, .bool n', .string ⟨p.toArray⟩, .string ⟨q.toArray⟩], .agg #[.int .i16 s, .int .i16 t]] w fun e w' => e = .returned (.bool true) ∧ Since w w' := by
  have HRX : Hid (∀ X, Since w X → Rd X 4 (.slice A n c) n (fl ptc l)) := fun X h => hr.below h
  clear hr
  go_enter Tryd.func9, Tryd.ntmps9
  go_upto_region 1 with (fail)
  obtain ⟨W0, hW0, hB0, hB1, hB2, hb⟩ := start3 w 48 60 62 [.slice A n c] [.int .i64 d, .bool n', .string ⟨p.toArray⟩, .string ⟨q.toArray⟩] [.int .i16 s, .int .i16 t]
  rw [← hW0]
  clear hW0
  refine jp ?_
  refine ja hB0 Tryd.underlying48 (by rfl) info_cv ?_
  refine jc (.bool false) (fun X hX hF => mo (few13L A n c l X (HRX.out X (hb.trans (Below.mono hX hb.size))) hln hn1) (by rw [h0])) ?_
  refine jm (.bool true) ?_
  refine jm (.bool true) ?_
  refine js ?_
  refine js ?_
  refine js ?_
  refine js ?_
  refine js ?_
  refine jm (.bool true) ?_
  refine jm (.bool true) ?_
  refine js ?_
  refine js ?_
  refine js ?_
  refine js ?_
  refine js ?_
  refine jm (.bool true) ?_
  refine jm (.bool true) ?_
  refine js ?_
  refine js ?_
  refine js ?_
  refine jm (.bool true) ?_
  refine jz fun X1 hX1 => ?_
  have hB0 := hB0.bel hX1
  have hB1 := hB1.bel hX1
  have hB2 := hB2.bel hX1
  have hb := bel_next hb hX1
  clear hX1
  go_upto_region 2 with (fail)
  refine jp ?_
  refine jc (.bool true) (fun X hX hF => sanityC X) ?_
  refine jm (.bool true) ?_
  refine jz fun X2 hX2 => ?_
  have hB0 := hB0.bel hX2
  have hB1 := hB1.bel hX2
  have hB2 := hB2.bel hX2
  have hb := bel_next hb hX2
  clear hX2
  go_wp2
  go_ret
  exact ⟨rfl, hb⟩
theorem shfs1 (w : World) (A : Option Addr) (n c : Nat) (l : List Pt) (hr : Rd w 4 (.slice A n c) n (fl ptc l)) (hln : l.length = n) (hn1 : n ≤ 9223372036854775807) (d : Int) (n' : Bool) (p q : List UInt8) (d0 : -9223372036854775808 ≤ d) (d1 : d ≤ 9223372036854775807) (s t : Int) (s0 : -32768 ≤ s) (s1 : s ≤ 32767) (e0 : -32768 ≤ t) (e1 : t ≤ 32767) (h0 : fewB l 8 = true) (hp : 20 < p.length) : Calls Tryd.prog 9 #[.agg #[.slice A n c], .agg #[.int .i64 d, .bool n', .string ⟨p.toArray⟩, .string ⟨q.toArray⟩], .agg #[.int .i16 s, .int .i16 t]] w fun e w' => e = .returned (.bool true) ∧ Since w w' := by
  have HRX : Hid (∀ X, Since w X → Rd X 4 (.slice A n c) n (fl ptc l)) := fun X h => hr.below h
  clear hr
  go_enter Tryd.func9, Tryd.ntmps9
  go_upto_region 1 with (fail)
  obtain ⟨W0, hW0, hB0, hB1, hB2, hb⟩ := start3 w 48 60 62 [.slice A n c] [.int .i64 d, .bool n', .string ⟨p.toArray⟩, .string ⟨q.toArray⟩] [.int .i16 s, .int .i16 t]
  rw [← hW0]
  clear hW0
  refine jp ?_
  refine ja hB0 Tryd.underlying48 (by rfl) info_cv ?_
  refine jc (.bool true) (fun X hX hF => mo (few13L A n c l X (HRX.out X (hb.trans (Below.mono hX hb.size))) hln hn1) (by rw [h0])) ?_
  refine jm (.bool false) ?_
  refine jm (.bool false) ?_
  refine jn (.pointer (some ⟨(w.heap.size + 1), 1, none⟩)) ?_
  refine jn (.pointer (some ⟨(w.heap.size + 1), 2, none⟩)) ?_
  refine jf (st p) hB1 2 load_str ?_
  refine jv (.int .i64 (p.length : Int)) (exec_lens Tryd.underlying9 _ (by rfl) p (by rfl) _ rfl) ?_
  refine jv (.bool true) (exec_gtr _ _ _ _ (by rfl) .i64 (p.length : Int) 20 (by rfl) (by rfl) true (decide_eq_true (by omega))) ?_
  refine jm (.bool true) ?_
  refine jm (.bool true) ?_
  refine js ?_
  refine js ?_
  refine js ?_
  refine js ?_
  refine js ?_
  refine jm (.bool true) ?_
  refine jm (.bool true) ?_
  refine js ?_
  refine js ?_
  refine js ?_
  refine jm (.bool true) ?_
  refine jz fun X1 hX1 => ?_
  have hB0 := hB0.bel hX1
  have hB1 := hB1.bel hX1
  have hB2 := hB2.bel hX1
  have hb := bel_next hb hX1
  clear hX1
  go_upto_region 2 with (fail)
  refine jp ?_
  refine jc (.bool true) (fun X hX hF => sanityC X) ?_
  refine jm (.bool true) ?_
  refine jz fun X2 hX2 => ?_
  have hB0 := hB0.bel hX2
  have hB1 := hB1.bel hX2
  have hB2 := hB2.bel hX2
  have hb := bel_next hb hX2
  clear hX2
  go_wp2
  go_ret
  exact ⟨rfl, hb⟩
theorem shfs2 (w : World) (A : Option Addr) (n c : Nat) (l : List Pt) (hr : Rd w 4 (.slice A n c) n (fl ptc l)) (hln : l.length = n) (hn1 : n ≤ 9223372036854775807) (d : Int) (n' : Bool) (p q : List UInt8) (d0 : -9223372036854775808 ≤ d) (d1 : d ≤ 9223372036854775807) (s t : Int) (s0 : -32768 ≤ s) (s1 : s ≤ 32767) (e0 : -32768 ≤ t) (e1 : t ≤ 32767) (h0 : fewB l 8 = true) (hp : p.length ≤ 20) (hq : 20 < q.length) : Calls Tryd.prog 9 #[.agg #[.slice A n c], .agg #[.int .i64 d, .bool n', .string ⟨p.toArray⟩, .string ⟨q.toArray⟩], .agg #[.int .i16 s, .int .i16 t]] w fun e w' => e = .returned (.bool true) ∧ Since w w' := by
  have HRX : Hid (∀ X, Since w X → Rd X 4 (.slice A n c) n (fl ptc l)) := fun X h => hr.below h
  clear hr
  go_enter Tryd.func9, Tryd.ntmps9
  go_upto_region 1 with (fail)
  obtain ⟨W0, hW0, hB0, hB1, hB2, hb⟩ := start3 w 48 60 62 [.slice A n c] [.int .i64 d, .bool n', .string ⟨p.toArray⟩, .string ⟨q.toArray⟩] [.int .i16 s, .int .i16 t]
  rw [← hW0]
  clear hW0
  refine jp ?_
  refine ja hB0 Tryd.underlying48 (by rfl) info_cv ?_
  refine jc (.bool true) (fun X hX hF => mo (few13L A n c l X (HRX.out X (hb.trans (Below.mono hX hb.size))) hln hn1) (by rw [h0])) ?_
  refine jm (.bool false) ?_
  refine jm (.bool false) ?_
  refine jn (.pointer (some ⟨(w.heap.size + 1), 1, none⟩)) ?_
  refine jn (.pointer (some ⟨(w.heap.size + 1), 2, none⟩)) ?_
  refine jf (st p) hB1 2 load_str ?_
  refine jv (.int .i64 (p.length : Int)) (exec_lens Tryd.underlying9 _ (by rfl) p (by rfl) _ rfl) ?_
  refine jv (.bool false) (exec_gtr _ _ _ _ (by rfl) .i64 (p.length : Int) 20 (by rfl) (by rfl) false (decide_eq_false (by omega))) ?_
  refine jm (.bool false) ?_
  refine jm (.bool false) ?_
  refine jn (.pointer (some ⟨(w.heap.size + 1), 1, none⟩)) ?_
  refine jn (.pointer (some ⟨(w.heap.size + 1), 3, none⟩)) ?_
  refine jf (st q) hB1 3 load_str ?_
  refine jv (.int .i64 (q.length : Int)) (exec_lens Tryd.underlying9 _ (by rfl) q (by rfl) _ rfl) ?_
  refine jv (.bool true) (exec_gtr _ _ _ _ (by rfl) .i64 (q.length : Int) 20 (by rfl) (by rfl) true (decide_eq_true (by omega))) ?_
  refine jm (.bool true) ?_
  refine jm (.bool true) ?_
  refine js ?_
  refine js ?_
  refine js ?_
  refine jm (.bool true) ?_
  refine jz fun X1 hX1 => ?_
  have hB0 := hB0.bel hX1
  have hB1 := hB1.bel hX1
  have hB2 := hB2.bel hX1
  have hb := bel_next hb hX1
  clear hX1
  go_upto_region 2 with (fail)
  refine jp ?_
  refine jc (.bool true) (fun X hX hF => sanityC X) ?_
  refine jm (.bool true) ?_
  refine jz fun X2 hX2 => ?_
  have hB0 := hB0.bel hX2
  have hB1 := hB1.bel hX2
  have hB2 := hB2.bel hX2
  have hb := bel_next hb hX2
  clear hX2
  go_wp2
  go_ret
  exact ⟨rfl, hb⟩
theorem shfs3 (w : World) (A : Option Addr) (n c : Nat) (l : List Pt) (hr : Rd w 4 (.slice A n c) n (fl ptc l)) (hln : l.length = n) (hn1 : n ≤ 9223372036854775807) (d : Int) (n' : Bool) (p q : List UInt8) (d0 : -9223372036854775808 ≤ d) (d1 : d ≤ 9223372036854775807) (s t : Int) (s0 : -32768 ≤ s) (s1 : s ≤ 32767) (e0 : -32768 ≤ t) (e1 : t ≤ 32767) (h0 : fewB l 8 = true) (hp : p.length ≤ 20) (hq : q.length ≤ 20) (hf : fewP l 1000) (hc : ck l ≠ 0) : Calls Tryd.prog 9 #[.agg #[.slice A n c], .agg #[.int .i64 d, .bool n', .string ⟨p.toArray⟩, .string ⟨q.toArray⟩], .agg #[.int .i16 s, .int .i16 t]] w fun e w' => e = .returned (.bool true) ∧ Since w w' := by
  have HRX : Hid (∀ X, Since w X → Rd X 4 (.slice A n c) n (fl ptc l)) := fun X h => hr.below h
  clear hr
  go_enter Tryd.func9, Tryd.ntmps9
  go_upto_region 1 with (fail)
  obtain ⟨W0, hW0, hB0, hB1, hB2, hb⟩ := start3 w 48 60 62 [.slice A n c] [.int .i64 d, .bool n', .string ⟨p.toArray⟩, .string ⟨q.toArray⟩] [.int .i16 s, .int .i16 t]
  rw [← hW0]
  clear hW0
  refine jp ?_
  refine ja hB0 Tryd.underlying48 (by rfl) info_cv ?_
  refine jc (.bool true) (fun X hX hF => mo (few13L A n c l X (HRX.out X (hb.trans (Below.mono hX hb.size))) hln hn1) (by rw [h0])) ?_
  refine jm (.bool false) ?_
  refine jm (.bool false) ?_
  refine jn (.pointer (some ⟨(w.heap.size + 1), 1, none⟩)) ?_
  refine jn (.pointer (some ⟨(w.heap.size + 1), 2, none⟩)) ?_
  refine jf (st p) hB1 2 load_str ?_
  refine jv (.int .i64 (p.length : Int)) (exec_lens Tryd.underlying9 _ (by rfl) p (by rfl) _ rfl) ?_
  refine jv (.bool false) (exec_gtr _ _ _ _ (by rfl) .i64 (p.length : Int) 20 (by rfl) (by rfl) false (decide_eq_false (by omega))) ?_
  refine jm (.bool false) ?_
  refine jm (.bool false) ?_
  refine jn (.pointer (some ⟨(w.heap.size + 1), 1, none⟩)) ?_
  refine jn (.pointer (some ⟨(w.heap.size + 1), 3, none⟩)) ?_
  refine jf (st q) hB1 3 load_str ?_
  refine jv (.int .i64 (q.length : Int)) (exec_lens Tryd.underlying9 _ (by rfl) q (by rfl) _ rfl) ?_
  refine jv (.bool false) (exec_gtr _ _ _ _ (by rfl) .i64 (q.length : Int) 20 (by rfl) (by rfl) false (decide_eq_false (by omega))) ?_
  refine jm (.bool false) ?_
  refine jm (.bool false) ?_
  refine ja hB0 Tryd.underlying48 (by rfl) info_cv ?_
  refine jc (.int .i64 (ck l)) (fun X hX hF => checkC A n c l X (HRX.out X (hb.trans (Below.mono hX hb.size))) hln hn1 hf.mono) ?_
  refine jv (.bool true) (exec_nei _ _ _ _ (by rfl) .i64 (ck l) 0 (by rfl) (by rfl) true (by rw [decide_eq_false (by omega)]; rfl)) ?_
  refine jm (.bool true) ?_
  refine jz fun X1 hX1 => ?_
  have hB0 := hB0.bel hX1
  have hB1 := hB1.bel hX1
  have hB2 := hB2.bel hX1
  have hb := bel_next hb hX1
  clear hX1
  go_upto_region 2 with (fail)
  refine jp ?_
  refine jc (.bool true) (fun X hX hF => sanityC X) ?_
  refine jm (.bool true) ?_
  refine jz fun X2 hX2 => ?_
  have hB0 := hB0.bel hX2
  have hB1 := hB1.bel hX2
  have hB2 := hB2.bel hX2
  have hb := bel_next hb hX2
  clear hX2
  go_wp2
  go_ret
  exact ⟨rfl, hb⟩
theorem shfsM_ok_1 (w : World) (b off : Nat) (n c : Nat) (l : List Pt) (hr : Rd w 4 (.slice (some ⟨b, off, none⟩) n c) n (fl ptc l)) (hln : l.length = n) (hn1 : n ≤ 9223372036854775807) (d : Int) (n' : Bool) (p q : List UInt8) (d0 : -9223372036854775808 ≤ d) (d1 : d ≤ 9223372036854775807) (s t : Int) (s0 : -32768 ≤ s) (s1 : s ≤ 32767) (e0 : -32768 ≤ t) (e1 : t ≤ 32767) (HF8 : Hid (fewB l 8 = true)) (hf : fewP l 1000) (hc : ck l = 0) (ht : tz p q 20) (y : Rat) (HY : Hid (rq n' p q = y)) (ls : List Pt) (fs : Rat) (sfs : szR fs 10000) (HSC : Hid (scE l (n', p, q) = 0 ∧ scL l (n', p, q) = ls)) (HV : Hid (vd n' p q = true)) (HNB : Hid (n' = false)) (hfs : fewP ls 1000) (HFS : Hid (flowC0 ls s = y * fs)) (HF0 : Hid (flowC0 l s = fs)) (ld : List Pt) (HSH : Hid (shE l d = 0 ∧ shL l d = ld)) (dd0 : -4000 ≤ d) (dd1 : d ≤ 4000) (hfd : fewP ld 1000) (fd : Rat) (sfd : szR fd 10000) (HFD : Hid (flowC0 ld s = fd)) (HFE : Hid (flowC0 l (s + d) = fd)) (E2 : Int) (lt : List Pt) (HST : Hid (shE ld t = E2 ∧ shL ld t = lt)) (HSB : Hid (shE l (d + t) = E2 ∧ shL l (d + t) = lt)) (lo : List Pt) (HSO : Hid (scE ld (n', p, q) = 0 ∧ scL ld (n', p, q) = lo)) (HSP : Hid (shE ls d = 0 ∧ shL ls d = lo)) : Calls Tryd.prog 9 #[.agg #[.slice (some ⟨b, off, none⟩) n c], .agg #[.int .i64 d, .bool n', .string ⟨p.toArray⟩, .string ⟨q.toArray⟩], .agg #[.int .i16 s, .int .i16 t]] w fun e w' => e = .returned (.bool true) ∧ Since w w' := by
  have LB0 : szR fs 10000 := sfs
  have HRX : Hid (∀ X, Since w X → Rd X 4 (.slice (some ⟨b, off, none⟩) n c) n (fl ptc l)) := fun X h => hr.below h
  clear hr
  have hp : p.length ≤ 20 := ht.1
  have hq : q.length ≤ 20 := ht.2
  go_enter Tryd.func9, Tryd.ntmps9
  go_upto_region 1 with (fail)
  obtain ⟨W0, hW0, hB0, hB1, hB2, hb⟩ := start3 w 48 60 62 [.slice (some ⟨b, off, none⟩) n c] [.int .i64 d, .bool n', .string ⟨p.toArray⟩, .string ⟨q.toArray⟩] [.int .i16 s, .int .i16 t]
  rw [← hW0]
  clear hW0
  refine jp ?_
  refine ja hB0 Tryd.underlying48 (by rfl) info_cv ?_
  refine jc (.bool true) (fun X hX hF => mo (few13L (some ⟨b, off, none⟩) n c l X (HRX.out X (hb.trans (Below.mono hX hb.size))) hln hn1) (by rw [HF8.out])) ?_
  refine jm (.bool false) ?_
  refine jm (.bool false) ?_
  refine jn (.pointer (some ⟨(w.heap.size + 1), 1, none⟩)) ?_
  refine jn (.pointer (some ⟨(w.heap.size + 1), 2, none⟩)) ?_
  refine jf (st p) hB1 2 load_str ?_
  refine jv (.int .i64 (p.length : Int)) (exec_lens Tryd.underlying9 _ (by rfl) p (by rfl) _ rfl) ?_
  refine jv (.bool false) (exec_gtr _ _ _ _ (by rfl) .i64 (p.length : Int) 20 (by rfl) (by rfl) false (decide_eq_false (by omega))) ?_
  refine jm (.bool false) ?_
  refine jm (.bool false) ?_
  refine jn (.pointer (some ⟨(w.heap.size + 1), 1, none⟩)) ?_
  refine jn (.pointer (some ⟨(w.heap.size + 1), 3, none⟩)) ?_
  refine jf (st q) hB1 3 load_str ?_
  refine jv (.int .i64 (q.length : Int)) (exec_lens Tryd.underlying9 _ (by rfl) q (by rfl) _ rfl) ?_
  refine jv (.bool false) (exec_gtr _ _ _ _ (by rfl) .i64 (q.length : Int) 20 (by rfl) (by rfl) false (decide_eq_false (by omega))) ?_
  refine jm (.bool false) ?_
  refine jm (.bool false) ?_
  refine ja hB0 Tryd.underlying48 (by rfl) info_cv ?_
  refine jc (.int .i64 0) (fun X hX hF => mo (checkC (some ⟨b, off, none⟩) n c l X (HRX.out X (hb.trans (Below.mono hX hb.size))) hln hn1 hf.mono) (by rw [hc])) ?_
  refine jv (.bool false) (exec_nei _ _ _ _ (by rfl) .i64 0 0 (by rfl) (by rfl) false (by rw [decide_eq_true (by omega)]; rfl)) ?_
  refine jm (.bool false) ?_
  refine jz fun X1 hX1 => ?_
  have hB0 := hB0.bel hX1
  have hB1 := hB1.bel hX1
  have hB2 := hB2.bel hX1
  have hb := bel_next hb hX1
  clear hX1
  go_upto_region 3 with (fail)
  refine jp ?_
  refine jn (.pointer (some ⟨(w.heap.size + 2), 0, none⟩)) ?_
  refine jf (.int .i16 s) hB2 0 load_i16 ?_
  refine jv (.int .i64 s) (exec_cnv _ _ .i16 .i64 Tryd.underlying61 Tryd.underlying3 _ (by rfl) s s (by rfl) (by rw [IntWalk.i64_in _ (by omega)])) ?_
  refine jm (.int .i64 s) ?_
  refine jz fun X2 hX2 => ?_
  have hB0 := hB0.bel hX2
  have hB1 := hB1.bel hX2
  have hB2 := hB2.bel hX2
  have hb := bel_next hb hX2
  clear hX2
  go_upto_region 4 with (fail)
  refine lx_plain_to 7 [none, none, none, some (Shv 0 ls), none, some (Cvl ls)] (lasts_none (lasts_none (lasts_none (lasts_some (Shv.lasts _ _) (lasts_none (lasts_some (Cvl.lasts _) (lasts_nil))))))) ?_
  simp only [its, List.take, List.drop, Nat.zero_add, Nat.reduceAdd]
  refine ja hB0 Tryd.underlying48 (by rfl) info_cv ?_
  refine jn (.pointer (some ⟨(w.heap.size + 1), 1, none⟩)) ?_
  refine jg (.agg #[.bool n', st p, st q]) (fun X hX hF => exec_inr 26 _ (by rfl) (w.heap.size + 1) 1 [.bool n', .string ⟨p.toArray⟩, .string ⟨q.toArray⟩] (by rfl) Tryd.underlying26 rfl X (hB1.bel hX) (by rfl) info_rat) ?_
  refine jk (fun X hX hF => (scaleV l _ n' p q (ht.mono (by omega)) X ⟨(some ⟨b, off, none⟩), n, c, rfl, (HRX.out X (hb.trans (Below.mono hX hb.size))), hln, hn1⟩ hf).mono fun e X' ⟨u, h1, h2, h3⟩ => ⟨u, h1, by rw [HSC.out.1, HSC.out.2] at h2; exact h2, h3⟩) ?_
  intro v50
  refine jm (v50) ?_
  refine lx_new (by rfl) (fun X hX hF => Shv.ext _ (by rfl) (by rfl) (hF _ _ List.mem_cons_self rfl)) ?_
  intro v51
  simp only [pX]
  refine jg (.int .i64 0) (fun X hX hF => Shv.err _ (by rfl) (by rfl) (hF _ _ (List.mem_cons_of_mem _ List.mem_cons_self) rfl)) ?_
  refine lx_nil ?_
  intro X3 hX3 hF
  have hv50 := hF _ _ (List.mem_cons_of_mem _ List.mem_cons_self)
  have hv51 := hF _ _ List.mem_cons_self
  have hB0 := hB0.bel hX3
  have hB1 := hB1.bel hX3
  have hB2 := hB2.bel hX3
  have hb := bel_next hb hX3
  clear hF hX3
  obtain ⟨A8, n8, c8, rfl, hr8, hl8, hm8⟩ := hv51
  clear hv50
  go_upto_region 5 with (refine osn 48 8 51 #[.slice A8 n8 c8] info_cv ?_)
  obtain ⟨Y3, hY9, hD8, hS9⟩ := start1 X3 48 [.slice A8 n8 c8]
  rw [← hY9]
  clear hY9
  have hgs8 := hb.size
  have hlt8x0 := hB0.lt
  have hlt8x1 := hB1.lt
  have hlt8x2 := hB2.lt
  have hr8 := hr8.below hS9
  have hB0 := hB0.bel hS9
  have hB1 := hB1.bel hS9
  have hB2 := hB2.bel hS9
  have hb := bel_next hb hS9
  clear hS9
  generalize X3.heap.size = g8 at *
  refine jd ?_
  refine jm (.int .i64 0) ?_
  refine jv (.bool true) (exec_eqi _ _ _ _ (by rfl) .i64 0 0 (by rfl) (by rfl) true (decide_eq_true (by omega))) ?_
  refine jn (.pointer (some ⟨(w.heap.size + 1), 1, none⟩)) ?_
  refine jg (.agg #[.bool n', st p, st q]) (fun X hX hF => exec_inr 26 _ (by rfl) (w.heap.size + 1) 1 [.bool n', .string ⟨p.toArray⟩, .string ⟨q.toArray⟩] (by rfl) Tryd.underlying26 rfl X (hB1.bel hX) (by rfl) info_rat) ?_
  refine jc (.bool true) (fun X hX hF => mo (validG n' p q X (ht.mono (by omega))) (by rw [HV.out])) ?_
  refine jm (.bool true) ?_
  refine jn (.pointer (some ⟨(w.heap.size + 1), 1, none⟩)) ?_
  refine jn (.pointer (some ⟨(w.heap.size + 1), 1, none⟩)) ?_
  refine jg (.bool false) (fun X hX hF => exec_ld 4 _ (by rfl) (w.heap.size + 1) 1 (by rfl) (.bool false) X (by rw [← HNB.out]; exact (hB1.bel hX).cell (j := 1) rfl) (fun X u h => load_bool (w.heap.size + 1) 1 X u h)) ?_
  refine jm (.bool true) ?_
  refine jm (.bool true) ?_
  refine jm (.bool false) ?_
  refine jm (.bool false) ?_
  refine jm (.int .i64 0) ?_
  refine jv (.bool true) (exec_eqi _ _ _ _ (by rfl) .i64 0 0 (by rfl) (by rfl) true (decide_eq_true (by omega))) ?_
  refine jm (.bool true) ?_
  refine ja hD8 Tryd.underlying48 (by rfl) info_cv ?_
  refine jm (.int .i64 s) ?_
  refine jc (rt (rN (y * fs)) (rP (y * fs)) (rD (y * fs))) (fun X hX hF => mo (flowV ls _ s X ⟨A8, n8, c8, rfl, hr8.below hX, hl8, hm8⟩ hfs) (by rw [HFS.out])) ?_
  refine jn (.pointer (some ⟨(w.heap.size + 1), 1, none⟩)) ?_
  refine jg (.agg #[.bool n', st p, st q]) (fun X hX hF => exec_inr 26 _ (by rfl) (w.heap.size + 1) 1 [.bool n', .string ⟨p.toArray⟩, .string ⟨q.toArray⟩] (by rfl) Tryd.underlying26 rfl X (hB1.bel hX) (by rfl) info_rat) ?_
  refine ja hB0 Tryd.underlying48 (by rfl) info_cv ?_
  refine jm (.int .i64 s) ?_
  refine jc (rt (rN fs) (rP fs) (rD fs)) (fun X hX hF => mo (flowV l _ s X ⟨(some ⟨b, off, none⟩), n, c, rfl, (HRX.out X (hb.trans (Below.mono hX hb.size))), hln, hn1⟩ hf) (by rw [HF0.out])) ?_
  refine jc (rt (rN (y * fs)) (rP (y * fs)) (rD (y * fs))) (fun X hX hF => mulG n' p q (rN fs) (rP fs) (rD fs) HY.out (rq_rb fs) X (ht.mono (by omega)) (tzR LB0 (by omega))) ?_
  refine jv (.bool false) (exec_ner _ _ (by rfl) (rN (y * fs)) (rP (y * fs)) (rD (y * fs)) (rN (y * fs)) (rP (y * fs)) (rD (y * fs)) (by rfl) (by rfl) false (rb_eqt rfl)) ?_
  refine jm (.bool false) ?_
  refine jm (.bool false) ?_
  refine jz fun X4 hX4 => ?_
  have hr8 := hr8.below hX4
  have hB0 := hB0.bel hX4
  have hB1 := hB1.bel hX4
  have hB2 := hB2.bel hX4
  have hD8 := hD8.bel hX4
  have hb := bel_next hb hX4
  clear hX4
  go_upto_region 7 with (fail)
  refine lx_plain_to 7 [none, none, none, some (Shv 0 ld), none, some (Cvl ld)] (lasts_none (lasts_none (lasts_none (lasts_some (Shv.lasts _ _) (lasts_none (lasts_some (Cvl.lasts _) (lasts_nil))))))) ?_
  simp only [its, List.take, List.drop, Nat.zero_add, Nat.reduceAdd]
  refine ja hB0 Tryd.underlying48 (by rfl) info_cv ?_
  refine jn (.pointer (some ⟨(w.heap.size + 1), 0, none⟩)) ?_
  refine jf (.int .i64 d) hB1 0 load_int ?_
  refine jk (fun X hX hF => (shiftV l _ d X ⟨(some ⟨b, off, none⟩), n, c, rfl, (HRX.out X (hb.trans (Below.mono hX hb.size))), hln, hn1⟩ hf).mono fun e X' ⟨u, h1, h2, h3⟩ => ⟨u, h1, by rw [HSH.out.1, HSH.out.2] at h2; exact h2, h3⟩) ?_
  intro v85
  refine jm (v85) ?_
  refine lx_new (by rfl) (fun X hX hF => Shv.ext _ (by rfl) (by rfl) (hF _ _ List.mem_cons_self rfl)) ?_
  intro v86
  simp only [pX]
  refine jg (.int .i64 0) (fun X hX hF => Shv.err _ (by rfl) (by rfl) (hF _ _ (List.mem_cons_of_mem _ List.mem_cons_self) rfl)) ?_
  refine lx_nil ?_
  intro X5 hX5 hF
  have hv85 := hF _ _ (List.mem_cons_of_mem _ List.mem_cons_self)
  have hv86 := hF _ _ List.mem_cons_self
  have hr8 := hr8.below hX5
  have hB0 := hB0.bel hX5
  have hB1 := hB1.bel hX5
  have hB2 := hB2.bel hX5
  have hD8 := hD8.bel hX5
  have hb := bel_next hb hX5
  clear hF hX5
  obtain ⟨A10, n10, c10, rfl, hr10, hl10, hm10⟩ := hv86
  clear hv85
  go_upto_region 8 with (refine osn 48 10 86 #[.slice A10 n10 c10] info_cv ?_)
  obtain ⟨Y5, hY9, hD10, hS9⟩ := start1 X5 48 [.slice A10 n10 c10]
  rw [← hY9]
  clear hY9
  have hgs10 := hb.size
  have hlt10x0 := hB0.lt
  have hlt10x1 := hB1.lt
  have hlt10x2 := hB2.lt
  have hlt10x3 := hD8.lt
  have hr8 := hr8.below hS9
  have hr10 := hr10.below hS9
  have hB0 := hB0.bel hS9
  have hB1 := hB1.bel hS9
  have hB2 := hB2.bel hS9
  have hD8 := hD8.bel hS9
  have hb := bel_next hb hS9
  clear hS9
  generalize X5.heap.size = g10 at *
  refine jp ?_
  refine jm (.int .i64 0) ?_
  refine jv (.bool false) (exec_nei _ _ _ _ (by rfl) .i64 0 0 (by rfl) (by rfl) false (by rw [decide_eq_true (by omega)]; rfl)) ?_
  refine jz fun X6 hX6 => ?_
  have hr8 := hr8.below hX6
  have hr10 := hr10.below hX6
  have hB0 := hB0.bel hX6
  have hB1 := hB1.bel hX6
  have hB2 := hB2.bel hX6
  have hD8 := hD8.bel hX6
  have hD10 := hD10.bel hX6
  have hb := bel_next hb hX6
  clear hX6
  go_upto_region 10 with (fail)
  refine jd ?_
  refine ja hD10 Tryd.underlying48 (by rfl) info_cv ?_
  refine jm (.int .i64 s) ?_
  refine jc (rt (rN fd) (rP fd) (rD fd)) (fun X hX hF => mo (flowV ld _ s X ⟨A10, n10, c10, rfl, hr10.below hX, hl10, hm10⟩ hfd) (by rw [HFD.out])) ?_
  refine ja hB0 Tryd.underlying48 (by rfl) info_cv ?_
  refine jm (.int .i64 s) ?_
  refine jn (.pointer (some ⟨(w.heap.size + 1), 0, none⟩)) ?_
  refine jf (.int .i64 d) hB1 0 load_int ?_
  refine jv (.int .i64 (s + d)) (exec_add _ _ _ _ (by rfl) s d (s + d) (by rfl) (by rfl) (by omega) (by omega) (by omega)) ?_
  refine jc (rt (rN fd) (rP fd) (rD fd)) (fun X hX hF => mo (flowV l _ (s + d) X ⟨(some ⟨b, off, none⟩), n, c, rfl, (HRX.out X (hb.trans (Below.mono hX hb.size))), hln, hn1⟩ hf) (by rw [HFE.out])) ?_
  refine jv (.bool false) (exec_ner _ _ (by rfl) (rN fd) (rP fd) (rD fd) (rN fd) (rP fd) (rD fd) (by rfl) (by rfl) false (rb_eqt rfl)) ?_
  refine jz fun X7 hX7 => ?_
  have hr8 := hr8.below hX7
  have hr10 := hr10.below hX7
  have hB0 := hB0.bel hX7
  have hB1 := hB1.bel hX7
  have hB2 := hB2.bel hX7
  have hD8 := hD8.bel hX7
  have hD10 := hD10.bel hX7
  have hb := bel_next hb hX7
  clear hX7
  go_upto_region 12 with (fail)
  refine lx_plain_to 8 [none, none, none, none, some (Shv (E2) lt), none, some (Cvl lt)] (lasts_none (lasts_none (lasts_none (lasts_none (lasts_some (Shv.lasts _ _) (lasts_none (lasts_some (Cvl.lasts _) (lasts_nil)))))))) ?_
  simp only [its, List.take, List.drop, Nat.zero_add, Nat.reduceAdd]
  refine ja hD10 Tryd.underlying48 (by rfl) info_cv ?_
  refine jn (.pointer (some ⟨(w.heap.size + 2), 1, none⟩)) ?_
  refine jf (.int .i16 t) hB2 1 load_i16 ?_
  refine jv (.int .i64 t) (exec_cnv _ _ .i16 .i64 Tryd.underlying61 Tryd.underlying3 _ (by rfl) t t (by rfl) (by rw [IntWalk.i64_in _ (by omega)])) ?_
  refine jk (fun X hX hF => (shiftV ld _ t X ⟨A10, n10, c10, rfl, hr10.below hX, hl10, hm10⟩ hfd).mono fun e X' ⟨u, h1, h2, h3⟩ => ⟨u, h1, by rw [HST.out.1, HST.out.2] at h2; exact h2, h3⟩) ?_
  intro v110
  refine jm (v110) ?_
  refine lx_new (by rfl) (fun X hX hF => Shv.ext _ (by rfl) (by rfl) (hF _ _ List.mem_cons_self rfl)) ?_
  intro v111
  simp only [pX]
  refine jg (.int .i64 (E2)) (fun X hX hF => Shv.err _ (by rfl) (by rfl) (hF _ _ (List.mem_cons_of_mem _ List.mem_cons_self) rfl)) ?_
  refine lx_nil ?_
  intro X8 hX8 hF
  have hv110 := hF _ _ (List.mem_cons_of_mem _ List.mem_cons_self)
  have hv111 := hF _ _ List.mem_cons_self
  have hr8 := hr8.below hX8
  have hr10 := hr10.below hX8
  have hB0 := hB0.bel hX8
  have hB1 := hB1.bel hX8
  have hB2 := hB2.bel hX8
  have hD8 := hD8.bel hX8
  have hD10 := hD10.bel hX8
  have hb := bel_next hb hX8
  clear hF hX8
  obtain ⟨A12, n12, c12, rfl, hr12, hl12, hm12⟩ := hv111
  clear hv110
  go_upto_region 13 with (refine osn 48 12 111 #[.slice A12 n12 c12] info_cv ?_)
  obtain ⟨Y8, hY9, hD12, hS9⟩ := start1 X8 48 [.slice A12 n12 c12]
  rw [← hY9]
  clear hY9
  have hgs12 := hb.size
  have hlt12x0 := hB0.lt
  have hlt12x1 := hB1.lt
  have hlt12x2 := hB2.lt
  have hlt12x3 := hD8.lt
  have hlt12x4 := hD10.lt
  have hr8 := hr8.below hS9
  have hr10 := hr10.below hS9
  have hr12 := hr12.below hS9
  have hB0 := hB0.bel hS9
  have hB1 := hB1.bel hS9
  have hB2 := hB2.bel hS9
  have hD8 := hD8.bel hS9
  have hD10 := hD10.bel hS9
  have hb := bel_next hb hS9
  clear hS9
  generalize X8.heap.size = g12 at *
  refine lx_plain_to 11 [none, none, none, none, none, none, none, some (Shv (E2) lt), none, some (Cvl lt)] (lasts_none (lasts_none (lasts_none (lasts_none (lasts_none (lasts_none (lasts_none (lasts_some (Shv.lasts _ _) (lasts_none (lasts_some (Cvl.lasts _) (lasts_nil))))))))))) ?_
  simp only [its, List.take, List.drop, Nat.zero_add, Nat.reduceAdd]
  refine ja hB0 Tryd.underlying48 (by rfl) info_cv ?_
  refine jn (.pointer (some ⟨(w.heap.size + 1), 0, none⟩)) ?_
  refine jf (.int .i64 d) hB1 0 load_int ?_
  refine jn (.pointer (some ⟨(w.heap.size + 2), 1, none⟩)) ?_
  refine jf (.int .i16 t) hB2 1 load_i16 ?_
  refine jv (.int .i64 t) (exec_cnv _ _ .i16 .i64 Tryd.underlying61 Tryd.underlying3 _ (by rfl) t t (by rfl) (by rw [IntWalk.i64_in _ (by omega)])) ?_
  refine jv (.int .i64 (d + t)) (exec_add _ _ _ _ (by rfl) d t (d + t) (by rfl) (by rfl) (by omega) (by omega) (by omega)) ?_
  refine jk (fun X hX hF => (shiftV l _ (d + t) X ⟨(some ⟨b, off, none⟩), n, c, rfl, (HRX.out X (hb.trans (Below.mono hX hb.size))), hln, hn1⟩ hf).mono fun e X' ⟨u, h1, h2, h3⟩ => ⟨u, h1, by rw [HSB.out.1, HSB.out.2] at h2; exact h2, h3⟩) ?_
  intro v121
  refine jm (v121) ?_
  refine lx_new (by rfl) (fun X hX hF => Shv.ext _ (by rfl) (by rfl) (hF _ _ List.mem_cons_self rfl)) ?_
  intro v122
  simp only [pX]
  refine jg (.int .i64 (E2)) (fun X hX hF => Shv.err _ (by rfl) (by rfl) (hF _ _ (List.mem_cons_of_mem _ List.mem_cons_self) rfl)) ?_
  refine lx_nil ?_
  intro X9 hX9 hF
  have hv121 := hF _ _ (List.mem_cons_of_mem _ List.mem_cons_self)
  have hv122 := hF _ _ List.mem_cons_self
  have hr8 := hr8.below hX9
  have hr10 := hr10.below hX9
  have hr12 := hr12.below hX9
  have hB0 := hB0.bel hX9
  have hB1 := hB1.bel hX9
  have hB2 := hB2.bel hX9
  have hD8 := hD8.bel hX9
  have hD10 := hD10.bel hX9
  have hD12 := hD12.bel hX9
  have hb := bel_next hb hX9
  clear hF hX9
  obtain ⟨A14, n14, c14, rfl, hr14, hl14, hm14⟩ := hv122
  clear hv121
  go_upto_region 14 with (refine osn 48 14 122 #[.slice A14 n14 c14] info_cv ?_)
  obtain ⟨Y9, hY9, hD14, hS9⟩ := start1 X9 48 [.slice A14 n14 c14]
  rw [← hY9]
  clear hY9
  have hgs14 := hb.size
  have hlt14x0 := hB0.lt
  have hlt14x1 := hB1.lt
  have hlt14x2 := hB2.lt
  have hlt14x3 := hD8.lt
  have hlt14x4 := hD10.lt
  have hlt14x5 := hD12.lt
  have hr8 := hr8.below hS9
  have hr10 := hr10.below hS9
  have hr12 := hr12.below hS9
  have hr14 := hr14.below hS9
  have hB0 := hB0.bel hS9
  have hB1 := hB1.bel hS9
  have hB2 := hB2.bel hS9
  have hD8 := hD8.bel hS9
  have hD10 := hD10.bel hS9
  have hD12 := hD12.bel hS9
  have hb := bel_next hb hS9
  clear hS9
  generalize X9.heap.size = g14 at *
  refine jp ?_
  refine jm (.int .i64 (E2)) ?_
  refine jm (.int .i64 (E2)) ?_
  refine jv (.bool false) (exec_nei _ _ _ _ (by rfl) .i64 (E2) (E2) (by rfl) (by rfl) false (by rw [decide_eq_true rfl]; rfl)) ?_
  refine jm (.bool false) ?_
  refine ja hD12 Tryd.underlying48 (by rfl) info_cv ?_
  refine ja hD14 Tryd.underlying48 (by rfl) info_cv ?_
  refine jc (.bool true) (fun X hX hF => mo (sameV lt lt _ _ X ⟨A12, n12, c12, rfl, hr12.below hX, hl12, hm12⟩ ⟨A14, n14, c14, rfl, hr14.below hX, hl14, hm14⟩) (by rw [decide_eq_true rfl])) ?_
  refine jm (.bool false) ?_
  refine jm (.bool false) ?_
  refine jz fun X10 hX10 => ?_
  have hr8 := hr8.below hX10
  have hr10 := hr10.below hX10
  have hr12 := hr12.below hX10
  have hr14 := hr14.below hX10
  have hB0 := hB0.bel hX10
  have hB1 := hB1.bel hX10
  have hB2 := hB2.bel hX10
  have hD8 := hD8.bel hX10
  have hD10 := hD10.bel hX10
  have hD12 := hD12.bel hX10
  have hD14 := hD14.bel hX10
  have hb := bel_next hb hX10
  clear hX10
  go_upto_region 16 with (fail)
  refine jp ?_
  refine jm (.int .i64 0) ?_
  refine jv (.bool false) (exec_nei _ _ _ _ (by rfl) .i64 0 0 (by rfl) (by rfl) false (by rw [decide_eq_true (by omega)]; rfl)) ?_
  refine jz fun X11 hX11 => ?_
  have hr8 := hr8.below hX11
  have hr10 := hr10.below hX11
  have hr12 := hr12.below hX11
  have hr14 := hr14.below hX11
  have hB0 := hB0.bel hX11
  have hB1 := hB1.bel hX11
  have hB2 := hB2.bel hX11
  have hD8 := hD8.bel hX11
  have hD10 := hD10.bel hX11
  have hD12 := hD12.bel hX11
  have hD14 := hD14.bel hX11
  have hb := bel_next hb hX11
  clear hX11
  go_upto_region 18 with (fail)
  refine lx_plain_to 7 [none, none, none, some (Shv 0 lo), none, some (Cvl lo)] (lasts_none (lasts_none (lasts_none (lasts_some (Shv.lasts _ _) (lasts_none (lasts_some (Cvl.lasts _) (lasts_nil))))))) ?_
  simp only [its, List.take, List.drop, Nat.zero_add, Nat.reduceAdd]
  refine ja hD10 Tryd.underlying48 (by rfl) info_cv ?_
  refine jn (.pointer (some ⟨(w.heap.size + 1), 1, none⟩)) ?_
  refine jg (.agg #[.bool n', st p, st q]) (fun X hX hF => exec_inr 26 _ (by rfl) (w.heap.size + 1) 1 [.bool n', .string ⟨p.toArray⟩, .string ⟨q.toArray⟩] (by rfl) Tryd.underlying26 rfl X (hB1.bel hX) (by rfl) info_rat) ?_
  refine jk (fun X hX hF => (scaleV ld _ n' p q (ht.mono (by omega)) X ⟨A10, n10, c10, rfl, hr10.below hX, hl10, hm10⟩ hfd).mono fun e X' ⟨u, h1, h2, h3⟩ => ⟨u, h1, by rw [HSO.out.1, HSO.out.2] at h2; exact h2, h3⟩) ?_
  intro v140
  refine jm (v140) ?_
  refine lx_new (by rfl) (fun X hX hF => Shv.ext _ (by rfl) (by rfl) (hF _ _ List.mem_cons_self rfl)) ?_
  intro v141
  simp only [pX]
  refine jg (.int .i64 0) (fun X hX hF => Shv.err _ (by rfl) (by rfl) (hF _ _ (List.mem_cons_of_mem _ List.mem_cons_self) rfl)) ?_
  refine lx_nil ?_
  intro X12 hX12 hF
  have hv140 := hF _ _ (List.mem_cons_of_mem _ List.mem_cons_self)
  have hv141 := hF _ _ List.mem_cons_self
  have hr8 := hr8.below hX12
  have hr10 := hr10.below hX12
  have hr12 := hr12.below hX12
  have hr14 := hr14.below hX12
  have hB0 := hB0.bel hX12
  have hB1 := hB1.bel hX12
  have hB2 := hB2.bel hX12
  have hD8 := hD8.bel hX12
  have hD10 := hD10.bel hX12
  have hD12 := hD12.bel hX12
  have hD14 := hD14.bel hX12
  have hb := bel_next hb hX12
  clear hF hX12
  obtain ⟨A16, n16, c16, rfl, hr16, hl16, hm16⟩ := hv141
  clear hv140
  go_upto_region 19 with (refine osn 48 16 141 #[.slice A16 n16 c16] info_cv ?_)
  obtain ⟨Y12, hY9, hD16, hS9⟩ := start1 X12 48 [.slice A16 n16 c16]
  rw [← hY9]
  clear hY9
  have hgs16 := hb.size
  have hlt16x0 := hB0.lt
  have hlt16x1 := hB1.lt
  have hlt16x2 := hB2.lt
  have hlt16x3 := hD8.lt
  have hlt16x4 := hD10.lt
  have hlt16x5 := hD12.lt
  have hlt16x6 := hD14.lt
  have hr8 := hr8.below hS9
  have hr10 := hr10.below hS9
  have hr12 := hr12.below hS9
  have hr14 := hr14.below hS9
  have hr16 := hr16.below hS9
  have hB0 := hB0.bel hS9
  have hB1 := hB1.bel hS9
  have hB2 := hB2.bel hS9
  have hD8 := hD8.bel hS9
  have hD10 := hD10.bel hS9
  have hD12 := hD12.bel hS9
  have hD14 := hD14.bel hS9
  have hb := bel_next hb hS9
  clear hS9
  generalize X12.heap.size = g16 at *
  refine lx_plain_to 7 [none, none, none, some (Shv 0 lo), none, some (Cvl lo)] (lasts_none (lasts_none (lasts_none (lasts_some (Shv.lasts _ _) (lasts_none (lasts_some (Cvl.lasts _) (lasts_nil))))))) ?_
  simp only [its, List.take, List.drop, Nat.zero_add, Nat.reduceAdd]
  refine ja hD8 Tryd.underlying48 (by rfl) info_cv ?_
  refine jn (.pointer (some ⟨(w.heap.size + 1), 0, none⟩)) ?_
  refine jf (.int .i64 d) hB1 0 load_int ?_
  refine jk (fun X hX hF => (shiftV ls _ d X ⟨A8, n8, c8, rfl, hr8.below hX, hl8, hm8⟩ hfs).mono fun e X' ⟨u, h1, h2, h3⟩ => ⟨u, h1, by rw [HSP.out.1, HSP.out.2] at h2; exact h2, h3⟩) ?_
  intro v147
  refine jm (v147) ?_
  refine lx_new (by rfl) (fun X hX hF => Shv.ext _ (by rfl) (by rfl) (hF _ _ List.mem_cons_self rfl)) ?_
  intro v148
  simp only [pX]
  refine jg (.int .i64 0) (fun X hX hF => Shv.err _ (by rfl) (by rfl) (hF _ _ (List.mem_cons_of_mem _ List.mem_cons_self) rfl)) ?_
  refine lx_nil ?_
  intro X13 hX13 hF
  have hv147 := hF _ _ (List.mem_cons_of_mem _ List.mem_cons_self)
  have hv148 := hF _ _ List.mem_cons_self
  have hr8 := hr8.below hX13
  have hr10 := hr10.below hX13
  have hr12 := hr12.below hX13
  have hr14 := hr14.below hX13
  have hr16 := hr16.below hX13
  have hB0 := hB0.bel hX13
  have hB1 := hB1.bel hX13
  have hB2 := hB2.bel hX13
  have hD8 := hD8.bel hX13
  have hD10 := hD10.bel hX13
  have hD12 := hD12.bel hX13
  have hD14 := hD14.bel hX13
  have hD16 := hD16.bel hX13
  have hb := bel_next hb hX13
  clear hF hX13
  obtain ⟨A18, n18, c18, rfl, hr18, hl18, hm18⟩ := hv148
  clear hv147
  go_upto_region 20 with (refine osn 48 18 148 #[.slice A18 n18 c18] info_cv ?_)
  obtain ⟨Y13, hY9, hD18, hS9⟩ := start1 X13 48 [.slice A18 n18 c18]
  rw [← hY9]
  clear hY9
  have hgs18 := hb.size
  have hlt18x0 := hB0.lt
  have hlt18x1 := hB1.lt
  have hlt18x2 := hB2.lt
  have hlt18x3 := hD8.lt
  have hlt18x4 := hD10.lt
  have hlt18x5 := hD12.lt
  have hlt18x6 := hD14.lt
  have hlt18x7 := hD16.lt
  have hr8 := hr8.below hS9
  have hr10 := hr10.below hS9
  have hr12 := hr12.below hS9
  have hr14 := hr14.below hS9
  have hr16 := hr16.below hS9
  have hr18 := hr18.below hS9
  have hB0 := hB0.bel hS9
  have hB1 := hB1.bel hS9
  have hB2 := hB2.bel hS9
  have hD8 := hD8.bel hS9
  have hD10 := hD10.bel hS9
  have hD12 := hD12.bel hS9
  have hD14 := hD14.bel hS9
  have hD16 := hD16.bel hS9
  have hb := bel_next hb hS9
  clear hS9
  generalize X13.heap.size = g18 at *
  refine jp ?_
  refine jc (.bool true) (fun X hX hF => sanityC X) ?_
  refine jm (.bool true) ?_
  refine jm (.int .i64 0) ?_
  refine jv (.bool true) (exec_eqi _ _ _ _ (by rfl) .i64 0 0 (by rfl) (by rfl) true (decide_eq_true (by omega))) ?_
  refine jm (.bool true) ?_
  refine jm (.bool true) ?_
  refine jm (.int .i64 0) ?_
  refine jv (.bool true) (exec_eqi _ _ _ _ (by rfl) .i64 0 0 (by rfl) (by rfl) true (decide_eq_true (by omega))) ?_
  refine jm (.bool true) ?_
  refine jm (.bool true) ?_
  refine ja hD16 Tryd.underlying48 (by rfl) info_cv ?_
  refine ja hD18 Tryd.underlying48 (by rfl) info_cv ?_
  refine jc (.bool true) (fun X hX hF => mo (sameV lo lo _ _ X ⟨A16, n16, c16, rfl, hr16.below hX, hl16, hm16⟩ ⟨A18, n18, c18, rfl, hr18.below hX, hl18, hm18⟩) (by rw [decide_eq_true rfl])) ?_
  refine jm (.bool true) ?_
  refine jm (.bool true) ?_
  refine jz fun X14 hX14 => ?_
  have hr8 := hr8.below hX14
  have hr10 := hr10.below hX14
  have hr12 := hr12.below hX14
  have hr14 := hr14.below hX14
  have hr16 := hr16.below hX14
  have hr18 := hr18.below hX14
  have hB0 := hB0.bel hX14
  have hB1 := hB1.bel hX14
  have hB2 := hB2.bel hX14
  have hD8 := hD8.bel hX14
  have hD10 := hD10.bel hX14
  have hD12 := hD12.bel hX14
  have hD14 := hD14.bel hX14
  have hD16 := hD16.bel hX14
  have hD18 := hD18.bel hX14
  have hb := bel_next hb hX14
  clear hX14
  go_wp2
  go_ret
  exact ⟨rfl, hb⟩
theorem shfsM_ok_0 (w : World) (b off : Nat) (n c : Nat) (l : List Pt) (hr : Rd w 4 (.slice (some ⟨b, off, none⟩) n c) n (fl ptc l)) (hln : l.length = n) (hn1 : n ≤ 9223372036854775807) (d : Int) (n' : Bool) (p q : List UInt8) (d0 : -9223372036854775808 ≤ d) (d1 : d ≤ 9223372036854775807) (s t : Int) (s0 : -32768 ≤ s) (s1 : s ≤ 32767) (e0 : -32768 ≤ t) (e1 : t ≤ 32767) (HF8 : Hid (fewB l 8 = true)) (hf : fewP l 1000) (hc : ck l = 0) (ht : tz p q 20) (y : Rat) (HY : Hid (rq n' p q = y)) (ls : List Pt) (fs : Rat) (sfs : szR fs 10000) (HSC : Hid (scE l (n', p, q) = 0 ∧ scL l (n', p, q) = ls)) (HV : Hid (vd n' p q = true)) (HNB : Hid (n' = false)) (hfs : fewP ls 1000) (HFS : Hid (flowC0 ls s = y * fs)) (HF0 : Hid (flowC0 l s = fs)) (ld : List Pt) (HSH : Hid (shE l d = 3 ∧ shL l d = ld)) : Calls Tryd.prog 9 #[.agg #[.slice (some ⟨b, off, none⟩) n c], .agg #[.int .i64 d, .bool n', .string ⟨p.toArray⟩, .string ⟨q.toArray⟩], .agg #[.int .i16 s, .int .i16 t]] w fun e w' => e = .returned (.bool true) ∧ Since w w' := by
  have LB0 : szR fs 10000 := sfs
  have HRX : Hid (∀ X, Since w X → Rd X 4 (.slice (some ⟨b, off, none⟩) n c) n (fl ptc l)) := fun X h => hr.below h
  clear hr
  have hp : p.length ≤ 20 := ht.1
  have hq : q.length ≤ 20 := ht.2
  go_enter Tryd.func9, Tryd.ntmps9
  go_upto_region 1 with (fail)
  obtain ⟨W0, hW0, hB0, hB1, hB2, hb⟩ := start3 w 48 60 62 [.slice (some ⟨b, off, none⟩) n c] [.int .i64 d, .bool n', .string ⟨p.toArray⟩, .string ⟨q.toArray⟩] [.int .i16 s, .int .i16 t]
  rw [← hW0]
  clear hW0
  refine jp ?_
  refine ja hB0 Tryd.underlying48 (by rfl) info_cv ?_
  refine jc (.bool true) (fun X hX hF => mo (few13L (some ⟨b, off, none⟩) n c l X (HRX.out X (hb.trans (Below.mono hX hb.size))) hln hn1) (by rw [HF8.out])) ?_
  refine jm (.bool false) ?_
  refine jm (.bool false) ?_
  refine jn (.pointer (some ⟨(w.heap.size + 1), 1, none⟩)) ?_
  refine jn (.pointer (some ⟨(w.heap.size + 1), 2, none⟩)) ?_
  refine jf (st p) hB1 2 load_str ?_
  refine jv (.int .i64 (p.length : Int)) (exec_lens Tryd.underlying9 _ (by rfl) p (by rfl) _ rfl) ?_
  refine jv (.bool false) (exec_gtr _ _ _ _ (by rfl) .i64 (p.length : Int) 20 (by rfl) (by rfl) false (decide_eq_false (by omega))) ?_
  refine jm (.bool false) ?_
  refine jm (.bool false) ?_
  refine jn (.pointer (some ⟨(w.heap.size + 1), 1, none⟩)) ?_
  refine jn (.pointer (some ⟨(w.heap.size + 1), 3, none⟩)) ?_
  refine jf (st q) hB1 3 load_str ?_
  refine jv (.int .i64 (q.length : Int)) (exec_lens Tryd.underlying9 _ (by rfl) q (by rfl) _ rfl) ?_
  refine jv (.bool false) (exec_gtr _ _ _ _ (by rfl) .i64 (q.length : Int) 20 (by rfl) (by rfl) false (decide_eq_false (by omega))) ?_
  refine jm (.bool false) ?_
  refine jm (.bool false) ?_
  refine ja hB0 Tryd.underlying48 (by rfl) info_cv ?_
  refine jc (.int .i64 0) (fun X hX hF => mo (checkC (some ⟨b, off, none⟩) n c l X (HRX.out X (hb.trans (Below.mono hX hb.size))) hln hn1 hf.mono) (by rw [hc])) ?_
  refine jv (.bool false) (exec_nei _ _ _ _ (by rfl) .i64 0 0 (by rfl) (by rfl) false (by rw [decide_eq_true (by omega)]; rfl)) ?_
  refine jm (.bool false) ?_
  refine jz fun X1 hX1 => ?_
  have hB0 := hB0.bel hX1
  have hB1 := hB1.bel hX1
  have hB2 := hB2.bel hX1
  have hb := bel_next hb hX1
  clear hX1
  go_upto_region 3 with (fail)
  refine jp ?_
  refine jn (.pointer (some ⟨(w.heap.size + 2), 0, none⟩)) ?_
  refine jf (.int .i16 s) hB2 0 load_i16 ?_
  refine jv (.int .i64 s) (exec_cnv _ _ .i16 .i64 Tryd.underlying61 Tryd.underlying3 _ (by rfl) s s (by rfl) (by rw [IntWalk.i64_in _ (by omega)])) ?_
  refine jm (.int .i64 s) ?_
  refine jz fun X2 hX2 => ?_
  have hB0 := hB0.bel hX2
  have hB1 := hB1.bel hX2
  have hB2 := hB2.bel hX2
  have hb := bel_next hb hX2
  clear hX2
  go_upto_region 4 with (fail)
  refine lx_plain_to 7 [none, none, none, some (Shv 0 ls), none, some (Cvl ls)] (lasts_none (lasts_none (lasts_none (lasts_some (Shv.lasts _ _) (lasts_none (lasts_some (Cvl.lasts _) (lasts_nil))))))) ?_
  simp only [its, List.take, List.drop, Nat.zero_add, Nat.reduceAdd]
  refine ja hB0 Tryd.underlying48 (by rfl) info_cv ?_
  refine jn (.pointer (some ⟨(w.heap.size + 1), 1, none⟩)) ?_
  refine jg (.agg #[.bool n', st p, st q]) (fun X hX hF => exec_inr 26 _ (by rfl) (w.heap.size + 1) 1 [.bool n', .string ⟨p.toArray⟩, .string ⟨q.toArray⟩] (by rfl) Tryd.underlying26 rfl X (hB1.bel hX) (by rfl) info_rat) ?_
  refine jk (fun X hX hF => (scaleV l _ n' p q (ht.mono (by omega)) X ⟨(some ⟨b, off, none⟩), n, c, rfl, (HRX.out X (hb.trans (Below.mono hX hb.size))), hln, hn1⟩ hf).mono fun e X' ⟨u, h1, h2, h3⟩ => ⟨u, h1, by rw [HSC.out.1, HSC.out.2] at h2; exact h2, h3⟩) ?_
  intro v50
  refine jm (v50) ?_
  refine lx_new (by rfl) (fun X hX hF => Shv.ext _ (by rfl) (by rfl) (hF _ _ List.mem_cons_self rfl)) ?_
  intro v51
  simp only [pX]
  refine jg (.int .i64 0) (fun X hX hF => Shv.err _ (by rfl) (by rfl) (hF _ _ (List.mem_cons_of_mem _ List.mem_cons_self) rfl)) ?_
  refine lx_nil ?_
  intro X3 hX3 hF
  have hv50 := hF _ _ (List.mem_cons_of_mem _ List.mem_cons_self)
  have hv51 := hF _ _ List.mem_cons_self
  have hB0 := hB0.bel hX3
  have hB1 := hB1.bel hX3
  have hB2 := hB2.bel hX3
  have hb := bel_next hb hX3
  clear hF hX3
  obtain ⟨A8, n8, c8, rfl, hr8, hl8, hm8⟩ := hv51
  clear hv50
  go_upto_region 5 with (refine osn 48 8 51 #[.slice A8 n8 c8] info_cv ?_)
  obtain ⟨Y3, hY9, hD8, hS9⟩ := start1 X3 48 [.slice A8 n8 c8]
  rw [← hY9]
  clear hY9
  have hgs8 := hb.size
  have hlt8x0 := hB0.lt
  have hlt8x1 := hB1.lt
  have hlt8x2 := hB2.lt
  have hr8 := hr8.below hS9
  have hB0 := hB0.bel hS9
  have hB1 := hB1.bel hS9
  have hB2 := hB2.bel hS9
  have hb := bel_next hb hS9
  clear hS9
  generalize X3.heap.size = g8 at *
  refine jd ?_
  refine jm (.int .i64 0) ?_
  refine jv (.bool true) (exec_eqi _ _ _ _ (by rfl) .i64 0 0 (by rfl) (by rfl) true (decide_eq_true (by omega))) ?_
  refine jn (.pointer (some ⟨(w.heap.size + 1), 1, none⟩)) ?_
  refine jg (.agg #[.bool n', st p, st q]) (fun X hX hF => exec_inr 26 _ (by rfl) (w.heap.size + 1) 1 [.bool n', .string ⟨p.toArray⟩, .string ⟨q.toArray⟩] (by rfl) Tryd.underlying26 rfl X (hB1.bel hX) (by rfl) info_rat) ?_
  refine jc (.bool true) (fun X hX hF => mo (validG n' p q X (ht.mono (by omega))) (by rw [HV.out])) ?_
  refine jm (.bool true) ?_
  refine jn (.pointer (some ⟨(w.heap.size + 1), 1, none⟩)) ?_
  refine jn (.pointer (some ⟨(w.heap.size + 1), 1, none⟩)) ?_
  refine jg (.bool false) (fun X hX hF => exec_ld 4 _ (by rfl) (w.heap.size + 1) 1 (by rfl) (.bool false) X (by rw [← HNB.out]; exact (hB1.bel hX).cell (j := 1) rfl) (fun X u h => load_bool (w.heap.size + 1) 1 X u h)) ?_
  refine jm (.bool true) ?_
  refine jm (.bool true) ?_
  refine jm (.bool false) ?_
  refine jm (.bool false) ?_
  refine jm (.int .i64 0) ?_
  refine jv (.bool true) (exec_eqi _ _ _ _ (by rfl) .i64 0 0 (by rfl) (by rfl) true (decide_eq_true (by omega))) ?_
  refine jm (.bool true) ?_
  refine ja hD8 Tryd.underlying48 (by rfl) info_cv ?_
  refine jm (.int .i64 s) ?_
  refine jc (rt (rN (y * fs)) (rP (y * fs)) (rD (y * fs))) (fun X hX hF => mo (flowV ls _ s X ⟨A8, n8, c8, rfl, hr8.below hX, hl8, hm8⟩ hfs) (by rw [HFS.out])) ?_
  refine jn (.pointer (some ⟨(w.heap.size + 1), 1, none⟩)) ?_
  refine jg (.agg #[.bool n', st p, st q]) (fun X hX hF => exec_inr 26 _ (by rfl) (w.heap.size + 1) 1 [.bool n', .string ⟨p.toArray⟩, .string ⟨q.toArray⟩] (by rfl) Tryd.underlying26 rfl X (hB1.bel hX) (by rfl) info_rat) ?_
  refine ja hB0 Tryd.underlying48 (by rfl) info_cv ?_
  refine jm (.int .i64 s) ?_
  refine jc (rt (rN fs) (rP fs) (rD fs)) (fun X hX hF => mo (flowV l _ s X ⟨(some ⟨b, off, none⟩), n, c, rfl, (HRX.out X (hb.trans (Below.mono hX hb.size))), hln, hn1⟩ hf) (by rw [HF0.out])) ?_
  refine jc (rt (rN (y * fs)) (rP (y * fs)) (rD (y * fs))) (fun X hX hF => mulG n' p q (rN fs) (rP fs) (rD fs) HY.out (rq_rb fs) X (ht.mono (by omega)) (tzR LB0 (by omega))) ?_
  refine jv (.bool false) (exec_ner _ _ (by rfl) (rN (y * fs)) (rP (y * fs)) (rD (y * fs)) (rN (y * fs)) (rP (y * fs)) (rD (y * fs)) (by rfl) (by rfl) false (rb_eqt rfl)) ?_
  refine jm (.bool false) ?_
  refine jm (.bool false) ?_
  refine jz fun X4 hX4 => ?_
  have hr8 := hr8.below hX4
  have hB0 := hB0.bel hX4
  have hB1 := hB1.bel hX4
  have hB2 := hB2.bel hX4
  have hD8 := hD8.bel hX4
  have hb := bel_next hb hX4
  clear hX4
  go_upto_region 7 with (fail)
  refine lx_plain_to 7 [none, none, none, some (Shv 3 ld), none, some (Cvl ld)] (lasts_none (lasts_none (lasts_none (lasts_some (Shv.lasts _ _) (lasts_none (lasts_some (Cvl.lasts _) (lasts_nil))))))) ?_
  simp only [its, List.take, List.drop, Nat.zero_add, Nat.reduceAdd]
  refine ja hB0 Tryd.underlying48 (by rfl) info_cv ?_
  refine jn (.pointer (some ⟨(w.heap.size + 1), 0, none⟩)) ?_
  refine jf (.int .i64 d) hB1 0 load_int ?_
  refine jk (fun X hX hF => (shiftV l _ d X ⟨(some ⟨b, off, none⟩), n, c, rfl, (HRX.out X (hb.trans (Below.mono hX hb.size))), hln, hn1⟩ hf).mono fun e X' ⟨u, h1, h2, h3⟩ => ⟨u, h1, by rw [HSH.out.1, HSH.out.2] at h2; exact h2, h3⟩) ?_
  intro v85
  refine jm (v85) ?_
  refine lx_new (by rfl) (fun X hX hF => Shv.ext _ (by rfl) (by rfl) (hF _ _ List.mem_cons_self rfl)) ?_
  intro v86
  simp only [pX]
  refine jg (.int .i64 3) (fun X hX hF => Shv.err _ (by rfl) (by rfl) (hF _ _ (List.mem_cons_of_mem _ List.mem_cons_self) rfl)) ?_
  refine lx_nil ?_
  intro X5 hX5 hF
  have hv85 := hF _ _ (List.mem_cons_of_mem _ List.mem_cons_self)
  have hv86 := hF _ _ List.mem_cons_self
  have hr8 := hr8.below hX5
  have hB0 := hB0.bel hX5
  have hB1 := hB1.bel hX5
  have hB2 := hB2.bel hX5
  have hD8 := hD8.bel hX5
  have hb := bel_next hb hX5
  clear hF hX5
  obtain ⟨A10, n10, c10, rfl, hr10, hl10, hm10⟩ := hv86
  clear hv85
  go_upto_region 8 with (refine osn 48 10 86 #[.slice A10 n10 c10] info_cv ?_)
  obtain ⟨Y5, hY9, hD10, hS9⟩ := start1 X5 48 [.slice A10 n10 c10]
  rw [← hY9]
  clear hY9
  have hgs10 := hb.size
  have hlt10x0 := hB0.lt
  have hlt10x1 := hB1.lt
  have hlt10x2 := hB2.lt
  have hlt10x3 := hD8.lt
  have hr8 := hr8.below hS9
  have hr10 := hr10.below hS9
  have hB0 := hB0.bel hS9
  have hB1 := hB1.bel hS9
  have hB2 := hB2.bel hS9
  have hD8 := hD8.bel hS9
  have hb := bel_next hb hS9
  clear hS9
  generalize X5.heap.size = g10 at *
  refine jp ?_
  refine jm (.int .i64 3) ?_
  refine jv (.bool true) (exec_nei _ _ _ _ (by rfl) .i64 3 0 (by rfl) (by rfl) true (by rw [decide_eq_false (by omega)]; rfl)) ?_
  refine jz fun X6 hX6 => ?_
  have hr8 := hr8.below hX6
  have hr10 := hr10.below hX6
  have hB0 := hB0.bel hX6
  have hB1 := hB1.bel hX6
  have hB2 := hB2.bel hX6
  have hD8 := hD8.bel hX6
  have hD10 := hD10.bel hX6
  have hb := bel_next hb hX6
  clear hX6
  go_upto_region 9 with (fail)
  refine jp ?_
  refine jc (.bool true) (fun X hX hF => sanityC X) ?_
  refine jm (.bool true) ?_
  refine jm (.int .i64 3) ?_
  refine jv (.bool true) (exec_eqi _ _ _ _ (by rfl) .i64 3 3 (by rfl) (by rfl) true (decide_eq_true (by omega))) ?_
  refine jm (.bool true) ?_
  refine jm (.bool true) ?_
  refine jz fun X7 hX7 => ?_
  have hr8 := hr8.below hX7
  have hr10 := hr10.below hX7
  have hB0 := hB0.bel hX7
  have hB1 := hB1.bel hX7
  have hB2 := hB2.bel hX7
  have hD8 := hD8.bel hX7
  have hD10 := hD10.bel hX7
  have hb := bel_next hb hX7
  clear hX7
  go_wp2
  go_ret
  exact ⟨rfl, hb⟩
theorem shfsM_inv_1 (w : World) (b off : Nat) (n c : Nat) (l : List Pt) (hr : Rd w 4 (.slice (some ⟨b, off, none⟩) n c) n (fl ptc l)) (hln : l.length = n) (hn1 : n ≤ 9223372036854775807) (d : Int) (n' : Bool) (p q : List UInt8) (d0 : -9223372036854775808 ≤ d) (d1 : d ≤ 9223372036854775807) (s t : Int) (s0 : -32768 ≤ s) (s1 : s ≤ 32767) (e0 : -32768 ≤ t) (e1 : t ≤ 32767) (HF8 : Hid (fewB l 8 = true)) (hf : fewP l 1000) (hc : ck l = 0) (ht : tz p q 20) (y : Rat) (HY : Hid (rq n' p q = y)) (ls : List Pt) (fs : Rat) (sfs : szR fs 10000) (HSC : Hid (scE l (n', p, q) = 1 ∧ scL l (n', p, q) = ls)) (HV : Hid (vd n' p q = false)) (ld : List Pt) (HSH : Hid (shE l d = 0 ∧ shL l d = ld)) (dd0 : -4000 ≤ d) (dd1 : d ≤ 4000) (hfd : fewP ld 1000) (fd : Rat) (sfd : szR fd 10000) (HFD : Hid (flowC0 ld s = fd)) (HFE : Hid (flowC0 l (s + d) = fd)) (E2 : Int) (lt : List Pt) (HST : Hid (shE ld t = E2 ∧ shL ld t = lt)) (HSB : Hid (shE l (d + t) = E2 ∧ shL l (d + t) = lt)) : Calls Tryd.prog 9 #[.agg #[.slice (some ⟨b, off, none⟩) n c], .agg #[.int .i64 d, .bool n', .string ⟨p.toArray⟩, .string ⟨q.toArray⟩], .agg #[.int .i16 s, .int .i16 t]] w fun e w' => e = .returned (.bool true) ∧ Since w w' := by
  have HRX : Hid (∀ X, Since w X → Rd X 4 (.slice (some ⟨b, off, none⟩) n c) n (fl ptc l)) := fun X h => hr.below h
  clear hr
  have hp : p.length ≤ 20 := ht.1
  have hq : q.length ≤ 20 := ht.2
  go_enter Tryd.func9, Tryd.ntmps9
  go_upto_region 1 with (fail)
  obtain ⟨W0, hW0, hB0, hB1, hB2, hb⟩ := start3 w 48 60 62 [.slice (some ⟨b, off, none⟩) n c] [.int .i64 d, .bool n', .string ⟨p.toArray⟩, .string ⟨q.toArray⟩] [.int .i16 s, .int .i16 t]
  rw [← hW0]
  clear hW0
  refine jp ?_
  refine ja hB0 Tryd.underlying48 (by rfl) info_cv ?_
  refine jc (.bool true) (fun X hX hF => mo (few13L (some ⟨b, off, none⟩) n c l X (HRX.out X (hb.trans (Below.mono hX hb.size))) hln hn1) (by rw [HF8.out])) ?_
  refine jm (.bool false) ?_
  refine jm (.bool false) ?_
  refine jn (.pointer (some ⟨(w.heap.size + 1), 1, none⟩)) ?_
  refine jn (.pointer (some ⟨(w.heap.size + 1), 2, none⟩)) ?_
  refine jf (st p) hB1 2 load_str ?_
  refine jv (.int .i64 (p.length : Int)) (exec_lens Tryd.underlying9 _ (by rfl) p (by rfl) _ rfl) ?_
  refine jv (.bool false) (exec_gtr _ _ _ _ (by rfl) .i64 (p.length : Int) 20 (by rfl) (by rfl) false (decide_eq_false (by omega))) ?_
  refine jm (.bool false) ?_
  refine jm (.bool false) ?_
  refine jn (.pointer (some ⟨(w.heap.size + 1), 1, none⟩)) ?_
  refine jn (.pointer (some ⟨(w.heap.size + 1), 3, none⟩)) ?_
  refine jf (st q) hB1 3 load_str ?_
  refine jv (.int .i64 (q.length : Int)) (exec_lens Tryd.underlying9 _ (by rfl) q (by rfl) _ rfl) ?_
  refine jv (.bool false) (exec_gtr _ _ _ _ (by rfl) .i64 (q.length : Int) 20 (by rfl) (by rfl) false (decide_eq_false (by omega))) ?_
  refine jm (.bool false) ?_
  refine jm (.bool false) ?_
  refine ja hB0 Tryd.underlying48 (by rfl) info_cv ?_
  refine jc (.int .i64 0) (fun X hX hF => mo (checkC (some ⟨b, off, none⟩) n c l X (HRX.out X (hb.trans (Below.mono hX hb.size))) hln hn1 hf.mono) (by rw [hc])) ?_
  refine jv (.bool false) (exec_nei _ _ _ _ (by rfl) .i64 0 0 (by rfl) (by rfl) false (by rw [decide_eq_true (by omega)]; rfl)) ?_
  refine jm (.bool false) ?_
  refine jz fun X1 hX1 => ?_
  have hB0 := hB0.bel hX1
  have hB1 := hB1.bel hX1
  have hB2 := hB2.bel hX1
  have hb := bel_next hb hX1
  clear hX1
  go_upto_region 3 with (fail)
  refine jp ?_
  refine jn (.pointer (some ⟨(w.heap.size + 2), 0, none⟩)) ?_
  refine jf (.int .i16 s) hB2 0 load_i16 ?_
  refine jv (.int .i64 s) (exec_cnv _ _ .i16 .i64 Tryd.underlying61 Tryd.underlying3 _ (by rfl) s s (by rfl) (by rw [IntWalk.i64_in _ (by omega)])) ?_
  refine jm (.int .i64 s) ?_
  refine jz fun X2 hX2 => ?_
  have hB0 := hB0.bel hX2
  have hB1 := hB1.bel hX2
  have hB2 := hB2.bel hX2
  have hb := bel_next hb hX2
  clear hX2
  go_upto_region 4 with (fail)
  refine lx_plain_to 7 [none, none, none, some (Shv 1 ls), none, some (Cvl ls)] (lasts_none (lasts_none (lasts_none (lasts_some (Shv.lasts _ _) (lasts_none (lasts_some (Cvl.lasts _) (lasts_nil))))))) ?_
  simp only [its, List.take, List.drop, Nat.zero_add, Nat.reduceAdd]
  refine ja hB0 Tryd.underlying48 (by rfl) info_cv ?_
  refine jn (.pointer (some ⟨(w.heap.size + 1), 1, none⟩)) ?_
  refine jg (.agg #[.bool n', st p, st q]) (fun X hX hF => exec_inr 26 _ (by rfl) (w.heap.size + 1) 1 [.bool n', .string ⟨p.toArray⟩, .string ⟨q.toArray⟩] (by rfl) Tryd.underlying26 rfl X (hB1.bel hX) (by rfl) info_rat) ?_
  refine jk (fun X hX hF => (scaleV l _ n' p q (ht.mono (by omega)) X ⟨(some ⟨b, off, none⟩), n, c, rfl, (HRX.out X (hb.trans (Below.mono hX hb.size))), hln, hn1⟩ hf).mono fun e X' ⟨u, h1, h2, h3⟩ => ⟨u, h1, by rw [HSC.out.1, HSC.out.2] at h2; exact h2, h3⟩) ?_
  intro v50
  refine jm (v50) ?_
  refine lx_new (by rfl) (fun X hX hF => Shv.ext _ (by rfl) (by rfl) (hF _ _ List.mem_cons_self rfl)) ?_
  intro v51
  simp only [pX]
  refine jg (.int .i64 1) (fun X hX hF => Shv.err _ (by rfl) (by rfl) (hF _ _ (List.mem_cons_of_mem _ List.mem_cons_self) rfl)) ?_
  refine lx_nil ?_
  intro X3 hX3 hF
  have hv50 := hF _ _ (List.mem_cons_of_mem _ List.mem_cons_self)
  have hv51 := hF _ _ List.mem_cons_self
  have hB0 := hB0.bel hX3
  have hB1 := hB1.bel hX3
  have hB2 := hB2.bel hX3
  have hb := bel_next hb hX3
  clear hF hX3
  obtain ⟨A8, n8, c8, rfl, hr8, hl8, hm8⟩ := hv51
  clear hv50
  go_upto_region 5 with (refine osn 48 8 51 #[.slice A8 n8 c8] info_cv ?_)
  obtain ⟨Y3, hY9, hD8, hS9⟩ := start1 X3 48 [.slice A8 n8 c8]
  rw [← hY9]
  clear hY9
  have hgs8 := hb.size
  have hlt8x0 := hB0.lt
  have hlt8x1 := hB1.lt
  have hlt8x2 := hB2.lt
  have hr8 := hr8.below hS9
  have hB0 := hB0.bel hS9
  have hB1 := hB1.bel hS9
  have hB2 := hB2.bel hS9
  have hb := bel_next hb hS9
  clear hS9
  generalize X3.heap.size = g8 at *
  refine jd ?_
  refine jm (.int .i64 1) ?_
  refine jv (.bool false) (exec_eqi _ _ _ _ (by rfl) .i64 1 0 (by rfl) (by rfl) false (decide_eq_false (by omega))) ?_
  refine jn (.pointer (some ⟨(w.heap.size + 1), 1, none⟩)) ?_
  refine jg (.agg #[.bool n', st p, st q]) (fun X hX hF => exec_inr 26 _ (by rfl) (w.heap.size + 1) 1 [.bool n', .string ⟨p.toArray⟩, .string ⟨q.toArray⟩] (by rfl) Tryd.underlying26 rfl X (hB1.bel hX) (by rfl) info_rat) ?_
  refine jc (.bool false) (fun X hX hF => mo (validG n' p q X (ht.mono (by omega))) (by rw [HV.out])) ?_
  refine jm (.bool false) ?_
  refine js ?_
  refine js ?_
  refine js ?_
  refine js ?_
  refine jm (.bool false) ?_
  refine jm (.bool false) ?_
  refine jm (.bool false) ?_
  refine jm (.int .i64 1) ?_
  refine jv (.bool false) (exec_eqi _ _ _ _ (by rfl) .i64 1 0 (by rfl) (by rfl) false (decide_eq_false (by omega))) ?_
  refine jm (.bool false) ?_
  refine js ?_
  refine js ?_
  refine js ?_
  refine js ?_
  refine js ?_
  refine js ?_
  refine js ?_
  refine js ?_
  refine js ?_
  refine js ?_
  refine jm (.bool false) ?_
  refine jm (.bool false) ?_
  refine jz fun X4 hX4 => ?_
  have hr8 := hr8.below hX4
  have hB0 := hB0.bel hX4
  have hB1 := hB1.bel hX4
  have hB2 := hB2.bel hX4
  have hD8 := hD8.bel hX4
  have hb := bel_next hb hX4
  clear hX4
  go_upto_region 7 with (fail)
  refine lx_plain_to 7 [none, none, none, some (Shv 0 ld), none, some (Cvl ld)] (lasts_none (lasts_none (lasts_none (lasts_some (Shv.lasts _ _) (lasts_none (lasts_some (Cvl.lasts _) (lasts_nil))))))) ?_
  simp only [its, List.take, List.drop, Nat.zero_add, Nat.reduceAdd]
  refine ja hB0 Tryd.underlying48 (by rfl) info_cv ?_
  refine jn (.pointer (some ⟨(w.heap.size + 1), 0, none⟩)) ?_
  refine jf (.int .i64 d) hB1 0 load_int ?_
  refine jk (fun X hX hF => (shiftV l _ d X ⟨(some ⟨b, off, none⟩), n, c, rfl, (HRX.out X (hb.trans (Below.mono hX hb.size))), hln, hn1⟩ hf).mono fun e X' ⟨u, h1, h2, h3⟩ => ⟨u, h1, by rw [HSH.out.1, HSH.out.2] at h2; exact h2, h3⟩) ?_
  intro v85
  refine jm (v85) ?_
  refine lx_new (by rfl) (fun X hX hF => Shv.ext _ (by rfl) (by rfl) (hF _ _ List.mem_cons_self rfl)) ?_
  intro v86
  simp only [pX]
  refine jg (.int .i64 0) (fun X hX hF => Shv.err _ (by rfl) (by rfl) (hF _ _ (List.mem_cons_of_mem _ List.mem_cons_self) rfl)) ?_
  refine lx_nil ?_
  intro X5 hX5 hF
  have hv85 := hF _ _ (List.mem_cons_of_mem _ List.mem_cons_self)
  have hv86 := hF _ _ List.mem_cons_self
  have hr8 := hr8.below hX5
  have hB0 := hB0.bel hX5
  have hB1 := hB1.bel hX5
  have hB2 := hB2.bel hX5
  have hD8 := hD8.bel hX5
  have hb := bel_next hb hX5
  clear hF hX5
  obtain ⟨A10, n10, c10, rfl, hr10, hl10, hm10⟩ := hv86
  clear hv85
  go_upto_region 8 with (refine osn 48 10 86 #[.slice A10 n10 c10] info_cv ?_)
  obtain ⟨Y5, hY9, hD10, hS9⟩ := start1 X5 48 [.slice A10 n10 c10]
  rw [← hY9]
  clear hY9
  have hgs10 := hb.size
  have hlt10x0 := hB0.lt
  have hlt10x1 := hB1.lt
  have hlt10x2 := hB2.lt
  have hlt10x3 := hD8.lt
  have hr8 := hr8.below hS9
  have hr10 := hr10.below hS9
  have hB0 := hB0.bel hS9
  have hB1 := hB1.bel hS9
  have hB2 := hB2.bel hS9
  have hD8 := hD8.bel hS9
  have hb := bel_next hb hS9
  clear hS9
  generalize X5.heap.size = g10 at *
  refine jp ?_
  refine jm (.int .i64 0) ?_
  refine jv (.bool false) (exec_nei _ _ _ _ (by rfl) .i64 0 0 (by rfl) (by rfl) false (by rw [decide_eq_true (by omega)]; rfl)) ?_
  refine jz fun X6 hX6 => ?_
  have hr8 := hr8.below hX6
  have hr10 := hr10.below hX6
  have hB0 := hB0.bel hX6
  have hB1 := hB1.bel hX6
  have hB2 := hB2.bel hX6
  have hD8 := hD8.bel hX6
  have hD10 := hD10.bel hX6
  have hb := bel_next hb hX6
  clear hX6
  go_upto_region 10 with (fail)
  refine jd ?_
  refine ja hD10 Tryd.underlying48 (by rfl) info_cv ?_
  refine jm (.int .i64 s) ?_
  refine jc (rt (rN fd) (rP fd) (rD fd)) (fun X hX hF => mo (flowV ld _ s X ⟨A10, n10, c10, rfl, hr10.below hX, hl10, hm10⟩ hfd) (by rw [HFD.out])) ?_
  refine ja hB0 Tryd.underlying48 (by rfl) info_cv ?_
  refine jm (.int .i64 s) ?_
  refine jn (.pointer (some ⟨(w.heap.size + 1), 0, none⟩)) ?_
  refine jf (.int .i64 d) hB1 0 load_int ?_
  refine jv (.int .i64 (s + d)) (exec_add _ _ _ _ (by rfl) s d (s + d) (by rfl) (by rfl) (by omega) (by omega) (by omega)) ?_
  refine jc (rt (rN fd) (rP fd) (rD fd)) (fun X hX hF => mo (flowV l _ (s + d) X ⟨(some ⟨b, off, none⟩), n, c, rfl, (HRX.out X (hb.trans (Below.mono hX hb.size))), hln, hn1⟩ hf) (by rw [HFE.out])) ?_
  refine jv (.bool false) (exec_ner _ _ (by rfl) (rN fd) (rP fd) (rD fd) (rN fd) (rP fd) (rD fd) (by rfl) (by rfl) false (rb_eqt rfl)) ?_
  refine jz fun X7 hX7 => ?_
  have hr8 := hr8.below hX7
  have hr10 := hr10.below hX7
  have hB0 := hB0.bel hX7
  have hB1 := hB1.bel hX7
  have hB2 := hB2.bel hX7
  have hD8 := hD8.bel hX7
  have hD10 := hD10.bel hX7
  have hb := bel_next hb hX7
  clear hX7
  go_upto_region 12 with (fail)
  refine lx_plain_to 8 [none, none, none, none, some (Shv (E2) lt), none, some (Cvl lt)] (lasts_none (lasts_none (lasts_none (lasts_none (lasts_some (Shv.lasts _ _) (lasts_none (lasts_some (Cvl.lasts _) (lasts_nil)))))))) ?_
  simp only [its, List.take, List.drop, Nat.zero_add, Nat.reduceAdd]
  refine ja hD10 Tryd.underlying48 (by rfl) info_cv ?_
  refine jn (.pointer (some ⟨(w.heap.size + 2), 1, none⟩)) ?_
  refine jf (.int .i16 t) hB2 1 load_i16 ?_
  refine jv (.int .i64 t) (exec_cnv _ _ .i16 .i64 Tryd.underlying61 Tryd.underlying3 _ (by rfl) t t (by rfl) (by rw [IntWalk.i64_in _ (by omega)])) ?_
  refine jk (fun X hX hF => (shiftV ld _ t X ⟨A10, n10, c10, rfl, hr10.below hX, hl10, hm10⟩ hfd).mono fun e X' ⟨u, h1, h2, h3⟩ => ⟨u, h1, by rw [HST.out.1, HST.out.2] at h2; exact h2, h3⟩) ?_
  intro v110
  refine jm (v110) ?_
  refine lx_new (by rfl) (fun X hX hF => Shv.ext _ (by rfl) (by rfl) (hF _ _ List.mem_cons_self rfl)) ?_
  intro v111
  simp only [pX]
  refine jg (.int .i64 (E2)) (fun X hX hF => Shv.err _ (by rfl) (by rfl) (hF _ _ (List.mem_cons_of_mem _ List.mem_cons_self) rfl)) ?_
  refine lx_nil ?_
  intro X8 hX8 hF
  have hv110 := hF _ _ (List.mem_cons_of_mem _ List.mem_cons_self)
  have hv111 := hF _ _ List.mem_cons_self
  have hr8 := hr8.below hX8
  have hr10 := hr10.below hX8
  have hB0 := hB0.bel hX8
  have hB1 := hB1.bel hX8
  have hB2 := hB2.bel hX8
  have hD8 := hD8.bel hX8
  have hD10 := hD10.bel hX8
  have hb := bel_next hb hX8
  clear hF hX8
  obtain ⟨A12, n12, c12, rfl, hr12, hl12, hm12⟩ := hv111
  clear hv110
  go_upto_region 13 with (refine osn 48 12 111 #[.slice A12 n12 c12] info_cv ?_)
  obtain ⟨Y8, hY9, hD12, hS9⟩ := start1 X8 48 [.slice A12 n12 c12]
  rw [← hY9]
  clear hY9
  have hgs12 := hb.size
  have hlt12x0 := hB0.lt
  have hlt12x1 := hB1.lt
  have hlt12x2 := hB2.lt
  have hlt12x3 := hD8.lt
  have hlt12x4 := hD10.lt
  have hr8 := hr8.below hS9
  have hr10 := hr10.below hS9
  have hr12 := hr12.below hS9
  have hB0 := hB0.bel hS9
  have hB1 := hB1.bel hS9
  have hB2 := hB2.bel hS9
  have hD8 := hD8.bel hS9
  have hD10 := hD10.bel hS9
  have hb := bel_next hb hS9
  clear hS9
  generalize X8.heap.size = g12 at *
  refine lx_plain_to 11 [none, none, none, none, none, none, none, some (Shv (E2) lt), none, some (Cvl lt)] (lasts_none (lasts_none (lasts_none (lasts_none (lasts_none (lasts_none (lasts_none (lasts_some (Shv.lasts _ _) (lasts_none (lasts_some (Cvl.lasts _) (lasts_nil))))))))))) ?_
  simp only [its, List.take, List.drop, Nat.zero_add, Nat.reduceAdd]
  refine ja hB0 Tryd.underlying48 (by rfl) info_cv ?_
  refine jn (.pointer (some ⟨(w.heap.size + 1), 0, none⟩)) ?_
  refine jf (.int .i64 d) hB1 0 load_int ?_
  refine jn (.pointer (some ⟨(w.heap.size + 2), 1, none⟩)) ?_
  refine jf (.int .i16 t) hB2 1 load_i16 ?_
  refine jv (.int .i64 t) (exec_cnv _ _ .i16 .i64 Tryd.underlying61 Tryd.underlying3 _ (by rfl) t t (by rfl) (by rw [IntWalk.i64_in _ (by omega)])) ?_
  refine jv (.int .i64 (d + t)) (exec_add _ _ _ _ (by rfl) d t (d + t) (by rfl) (by rfl) (by omega) (by omega) (by omega)) ?_
  refine jk (fun X hX hF => (shiftV l _ (d + t) X ⟨(some ⟨b, off, none⟩), n, c, rfl, (HRX.out X (hb.trans (Below.mono hX hb.size))), hln, hn1⟩ hf).mono fun e X' ⟨u, h1, h2, h3⟩ => ⟨u, h1, by rw [HSB.out.1, HSB.out.2] at h2; exact h2, h3⟩) ?_
  intro v121
  refine jm (v121) ?_
  refine lx_new (by rfl) (fun X hX hF => Shv.ext _ (by rfl) (by rfl) (hF _ _ List.mem_cons_self rfl)) ?_
  intro v122
  simp only [pX]
  refine jg (.int .i64 (E2)) (fun X hX hF => Shv.err _ (by rfl) (by rfl) (hF _ _ (List.mem_cons_of_mem _ List.mem_cons_self) rfl)) ?_
  refine lx_nil ?_
  intro X9 hX9 hF
  have hv121 := hF _ _ (List.mem_cons_of_mem _ List.mem_cons_self)
  have hv122 := hF _ _ List.mem_cons_self
  have hr8 := hr8.below hX9
  have hr10 := hr10.below hX9
  have hr12 := hr12.below hX9
  have hB0 := hB0.bel hX9
  have hB1 := hB1.bel hX9
  have hB2 := hB2.bel hX9
  have hD8 := hD8.bel hX9
  have hD10 := hD10.bel hX9
  have hD12 := hD12.bel hX9
  have hb := bel_next hb hX9
  clear hF hX9
  obtain ⟨A14, n14, c14, rfl, hr14, hl14, hm14⟩ := hv122
  clear hv121
  go_upto_region 14 with (refine osn 48 14 122 #[.slice A14 n14 c14] info_cv ?_)
  obtain ⟨Y9, hY9, hD14, hS9⟩ := start1 X9 48 [.slice A14 n14 c14]
  rw [← hY9]
  clear hY9
  have hgs14 := hb.size
  have hlt14x0 := hB0.lt
  have hlt14x1 := hB1.lt
  have hlt14x2 := hB2.lt
  have hlt14x3 := hD8.lt
  have hlt14x4 := hD10.lt
  have hlt14x5 := hD12.lt
  have hr8 := hr8.below hS9
  have hr10 := hr10.below hS9
  have hr12 := hr12.below hS9
  have hr14 := hr14.below hS9
  have hB0 := hB0.bel hS9
  have hB1 := hB1.bel hS9
  have hB2 := hB2.bel hS9
  have hD8 := hD8.bel hS9
  have hD10 := hD10.bel hS9
  have hD12 := hD12.bel hS9
  have hb := bel_next hb hS9
  clear hS9
  generalize X9.heap.size = g14 at *
  refine jp ?_
  refine jm (.int .i64 (E2)) ?_
  refine jm (.int .i64 (E2)) ?_
  refine jv (.bool false) (exec_nei _ _ _ _ (by rfl) .i64 (E2) (E2) (by rfl) (by rfl) false (by rw [decide_eq_true rfl]; rfl)) ?_
  refine jm (.bool false) ?_
  refine ja hD12 Tryd.underlying48 (by rfl) info_cv ?_
  refine ja hD14 Tryd.underlying48 (by rfl) info_cv ?_
  refine jc (.bool true) (fun X hX hF => mo (sameV lt lt _ _ X ⟨A12, n12, c12, rfl, hr12.below hX, hl12, hm12⟩ ⟨A14, n14, c14, rfl, hr14.below hX, hl14, hm14⟩) (by rw [decide_eq_true rfl])) ?_
  refine jm (.bool false) ?_
  refine jm (.bool false) ?_
  refine jz fun X10 hX10 => ?_
  have hr8 := hr8.below hX10
  have hr10 := hr10.below hX10
  have hr12 := hr12.below hX10
  have hr14 := hr14.below hX10
  have hB0 := hB0.bel hX10
  have hB1 := hB1.bel hX10
  have hB2 := hB2.bel hX10
  have hD8 := hD8.bel hX10
  have hD10 := hD10.bel hX10
  have hD12 := hD12.bel hX10
  have hD14 := hD14.bel hX10
  have hb := bel_next hb hX10
  clear hX10
  go_upto_region 16 with (fail)
  refine jp ?_
  refine jm (.int .i64 1) ?_
  refine jv (.bool true) (exec_nei _ _ _ _ (by rfl) .i64 1 0 (by rfl) (by rfl) true (by rw [decide_eq_false (by omega)]; rfl)) ?_
  refine jz fun X11 hX11 => ?_
  have hr8 := hr8.below hX11
  have hr10 := hr10.below hX11
  have hr12 := hr12.below hX11
  have hr14 := hr14.below hX11
  have hB0 := hB0.bel hX11
  have hB1 := hB1.bel hX11
  have hB2 := hB2.bel hX11
  have hD8 := hD8.bel hX11
  have hD10 := hD10.bel hX11
  have hD12 := hD12.bel hX11
  have hD14 := hD14.bel hX11
  have hb := bel_next hb hX11
  clear hX11
  go_upto_region 17 with (fail)
  refine jp ?_
  refine jc (.bool true) (fun X hX hF => sanityC X) ?_
  refine jm (.bool true) ?_
  refine jz fun X12 hX12 => ?_
  have hr8 := hr8.below hX12
  have hr10 := hr10.below hX12
  have hr12 := hr12.below hX12
  have hr14 := hr14.below hX12
  have hB0 := hB0.bel hX12
  have hB1 := hB1.bel hX12
  have hB2 := hB2.bel hX12
  have hD8 := hD8.bel hX12
  have hD10 := hD10.bel hX12
  have hD12 := hD12.bel hX12
  have hD14 := hD14.bel hX12
  have hb := bel_next hb hX12
  clear hX12
  go_wp2
  go_ret
  exact ⟨rfl, hb⟩
theorem shfsM_inv_0 (w : World) (b off : Nat) (n c : Nat) (l : List Pt) (hr : Rd w 4 (.slice (some ⟨b, off, none⟩) n c) n (fl ptc l)) (hln : l.length = n) (hn1 : n ≤ 9223372036854775807) (d : Int) (n' : Bool) (p q : List UInt8) (d0 : -9223372036854775808 ≤ d) (d1 : d ≤ 9223372036854775807) (s t : Int) (s0 : -32768 ≤ s) (s1 : s ≤ 32767) (e0 : -32768 ≤ t) (e1 : t ≤ 32767) (HF8 : Hid (fewB l 8 = true)) (hf : fewP l 1000) (hc : ck l = 0) (ht : tz p q 20) (y : Rat) (HY : Hid (rq n' p q = y)) (ls : List Pt) (fs : Rat) (sfs : szR fs 10000) (HSC : Hid (scE l (n', p, q) = 1 ∧ scL l (n', p, q) = ls)) (HV : Hid (vd n' p q = false)) (ld : List Pt) (HSH : Hid (shE l d = 3 ∧ shL l d = ld)) : Calls Tryd.prog 9 #[.agg #[.slice (some ⟨b, off, none⟩) n c], .agg #[.int .i64 d, .bool n', .string ⟨p.toArray⟩, .string ⟨q.toArray⟩], .agg #[.int .i16 s, .int .i16 t]] w fun e w' => e = .returned (.bool true) ∧ Since w w' := by
  have HRX : Hid (∀ X, Since w X → Rd X 4 (.slice (some ⟨b, off, none⟩) n c) n (fl ptc l)) := fun X h => hr.below h
  clear hr
  have hp : p.length ≤ 20 := ht.1
  have hq : q.length ≤ 20 := ht.2
  go_enter Tryd.func9, Tryd.ntmps9
  go_upto_region 1 with (fail)
  obtain ⟨W0, hW0, hB0, hB1, hB2, hb⟩ := start3 w 48 60 62 [.slice (some ⟨b, off, none⟩) n c] [.int .i64 d, .bool n', .string ⟨p.toArray⟩, .string ⟨q.toArray⟩] [.int .i16 s, .int .i16 t]
  rw [← hW0]
  clear hW0
  refine jp ?_
  refine ja hB0 Tryd.underlying48 (by rfl) info_cv ?_
  refine jc (.bool true) (fun X hX hF => mo (few13L (some ⟨b, off, none⟩) n c l X (HRX.out X (hb.trans (Below.mono hX hb.size))) hln hn1) (by rw [HF8.out])) ?_
  refine jm (.bool false) ?_
  refine jm (.bool false) ?_
  refine jn (.pointer (some ⟨(w.heap.size + 1), 1, none⟩)) ?_
  refine jn (.pointer (some ⟨(w.heap.size + 1), 2, none⟩)) ?_
  refine jf (st p) hB1 2 load_str ?_
  refine jv (.int .i64 (p.length : Int)) (exec_lens Tryd.underlying9 _ (by rfl) p (by rfl) _ rfl) ?_
  refine jv (.bool false) (exec_gtr _ _ _ _ (by rfl) .i64 (p.length : Int) 20 (by rfl) (by rfl) false (decide_eq_false (by omega))) ?_
  refine jm (.bool false) ?_
  refine jm (.bool false) ?_
  refine jn (.pointer (some ⟨(w.heap.size + 1), 1, none⟩)) ?_
  refine jn (.pointer (some ⟨(w.heap.size + 1), 3, none⟩)) ?_
  refine jf (st q) hB1 3 load_str ?_
  refine jv (.int .i64 (q.length : Int)) (exec_lens Tryd.underlying9 _ (by rfl) q (by rfl) _ rfl) ?_
  refine jv (.bool false) (exec_gtr _ _ _ _ (by rfl) .i64 (q.length : Int) 20 (by rfl) (by rfl) false (decide_eq_false (by omega))) ?_
  refine jm (.bool false) ?_
  refine jm (.bool false) ?_
  refine ja hB0 Tryd.underlying48 (by rfl) info_cv ?_
  refine jc (.int .i64 0) (fun X hX hF => mo (checkC (some ⟨b, off, none⟩) n c l X (HRX.out X (hb.trans (Below.mono hX hb.size))) hln hn1 hf.mono) (by rw [hc])) ?_
  refine jv (.bool false) (exec_nei _ _ _ _ (by rfl) .i64 0 0 (by rfl) (by rfl) false (by rw [decide_eq_true (by omega)]; rfl)) ?_
  refine jm (.bool false) ?_
  refine jz fun X1 hX1 => ?_
  have hB0 := hB0.bel hX1
  have hB1 := hB1.bel hX1
  have hB2 := hB2.bel hX1
  have hb := bel_next hb hX1
  clear hX1
  go_upto_region 3 with (fail)
  refine jp ?_
  refine jn (.pointer (some ⟨(w.heap.size + 2), 0, none⟩)) ?_
  refine jf (.int .i16 s) hB2 0 load_i16 ?_
  refine jv (.int .i64 s) (exec_cnv _ _ .i16 .i64 Tryd.underlying61 Tryd.underlying3 _ (by rfl) s s (by rfl) (by rw [IntWalk.i64_in _ (by omega)])) ?_
  refine jm (.int .i64 s) ?_
  refine jz fun X2 hX2 => ?_
  have hB0 := hB0.bel hX2
  have hB1 := hB1.bel hX2
  have hB2 := hB2.bel hX2
  have hb := bel_next hb hX2
  clear hX2
  go_upto_region 4 with (fail)
  refine lx_plain_to 7 [none, none, none, some (Shv 1 ls), none, some (Cvl ls)] (lasts_none (lasts_none (lasts_none (lasts_some (Shv.lasts _ _) (lasts_none (lasts_some (Cvl.lasts _) (lasts_nil))))))) ?_
  simp only [its, List.take, List.drop, Nat.zero_add, Nat.reduceAdd]
  refine ja hB0 Tryd.underlying48 (by rfl) info_cv ?_
  refine jn (.pointer (some ⟨(w.heap.size + 1), 1, none⟩)) ?_
  refine jg (.agg #[.bool n', st p, st q]) (fun X hX hF => exec_inr 26 _ (by rfl) (w.heap.size + 1) 1 [.bool n', .string ⟨p.toArray⟩, .string ⟨q.toArray⟩] (by rfl) Tryd.underlying26 rfl X (hB1.bel hX) (by rfl) info_rat) ?_
  refine jk (fun X hX hF => (scaleV l _ n' p q (ht.mono (by omega)) X ⟨(some ⟨b, off, none⟩), n, c, rfl, (HRX.out X (hb.trans (Below.mono hX hb.size))), hln, hn1⟩ hf).mono fun e X' ⟨u, h1, h2, h3⟩ => ⟨u, h1, by rw [HSC.out.1, HSC.out.2] at h2; exact h2, h3⟩) ?_
  intro v50
  refine jm (v50) ?_
  refine lx_new (by rfl) (fun X hX hF => Shv.ext _ (by rfl) (by rfl) (hF _ _ List.mem_cons_self rfl)) ?_
  intro v51
  simp only [pX]
  refine jg (.int .i64 1) (fun X hX hF => Shv.err _ (by rfl) (by rfl) (hF _ _ (List.mem_cons_of_mem _ List.mem_cons_self) rfl)) ?_
  refine lx_nil ?_
  intro X3 hX3 hF
  have hv50 := hF _ _ (List.mem_cons_of_mem _ List.mem_cons_self)
  have hv51 := hF _ _ List.mem_cons_self
  have hB0 := hB0.bel hX3
  have hB1 := hB1.bel hX3
  have hB2 := hB2.bel hX3
  have hb := bel_next hb hX3
  clear hF hX3
  obtain ⟨A8, n8, c8, rfl, hr8, hl8, hm8⟩ := hv51
  clear hv50
  go_upto_region 5 with (refine osn 48 8 51 #[.slice A8 n8 c8] info_cv ?_)
  obtain ⟨Y3, hY9, hD8, hS9⟩ := start1 X3 48 [.slice A8 n8 c8]
  rw [← hY9]
  clear hY9
  have hgs8 := hb.size
  have hlt8x0 := hB0.lt
  have hlt8x1 := hB1.lt
  have hlt8x2 := hB2.lt
  have hr8 := hr8.below hS9
  have hB0 := hB0.bel hS9
  have hB1 := hB1.bel hS9
  have hB2 := hB2.bel hS9
  have hb := bel_next hb hS9
  clear hS9
  generalize X3.heap.size = g8 at *
  refine jd ?_
  refine jm (.int .i64 1) ?_
  refine jv (.bool false) (exec_eqi _ _ _ _ (by rfl) .i64 1 0 (by rfl) (by rfl) false (decide_eq_false (by omega))) ?_
  refine jn (.pointer (some ⟨(w.heap.size + 1), 1, none⟩)) ?_
  refine jg (.agg #[.bool n', st p, st q]) (fun X hX hF => exec_inr 26 _ (by rfl) (w.heap.size + 1) 1 [.bool n', .string ⟨p.toArray⟩, .string ⟨q.toArray⟩] (by rfl) Tryd.underlying26 rfl X (hB1.bel hX) (by rfl) info_rat) ?_
  refine jc (.bool false) (fun X hX hF => mo (validG n' p q X (ht.mono (by omega))) (by rw [HV.out])) ?_
  refine jm (.bool false) ?_
  refine js ?_
  refine js ?_
  refine js ?_
  refine js ?_
  refine jm (.bool false) ?_
  refine jm (.bool false) ?_
  refine jm (.bool false) ?_
  refine jm (.int .i64 1) ?_
  refine jv (.bool false) (exec_eqi _ _ _ _ (by rfl) .i64 1 0 (by rfl) (by rfl) false (decide_eq_false (by omega))) ?_
  refine jm (.bool false) ?_
  refine js ?_
  refine js ?_
  refine js ?_
  refine js ?_
  refine js ?_
  refine js ?_
  refine js ?_
  refine js ?_
  refine js ?_
  refine js ?_
  refine jm (.bool false) ?_
  refine jm (.bool false) ?_
  refine jz fun X4 hX4 => ?_
  have hr8 := hr8.below hX4
  have hB0 := hB0.bel hX4
  have hB1 := hB1.bel hX4
  have hB2 := hB2.bel hX4
  have hD8 := hD8.bel hX4
  have hb := bel_next hb hX4
  clear hX4
  go_upto_region 7 with (fail)
  refine lx_plain_to 7 [none, none, none, some (Shv 3 ld), none, some (Cvl ld)] (lasts_none (lasts_none (lasts_none (lasts_some (Shv.lasts _ _) (lasts_none (lasts_some (Cvl.lasts _) (lasts_nil))))))) ?_
  simp only [its, List.take, List.drop, Nat.zero_add, Nat.reduceAdd]
  refine ja hB0 Tryd.underlying48 (by rfl) info_cv ?_
  refine jn (.pointer (some ⟨(w.heap.size + 1), 0, none⟩)) ?_
  refine jf (.int .i64 d) hB1 0 load_int ?_
  refine jk (fun X hX hF => (shiftV l _ d X ⟨(some ⟨b, off, none⟩), n, c, rfl, (HRX.out X (hb.trans (Below.mono hX hb.size))), hln, hn1⟩ hf).mono fun e X' ⟨u, h1, h2, h3⟩ => ⟨u, h1, by rw [HSH.out.1, HSH.out.2] at h2; exact h2, h3⟩) ?_
  intro v85
  refine jm (v85) ?_
  refine lx_new (by rfl) (fun X hX hF => Shv.ext _ (by rfl) (by rfl) (hF _ _ List.mem_cons_self rfl)) ?_
  intro v86
  simp only [pX]
  refine jg (.int .i64 3) (fun X hX hF => Shv.err _ (by rfl) (by rfl) (hF _ _ (List.mem_cons_of_mem _ List.mem_cons_self) rfl)) ?_
  refine lx_nil ?_
  intro X5 hX5 hF
  have hv85 := hF _ _ (List.mem_cons_of_mem _ List.mem_cons_self)
  have hv86 := hF _ _ List.mem_cons_self
  have hr8 := hr8.below hX5
  have hB0 := hB0.bel hX5
  have hB1 := hB1.bel hX5
  have hB2 := hB2.bel hX5
  have hD8 := hD8.bel hX5
  have hb := bel_next hb hX5
  clear hF hX5
  obtain ⟨A10, n10, c10, rfl, hr10, hl10, hm10⟩ := hv86
  clear hv85
  go_upto_region 8 with (refine osn 48 10 86 #[.slice A10 n10 c10] info_cv ?_)
  obtain ⟨Y5, hY9, hD10, hS9⟩ := start1 X5 48 [.slice A10 n10 c10]
  rw [← hY9]
  clear hY9
  have hgs10 := hb.size
  have hlt10x0 := hB0.lt
  have hlt10x1 := hB1.lt
  have hlt10x2 := hB2.lt
  have hlt10x3 := hD8.lt
  have hr8 := hr8.below hS9
  have hr10 := hr10.below hS9
  have hB0 := hB0.bel hS9
  have hB1 := hB1.bel hS9
  have hB2 := hB2.bel hS9
  have hD8 := hD8.bel hS9
  have hb := bel_next hb hS9
  clear hS9
  generalize X5.heap.size = g10 at *
  refine jp ?_
  refine jm (.int .i64 3) ?_
  refine jv (.bool true) (exec_nei _ _ _ _ (by rfl) .i64 3 0 (by rfl) (by rfl) true (by rw [decide_eq_false (by omega)]; rfl)) ?_
  refine jz fun X6 hX6 => ?_
  have hr8 := hr8.below hX6
  have hr10 := hr10.below hX6
  have hB0 := hB0.bel hX6
  have hB1 := hB1.bel hX6
  have hB2 := hB2.bel hX6
  have hD8 := hD8.bel hX6
  have hD10 := hD10.bel hX6
  have hb := bel_next hb hX6
  clear hX6
  go_upto_region 9 with (fail)
  refine jp ?_
  refine jc (.bool true) (fun X hX hF => sanityC X) ?_
  refine jm (.bool true) ?_
  refine jm (.int .i64 3) ?_
  refine jv (.bool true) (exec_eqi _ _ _ _ (by rfl) .i64 3 3 (by rfl) (by rfl) true (decide_eq_true (by omega))) ?_
  refine jm (.bool true) ?_
  refine jm (.bool true) ?_
  refine jz fun X7 hX7 => ?_
  have hr8 := hr8.below hX7
  have hr10 := hr10.below hX7
  have hB0 := hB0.bel hX7
  have hB1 := hB1.bel hX7
  have hB2 := hB2.bel hX7
  have hD8 := hD8.bel hX7
  have hD10 := hD10.bel hX7
  have hb := bel_next hb hX7
  clear hX7
  go_wp2
  go_ret
  exact ⟨rfl, hb⟩
theorem shfsM_neg_1 (w : World) (b off : Nat) (n c : Nat) (l : List Pt) (hr : Rd w 4 (.slice (some ⟨b, off, none⟩) n c) n (fl ptc l)) (hln : l.length = n) (hn1 : n ≤ 9223372036854775807) (d : Int) (n' : Bool) (p q : List UInt8) (d0 : -9223372036854775808 ≤ d) (d1 : d ≤ 9223372036854775807) (s t : Int) (s0 : -32768 ≤ s) (s1 : s ≤ 32767) (e0 : -32768 ≤ t) (e1 : t ≤ 32767) (HF8 : Hid (fewB l 8 = true)) (hf : fewP l 1000) (hc : ck l = 0) (ht : tz p q 20) (y : Rat) (HY : Hid (rq n' p q = y)) (ls : List Pt) (fs : Rat) (sfs : szR fs 10000) (HSC : Hid (scE l (n', p, q) = 1 ∧ scL l (n', p, q) = ls)) (HV : Hid (vd n' p q = true)) (HNB : Hid (n' = true)) (ld : List Pt) (HSH : Hid (shE l d = 0 ∧ shL l d = ld)) (dd0 : -4000 ≤ d) (dd1 : d ≤ 4000) (hfd : fewP ld 1000) (fd : Rat) (sfd : szR fd 10000) (HFD : Hid (flowC0 ld s = fd)) (HFE : Hid (flowC0 l (s + d) = fd)) (E2 : Int) (lt : List Pt) (HST : Hid (shE ld t = E2 ∧ shL ld t = lt)) (HSB : Hid (shE l (d + t) = E2 ∧ shL l (d + t) = lt)) : Calls Tryd.prog 9 #[.agg #[.slice (some ⟨b, off, none⟩) n c], .agg #[.int .i64 d, .bool n', .string ⟨p.toArray⟩, .string ⟨q.toArray⟩], .agg #[.int .i16 s, .int .i16 t]] w fun e w' => e = .returned (.bool true) ∧ Since w w' := by
  have HRX : Hid (∀ X, Since w X → Rd X 4 (.slice (some ⟨b, off, none⟩) n c) n (fl ptc l)) := fun X h => hr.below h
  clear hr
  have hp : p.length ≤ 20 := ht.1
  have hq : q.length ≤ 20 := ht.2
  go_enter Tryd.func9, Tryd.ntmps9
  go_upto_region 1 with (fail)
  obtain ⟨W0, hW0, hB0, hB1, hB2, hb⟩ := start3 w 48 60 62 [.slice (some ⟨b, off, none⟩) n c] [.int .i64 d, .bool n', .string ⟨p.toArray⟩, .string ⟨q.toArray⟩] [.int .i16 s, .int .i16 t]
  rw [← hW0]
  clear hW0
  refine jp ?_
  refine ja hB0 Tryd.underlying48 (by rfl) info_cv ?_
  refine jc (.bool true) (fun X hX hF => mo (few13L (some ⟨b, off, none⟩) n c l X (HRX.out X (hb.trans (Below.mono hX hb.size))) hln hn1) (by rw [HF8.out])) ?_
  refine jm (.bool false) ?_
  refine jm (.bool false) ?_
  refine jn (.pointer (some ⟨(w.heap.size + 1), 1, none⟩)) ?_
  refine jn (.pointer (some ⟨(w.heap.size + 1), 2, none⟩)) ?_
  refine jf (st p) hB1 2 load_str ?_
  refine jv (.int .i64 (p.length : Int)) (exec_lens Tryd.underlying9 _ (by rfl) p (by rfl) _ rfl) ?_
  refine jv (.bool false) (exec_gtr _ _ _ _ (by rfl) .i64 (p.length : Int) 20 (by rfl) (by rfl) false (decide_eq_false (by omega))) ?_
  refine jm (.bool false) ?_
  refine jm (.bool false) ?_
  refine jn (.pointer (some ⟨(w.heap.size + 1), 1, none⟩)) ?_
  refine jn (.pointer (some ⟨(w.heap.size + 1), 3, none⟩)) ?_
  refine jf (st q) hB1 3 load_str ?_
  refine jv (.int .i64 (q.length : Int)) (exec_lens Tryd.underlying9 _ (by rfl) q (by rfl) _ rfl) ?_
  refine jv (.bool false) (exec_gtr _ _ _ _ (by rfl) .i64 (q.length : Int) 20 (by rfl) (by rfl) false (decide_eq_false (by omega))) ?_
  refine jm (.bool false) ?_
  refine jm (.bool false) ?_
  refine ja hB0 Tryd.underlying48 (by rfl) info_cv ?_
  refine jc (.int .i64 0) (fun X hX hF => mo (checkC (some ⟨b, off, none⟩) n c l X (HRX.out X (hb.trans (Below.mono hX hb.size))) hln hn1 hf.mono) (by rw [hc])) ?_
  refine jv (.bool false) (exec_nei _ _ _ _ (by rfl) .i64 0 0 (by rfl) (by rfl) false (by rw [decide_eq_true (by omega)]; rfl)) ?_
  refine jm (.bool false) ?_
  refine jz fun X1 hX1 => ?_
  have hB0 := hB0.bel hX1
  have hB1 := hB1.bel hX1
  have hB2 := hB2.bel hX1
  have hb := bel_next hb hX1
  clear hX1
  go_upto_region 3 with (fail)
  refine jp ?_
  refine jn (.pointer (some ⟨(w.heap.size + 2), 0, none⟩)) ?_
  refine jf (.int .i16 s) hB2 0 load_i16 ?_
  refine jv (.int .i64 s) (exec_cnv _ _ .i16 .i64 Tryd.underlying61 Tryd.underlying3 _ (by rfl) s s (by rfl) (by rw [IntWalk.i64_in _ (by omega)])) ?_
  refine jm (.int .i64 s) ?_
  refine jz fun X2 hX2 => ?_
  have hB0 := hB0.bel hX2
  have hB1 := hB1.bel hX2
  have hB2 := hB2.bel hX2
  have hb := bel_next hb hX2
  clear hX2
  go_upto_region 4 with (fail)
  refine lx_plain_to 7 [none, none, none, some (Shv 1 ls), none, some (Cvl ls)] (lasts_none (lasts_none (lasts_none (lasts_some (Shv.lasts _ _) (lasts_none (lasts_some (Cvl.lasts _) (lasts_nil))))))) ?_
  simp only [its, List.take, List.drop, Nat.zero_add, Nat.reduceAdd]
  refine ja hB0 Tryd.underlying48 (by rfl) info_cv ?_
  refine jn (.pointer (some ⟨(w.heap.size + 1), 1, none⟩)) ?_
  refine jg (.agg #[.bool n', st p, st q]) (fun X hX hF => exec_inr 26 _ (by rfl) (w.heap.size + 1) 1 [.bool n', .string ⟨p.toArray⟩, .string ⟨q.toArray⟩] (by rfl) Tryd.underlying26 rfl X (hB1.bel hX) (by rfl) info_rat) ?_
  refine jk (fun X hX hF => (scaleV l _ n' p q (ht.mono (by omega)) X ⟨(some ⟨b, off, none⟩), n, c, rfl, (HRX.out X (hb.trans (Below.mono hX hb.size))), hln, hn1⟩ hf).mono fun e X' ⟨u, h1, h2, h3⟩ => ⟨u, h1, by rw [HSC.out.1, HSC.out.2] at h2; exact h2, h3⟩) ?_
  intro v50
  refine jm (v50) ?_
  refine lx_new (by rfl) (fun X hX hF => Shv.ext _ (by rfl) (by rfl) (hF _ _ List.mem_cons_self rfl)) ?_
  intro v51
  simp only [pX]
  refine jg (.int .i64 1) (fun X hX hF => Shv.err _ (by rfl) (by rfl) (hF _ _ (List.mem_cons_of_mem _ List.mem_cons_self) rfl)) ?_
  refine lx_nil ?_
  intro X3 hX3 hF
  have hv50 := hF _ _ (List.mem_cons_of_mem _ List.mem_cons_self)
  have hv51 := hF _ _ List.mem_cons_self
  have hB0 := hB0.bel hX3
  have hB1 := hB1.bel hX3
  have hB2 := hB2.bel hX3
  have hb := bel_next hb hX3
  clear hF hX3
  obtain ⟨A8, n8, c8, rfl, hr8, hl8, hm8⟩ := hv51
  clear hv50
  go_upto_region 5 with (refine osn 48 8 51 #[.slice A8 n8 c8] info_cv ?_)
  obtain ⟨Y3, hY9, hD8, hS9⟩ := start1 X3 48 [.slice A8 n8 c8]
  rw [← hY9]
  clear hY9
  have hgs8 := hb.size
  have hlt8x0 := hB0.lt
  have hlt8x1 := hB1.lt
  have hlt8x2 := hB2.lt
  have hr8 := hr8.below hS9
  have hB0 := hB0.bel hS9
  have hB1 := hB1.bel hS9
  have hB2 := hB2.bel hS9
  have hb := bel_next hb hS9
  clear hS9
  generalize X3.heap.size = g8 at *
  refine jd ?_
  refine jm (.int .i64 1) ?_
  refine jv (.bool false) (exec_eqi _ _ _ _ (by rfl) .i64 1 0 (by rfl) (by rfl) false (decide_eq_false (by omega))) ?_
  refine jn (.pointer (some ⟨(w.heap.size + 1), 1, none⟩)) ?_
  refine jg (.agg #[.bool n', st p, st q]) (fun X hX hF => exec_inr 26 _ (by rfl) (w.heap.size + 1) 1 [.bool n', .string ⟨p.toArray⟩, .string ⟨q.toArray⟩] (by rfl) Tryd.underlying26 rfl X (hB1.bel hX) (by rfl) info_rat) ?_
  refine jc (.bool true) (fun X hX hF => mo (validG n' p q X (ht.mono (by omega))) (by rw [HV.out])) ?_
  refine jm (.bool true) ?_
  refine jn (.pointer (some ⟨(w.heap.size + 1), 1, none⟩)) ?_
  refine jn (.pointer (some ⟨(w.heap.size + 1), 1, none⟩)) ?_
  refine jg (.bool true) (fun X hX hF => exec_ld 4 _ (by rfl) (w.heap.size + 1) 1 (by rfl) (.bool true) X (by rw [← HNB.out]; exact (hB1.bel hX).cell (j := 1) rfl) (fun X u h => load_bool (w.heap.size + 1) 1 X u h)) ?_
  refine jm (.bool false) ?_
  refine jm (.bool false) ?_
  refine jm (.bool false) ?_
  refine jm (.bool false) ?_
  refine jm (.int .i64 1) ?_
  refine jv (.bool false) (exec_eqi _ _ _ _ (by rfl) .i64 1 0 (by rfl) (by rfl) false (decide_eq_false (by omega))) ?_
  refine jm (.bool false) ?_
  refine js ?_
  refine js ?_
  refine js ?_
  refine js ?_
  refine js ?_
  refine js ?_
  refine js ?_
  refine js ?_
  refine js ?_
  refine js ?_
  refine jm (.bool false) ?_
  refine jm (.bool false) ?_
  refine jz fun X4 hX4 => ?_
  have hr8 := hr8.below hX4
  have hB0 := hB0.bel hX4
  have hB1 := hB1.bel hX4
  have hB2 := hB2.bel hX4
  have hD8 := hD8.bel hX4
  have hb := bel_next hb hX4
  clear hX4
  go_upto_region 7 with (fail)
  refine lx_plain_to 7 [none, none, none, some (Shv 0 ld), none, some (Cvl ld)] (lasts_none (lasts_none (lasts_none (lasts_some (Shv.lasts _ _) (lasts_none (lasts_some (Cvl.lasts _) (lasts_nil))))))) ?_
  simp only [its, List.take, List.drop, Nat.zero_add, Nat.reduceAdd]
  refine ja hB0 Tryd.underlying48 (by rfl) info_cv ?_
  refine jn (.pointer (some ⟨(w.heap.size + 1), 0, none⟩)) ?_
  refine jf (.int .i64 d) hB1 0 load_int ?_
  refine jk (fun X hX hF => (shiftV l _ d X ⟨(some ⟨b, off, none⟩), n, c, rfl, (HRX.out X (hb.trans (Below.mono hX hb.size))), hln, hn1⟩ hf).mono fun e X' ⟨u, h1, h2, h3⟩ => ⟨u, h1, by rw [HSH.out.1, HSH.out.2] at h2; exact h2, h3⟩) ?_
  intro v85
  refine jm (v85) ?_
  refine lx_new (by rfl) (fun X hX hF => Shv.ext _ (by rfl) (by rfl) (hF _ _ List.mem_cons_self rfl)) ?_
  intro v86
  simp only [pX]
  refine jg (.int .i64 0) (fun X hX hF => Shv.err _ (by rfl) (by rfl) (hF _ _ (List.mem_cons_of_mem _ List.mem_cons_self) rfl)) ?_
  refine lx_nil ?_
  intro X5 hX5 hF
  have hv85 := hF _ _ (List.mem_cons_of_mem _ List.mem_cons_self)
  have hv86 := hF _ _ List.mem_cons_self
  have hr8 := hr8.below hX5
  have hB0 := hB0.bel hX5
  have hB1 := hB1.bel hX5
  have hB2 := hB2.bel hX5
  have hD8 := hD8.bel hX5
  have hb := bel_next hb hX5
  clear hF hX5
  obtain ⟨A10, n10, c10, rfl, hr10, hl10, hm10⟩ := hv86
  clear hv85
  go_upto_region 8 with (refine osn 48 10 86 #[.slice A10 n10 c10] info_cv ?_)
  obtain ⟨Y5, hY9, hD10, hS9⟩ := start1 X5 48 [.slice A10 n10 c10]
  rw [← hY9]
  clear hY9
  have hgs10 := hb.size
  have hlt10x0 := hB0.lt
  have hlt10x1 := hB1.lt
  have hlt10x2 := hB2.lt
  have hlt10x3 := hD8.lt
  have hr8 := hr8.below hS9
  have hr10 := hr10.below hS9
  have hB0 := hB0.bel hS9
  have hB1 := hB1.bel hS9
  have hB2 := hB2.bel hS9
  have hD8 := hD8.bel hS9
  have hb := bel_next hb hS9
  clear hS9
  generalize X5.heap.size = g10 at *
  refine jp ?_
  refine jm (.int .i64 0) ?_
  refine jv (.bool false) (exec_nei _ _ _ _ (by rfl) .i64 0 0 (by rfl) (by rfl) false (by rw [decide_eq_true (by omega)]; rfl)) ?_
  refine jz fun X6 hX6 => ?_
  have hr8 := hr8.below hX6
  have hr10 := hr10.below hX6
  have hB0 := hB0.bel hX6
  have hB1 := hB1.bel hX6
  have hB2 := hB2.bel hX6
  have hD8 := hD8.bel hX6
  have hD10 := hD10.bel hX6
  have hb := bel_next hb hX6
  clear hX6
  go_upto_region 10 with (fail)
  refine jd ?_
  refine ja hD10 Tryd.underlying48 (by rfl) info_cv ?_
  refine jm (.int .i64 s) ?_
  refine jc (rt (rN fd) (rP fd) (rD fd)) (fun X hX hF => mo (flowV ld _ s X ⟨A10, n10, c10, rfl, hr10.below hX, hl10, hm10⟩ hfd) (by rw [HFD.out])) ?_
  refine ja hB0 Tryd.underlying48 (by rfl) info_cv ?_
  refine jm (.int .i64 s) ?_
  refine jn (.pointer (some ⟨(w.heap.size + 1), 0, none⟩)) ?_
  refine jf (.int .i64 d) hB1 0 load_int ?_
  refine jv (.int .i64 (s + d)) (exec_add _ _ _ _ (by rfl) s d (s + d) (by rfl) (by rfl) (by omega) (by omega) (by omega)) ?_
  refine jc (rt (rN fd) (rP fd) (rD fd)) (fun X hX hF => mo (flowV l _ (s + d) X ⟨(some ⟨b, off, none⟩), n, c, rfl, (HRX.out X (hb.trans (Below.mono hX hb.size))), hln, hn1⟩ hf) (by rw [HFE.out])) ?_
  refine jv (.bool false) (exec_ner _ _ (by rfl) (rN fd) (rP fd) (rD fd) (rN fd) (rP fd) (rD fd) (by rfl) (by rfl) false (rb_eqt rfl)) ?_
  refine jz fun X7 hX7 => ?_
  have hr8 := hr8.below hX7
  have hr10 := hr10.below hX7
  have hB0 := hB0.bel hX7
  have hB1 := hB1.bel hX7
  have hB2 := hB2.bel hX7
  have hD8 := hD8.bel hX7
  have hD10 := hD10.bel hX7
  have hb := bel_next hb hX7
  clear hX7
  go_upto_region 12 with (fail)
  refine lx_plain_to 8 [none, none, none, none, some (Shv (E2) lt), none, some (Cvl lt)] (lasts_none (lasts_none (lasts_none (lasts_none (lasts_some (Shv.lasts _ _) (lasts_none (lasts_some (Cvl.lasts _) (lasts_nil)))))))) ?_
  simp only [its, List.take, List.drop, Nat.zero_add, Nat.reduceAdd]
  refine ja hD10 Tryd.underlying48 (by rfl) info_cv ?_
  refine jn (.pointer (some ⟨(w.heap.size + 2), 1, none⟩)) ?_
  refine jf (.int .i16 t) hB2 1 load_i16 ?_
  refine jv (.int .i64 t) (exec_cnv _ _ .i16 .i64 Tryd.underlying61 Tryd.underlying3 _ (by rfl) t t (by rfl) (by rw [IntWalk.i64_in _ (by omega)])) ?_
  refine jk (fun X hX hF => (shiftV ld _ t X ⟨A10, n10, c10, rfl, hr10.below hX, hl10, hm10⟩ hfd).mono fun e X' ⟨u, h1, h2, h3⟩ => ⟨u, h1, by rw [HST.out.1, HST.out.2] at h2; exact h2, h3⟩) ?_
  intro v110
  refine jm (v110) ?_
  refine lx_new (by rfl) (fun X hX hF => Shv.ext _ (by rfl) (by rfl) (hF _ _ List.mem_cons_self rfl)) ?_
  intro v111
  simp only [pX]
  refine jg (.int .i64 (E2)) (fun X hX hF => Shv.err _ (by rfl) (by rfl) (hF _ _ (List.mem_cons_of_mem _ List.mem_cons_self) rfl)) ?_
  refine lx_nil ?_
  intro X8 hX8 hF
  have hv110 := hF _ _ (List.mem_cons_of_mem _ List.mem_cons_self)
  have hv111 := hF _ _ List.mem_cons_self
  have hr8 := hr8.below hX8
  have hr10 := hr10.below hX8
  have hB0 := hB0.bel hX8
  have hB1 := hB1.bel hX8
  have hB2 := hB2.bel hX8
  have hD8 := hD8.bel hX8
  have hD10 := hD10.bel hX8
  have hb := bel_next hb hX8
  clear hF hX8
  obtain ⟨A12, n12, c12, rfl, hr12, hl12, hm12⟩ := hv111
  clear hv110
  go_upto_region 13 with (refine osn 48 12 111 #[.slice A12 n12 c12] info_cv ?_)
  obtain ⟨Y8, hY9, hD12, hS9⟩ := start1 X8 48 [.slice A12 n12 c12]
  rw [← hY9]
  clear hY9
  have hgs12 := hb.size
  have hlt12x0 := hB0.lt
  have hlt12x1 := hB1.lt
  have hlt12x2 := hB2.lt
  have hlt12x3 := hD8.lt
  have hlt12x4 := hD10.lt
  have hr8 := hr8.below hS9
  have hr10 := hr10.below hS9
  have hr12 := hr12.below hS9
  have hB0 := hB0.bel hS9
  have hB1 := hB1.bel hS9
  have hB2 := hB2.bel hS9
  have hD8 := hD8.bel hS9
  have hD10 := hD10.bel hS9
  have hb := bel_next hb hS9
  clear hS9
  generalize X8.heap.size = g12 at *
  refine lx_plain_to 11 [none, none, none, none, none, none, none, some (Shv (E2) lt), none, some (Cvl lt)] (lasts_none (lasts_none (lasts_none (lasts_none (lasts_none (lasts_none (lasts_none (lasts_some (Shv.lasts _ _) (lasts_none (lasts_some (Cvl.lasts _) (lasts_nil))))))))))) ?_
  simp only [its, List.take, List.drop, Nat.zero_add, Nat.reduceAdd]
  refine ja hB0 Tryd.underlying48 (by rfl) info_cv ?_
  refine jn (.pointer (some ⟨(w.heap.size + 1), 0, none⟩)) ?_
  refine jf (.int .i64 d) hB1 0 load_int ?_
  refine jn (.pointer (some ⟨(w.heap.size + 2), 1, none⟩)) ?_
  refine jf (.int .i16 t) hB2 1 load_i16 ?_
  refine jv (.int .i64 t) (exec_cnv _ _ .i16 .i64 Tryd.underlying61 Tryd.underlying3 _ (by rfl) t t (by rfl) (by rw [IntWalk.i64_in _ (by omega)])) ?_
  refine jv (.int .i64 (d + t)) (exec_add _ _ _ _ (by rfl) d t (d + t) (by rfl) (by rfl) (by omega) (by omega) (by omega)) ?_
  refine jk (fun X hX hF => (shiftV l _ (d + t) X ⟨(some ⟨b, off, none⟩), n, c, rfl, (HRX.out X (hb.trans (Below.mono hX hb.size))), hln, hn1⟩ hf).mono fun e X' ⟨u, h1, h2, h3⟩ => ⟨u, h1, by rw [HSB.out.1, HSB.out.2] at h2; exact h2, h3⟩) ?_
  intro v121
  refine jm (v121) ?_
  refine lx_new (by rfl) (fun X hX hF => Shv.ext _ (by rfl) (by rfl) (hF _ _ List.mem_cons_self rfl)) ?_
  intro v122
  simp only [pX]
  refine jg (.int .i64 (E2)) (fun X hX hF => Shv.err _ (by rfl) (by rfl) (hF _ _ (List.mem_cons_of_mem _ List.mem_cons_self) rfl)) ?_
  refine lx_nil ?_
  intro X9 hX9 hF
  have hv121 := hF _ _ (List.mem_cons_of_mem _ List.mem_cons_self)
  have hv122 := hF _ _ List.mem_cons_self
  have hr8 := hr8.below hX9
  have hr10 := hr10.below hX9
  have hr12 := hr12.below hX9
  have hB0 := hB0.bel hX9
  have hB1 := hB1.bel hX9
  have hB2 := hB2.bel hX9
  have hD8 := hD8.bel hX9
  have hD10 := hD10.bel hX9
  have hD12 := hD12.bel hX9
  have hb := bel_next hb hX9
  clear hF hX9
  obtain ⟨A14, n14, c14, rfl, hr14, hl14, hm14⟩ := hv122
  clear hv121
  go_upto_region 14 with (refine osn 48 14 122 #[.slice A14 n14 c14] info_cv ?_)
  obtain ⟨Y9, hY9, hD14, hS9⟩ := start1 X9 48 [.slice A14 n14 c14]
  rw [← hY9]
  clear hY9
  have hgs14 := hb.size
  have hlt14x0 := hB0.lt
  have hlt14x1 := hB1.lt
  have hlt14x2 := hB2.lt
  have hlt14x3 := hD8.lt
  have hlt14x4 := hD10.lt
  have hlt14x5 := hD12.lt
  have hr8 := hr8.below hS9
  have hr10 := hr10.below hS9
  have hr12 := hr12.below hS9
  have hr14 := hr14.below hS9
  have hB0 := hB0.bel hS9
  have hB1 := hB1.bel hS9
  have hB2 := hB2.bel hS9
  have hD8 := hD8.bel hS9
  have hD10 := hD10.bel hS9
  have hD12 := hD12.bel hS9
  have hb := bel_next hb hS9
  clear hS9
  generalize X9.heap.size = g14 at *
  refine jp ?_
  refine jm (.int .i64 (E2)) ?_
  refine jm (.int .i64 (E2)) ?_
  refine jv (.bool false) (exec_nei _ _ _ _ (by rfl) .i64 (E2) (E2) (by rfl) (by rfl) false (by rw [decide_eq_true rfl]; rfl)) ?_
  refine jm (.bool false) ?_
  refine ja hD12 Tryd.underlying48 (by rfl) info_cv ?_
  refine ja hD14 Tryd.underlying48 (by rfl) info_cv ?_
  refine jc (.bool true) (fun X hX hF => mo (sameV lt lt _ _ X ⟨A12, n12, c12, rfl, hr12.below hX, hl12, hm12⟩ ⟨A14, n14, c14, rfl, hr14.below hX, hl14, hm14⟩) (by rw [decide_eq_true rfl])) ?_
  refine jm (.bool false) ?_
  refine jm (.bool false) ?_
  refine jz fun X10 hX10 => ?_
  have hr8 := hr8.below hX10
  have hr10 := hr10.below hX10
  have hr12 := hr12.below hX10
  have hr14 := hr14.below hX10
  have hB0 := hB0.bel hX10
  have hB1 := hB1.bel hX10
  have hB2 := hB2.bel hX10
  have hD8 := hD8.bel hX10
  have hD10 := hD10.bel hX10
  have hD12 := hD12.bel hX10
  have hD14 := hD14.bel hX10
  have hb := bel_next hb hX10
  clear hX10
  go_upto_region 16 with (fail)
  refine jp ?_
  refine jm (.int .i64 1) ?_
  refine jv (.bool true) (exec_nei _ _ _ _ (by rfl) .i64 1 0 (by rfl) (by rfl) true (by rw [decide_eq_false (by omega)]; rfl)) ?_
  refine jz fun X11 hX11 => ?_
  have hr8 := hr8.below hX11
  have hr10 := hr10.below hX11
  have hr12 := hr12.below hX11
  have hr14 := hr14.below hX11
  have hB0 := hB0.bel hX11
  have hB1 := hB1.bel hX11
  have hB2 := hB2.bel hX11
  have hD8 := hD8.bel hX11
  have hD10 := hD10.bel hX11
  have hD12 := hD12.bel hX11
  have hD14 := hD14.bel hX11
  have hb := bel_next hb hX11
  clear hX11
  go_upto_region 17 with (fail)
  refine jp ?_
  refine jc (.bool true) (fun X hX hF => sanityC X) ?_
  refine jm (.bool true) ?_
  refine jz fun X12 hX12 => ?_
  have hr8 := hr8.below hX12
  have hr10 := hr10.below hX12
  have hr12 := hr12.below hX12
  have hr14 := hr14.below hX12
  have hB0 := hB0.bel hX12
  have hB1 := hB1.bel hX12
  have hB2 := hB2.bel hX12
  have hD8 := hD8.bel hX12
  have hD10 := hD10.bel hX12
  have hD12 := hD12.bel hX12
  have hD14 := hD14.bel hX12
  have hb := bel_next hb hX12
  clear hX12
  go_wp2
  go_ret
  exact ⟨rfl, hb⟩
theorem shfsM_neg_0 (w : World) (b off : Nat) (n c : Nat) (l : List Pt) (hr : Rd w 4 (.slice (some ⟨b, off, none⟩) n c) n (fl ptc l)) (hln : l.length = n) (hn1 : n ≤ 9223372036854775807) (d : Int) (n' : Bool) (p q : List UInt8) (d0 : -9223372036854775808 ≤ d) (d1 : d ≤ 9223372036854775807) (s t : Int) (s0 : -32768 ≤ s) (s1 : s ≤ 32767) (e0 : -32768 ≤ t) (e1 : t ≤ 32767) (HF8 : Hid (fewB l 8 = true)) (hf : fewP l 1000) (hc : ck l = 0) (ht : tz p q 20) (y : Rat) (HY : Hid (rq n' p q = y)) (ls : List Pt) (fs : Rat) (sfs : szR fs 10000) (HSC : Hid (scE l (n', p, q) = 1 ∧ scL l (n', p, q) = ls)) (HV : Hid (vd n' p q = true)) (HNB : Hid (n' = true)) (ld : List Pt) (HSH : Hid (shE l d = 3 ∧ shL l d = ld)) : Calls Tryd.prog 9 #[.agg #[.slice (some ⟨b, off, none⟩) n c], .agg #[.int .i64 d, .bool n', .string ⟨p.toArray⟩, .string ⟨q.toArray⟩], .agg #[.int .i16 s, .int .i16 t]] w fun e w' => e = .returned (.bool true) ∧ Since w w' := by
  have HRX : Hid (∀ X, Since w X → Rd X 4 (.slice (some ⟨b, off, none⟩) n c) n (fl ptc l)) := fun X h => hr.below h
  clear hr
  have hp : p.length ≤ 20 := ht.1
  have hq : q.length ≤ 20 := ht.2
  go_enter Tryd.func9, Tryd.ntmps9
  go_upto_region 1 with (fail)
  obtain ⟨W0, hW0, hB0, hB1, hB2, hb⟩ := start3 w 48 60 62 [.slice (some ⟨b, off, none⟩) n c] [.int .i64 d, .bool n', .string ⟨p.toArray⟩, .string ⟨q.toArray⟩] [.int .i16 s, .int .i16 t]
  rw [← hW0]
  clear hW0
  refine jp ?_
  refine ja hB0 Tryd.underlying48 (by rfl) info_cv ?_
  refine jc (.bool true) (fun X hX hF => mo (few13L (some ⟨b, off, none⟩) n c l X (HRX.out X (hb.trans (Below.mono hX hb.size))) hln hn1) (by rw [HF8.out])) ?_
  refine jm (.bool false) ?_
  refine jm (.bool false) ?_
  refine jn (.pointer (some ⟨(w.heap.size + 1), 1, none⟩)) ?_
  refine jn (.pointer (some ⟨(w.heap.size + 1), 2, none⟩)) ?_
  refine jf (st p) hB1 2 load_str ?_
  refine jv (.int .i64 (p.length : Int)) (exec_lens Tryd.underlying9 _ (by rfl) p (by rfl) _ rfl) ?_
  refine jv (.bool false) (exec_gtr _ _ _ _ (by rfl) .i64 (p.length : Int) 20 (by rfl) (by rfl) false (decide_eq_false (by omega))) ?_
  refine jm (.bool false) ?_
  refine jm (.bool false) ?_
  refine jn (.pointer (some ⟨(w.heap.size + 1), 1, none⟩)) ?_
  refine jn (.pointer (some ⟨(w.heap.size + 1), 3, none⟩)) ?_
  refine jf (st q) hB1 3 load_str ?_
  refine jv (.int .i64 (q.length : Int)) (exec_lens Tryd.underlying9 _ (by rfl) q (by rfl) _ rfl) ?_
  refine jv (.bool false) (exec_gtr _ _ _ _ (by rfl) .i64 (q.length : Int) 20 (by rfl) (by rfl) false (decide_eq_false (by omega))) ?_
  refine jm (.bool false) ?_
  refine jm (.bool false) ?_
  refine ja hB0 Tryd.underlying48 (by rfl) info_cv ?_
  refine jc (.int .i64 0) (fun X hX hF => mo (checkC (some ⟨b, off, none⟩) n c l X (HRX.out X (hb.trans (Below.mono hX hb.size))) hln hn1 hf.mono) (by rw [hc])) ?_
  refine jv (.bool false) (exec_nei _ _ _ _ (by rfl) .i64 0 0 (by rfl) (by rfl) false (by rw [decide_eq_true (by omega)]; rfl)) ?_
  refine jm (.bool false) ?_
  refine jz fun X1 hX1 => ?_
  have hB0 := hB0.bel hX1
  have hB1 := hB1.bel hX1
  have hB2 := hB2.bel hX1
  have hb := bel_next hb hX1
  clear hX1
  go_upto_region 3 with (fail)
  refine jp ?_
  refine jn (.pointer (some ⟨(w.heap.size + 2), 0, none⟩)) ?_
  refine jf (.int .i16 s) hB2 0 load_i16 ?_
  refine jv (.int .i64 s) (exec_cnv _ _ .i16 .i64 Tryd.underlying61 Tryd.underlying3 _ (by rfl) s s (by rfl) (by rw [IntWalk.i64_in _ (by omega)])) ?_
  refine jm (.int .i64 s) ?_
  refine jz fun X2 hX2 => ?_
  have hB0 := hB0.bel hX2
  have hB1 := hB1.bel hX2
  have hB2 := hB2.bel hX2
  have hb := bel_next hb hX2
  clear hX2
  go_upto_region 4 with (fail)
  refine lx_plain_to 7 [none, none, none, some (Shv 1 ls), none, some (Cvl ls)] (lasts_none (lasts_none (lasts_none (lasts_some (Shv.lasts _ _) (lasts_none (lasts_some (Cvl.lasts _) (lasts_nil))))))) ?_
  simp only [its, List.take, List.drop, Nat.zero_add, Nat.reduceAdd]
  refine ja hB0 Tryd.underlying48 (by rfl) info_cv ?_
  refine jn (.pointer (some ⟨(w.heap.size + 1), 1, none⟩)) ?_
  refine jg (.agg #[.bool n', st p, st q]) (fun X hX hF => exec_inr 26 _ (by rfl) (w.heap.size + 1) 1 [.bool n', .string ⟨p.toArray⟩, .string ⟨q.toArray⟩] (by rfl) Tryd.underlying26 rfl X (hB1.bel hX) (by rfl) info_rat) ?_
  refine jk (fun X hX hF => (scaleV l _ n' p q (ht.mono (by omega)) X ⟨(some ⟨b, off, none⟩), n, c, rfl, (HRX.out X (hb.trans (Below.mono hX hb.size))), hln, hn1⟩ hf).mono fun e X' ⟨u, h1, h2, h3⟩ => ⟨u, h1, by rw [HSC.out.1, HSC.out.2] at h2; exact h2, h3⟩) ?_
  intro v50
  refine jm (v50) ?_
  refine lx_new (by rfl) (fun X hX hF => Shv.ext _ (by rfl) (by rfl) (hF _ _ List.mem_cons_self rfl)) ?_
  intro v51
  simp only [pX]
  refine jg (.int .i64 1) (fun X hX hF => Shv.err _ (by rfl) (by rfl) (hF _ _ (List.mem_cons_of_mem _ List.mem_cons_self) rfl)) ?_
  refine lx_nil ?_
  intro X3 hX3 hF
  have hv50 := hF _ _ (List.mem_cons_of_mem _ List.mem_cons_self)
  have hv51 := hF _ _ List.mem_cons_self
  have hB0 := hB0.bel hX3
  have hB1 := hB1.bel hX3
  have hB2 := hB2.bel hX3
  have hb := bel_next hb hX3
  clear hF hX3
  obtain ⟨A8, n8, c8, rfl, hr8, hl8, hm8⟩ := hv51
  clear hv50
  go_upto_region 5 with (refine osn 48 8 51 #[.slice A8 n8 c8] info_cv ?_)
  obtain ⟨Y3, hY9, hD8, hS9⟩ := start1 X3 48 [.slice A8 n8 c8]
  rw [← hY9]
  clear hY9
  have hgs8 := hb.size
  have hlt8x0 := hB0.lt
  have hlt8x1 := hB1.lt
  have hlt8x2 := hB2.lt
  have hr8 := hr8.below hS9
  have hB0 := hB0.bel hS9
  have hB1 := hB1.bel hS9
  have hB2 := hB2.bel hS9
  have hb := bel_next hb hS9
  clear hS9
  generalize X3.heap.size = g8 at *
  refine jd ?_
  refine jm (.int .i64 1) ?_
  refine jv (.bool false) (exec_eqi _ _ _ _ (by rfl) .i64 1 0 (by rfl) (by rfl) false (decide_eq_false (by omega))) ?_
  refine jn (.pointer (some ⟨(w.heap.size + 1), 1, none⟩)) ?_
  refine jg (.agg #[.bool n', st p, st q]) (fun X hX hF => exec_inr 26 _ (by rfl) (w.heap.size + 1) 1 [.bool n', .string ⟨p.toArray⟩, .string ⟨q.toArray⟩] (by rfl) Tryd.underlying26 rfl X (hB1.bel hX) (by rfl) info_rat) ?_
  refine jc (.bool true) (fun X hX hF => mo (validG n' p q X (ht.mono (by omega))) (by rw [HV.out])) ?_
  refine jm (.bool true) ?_
  refine jn (.pointer (some ⟨(w.heap.size + 1), 1, none⟩)) ?_
  refine jn (.pointer (some ⟨(w.heap.size + 1), 1, none⟩)) ?_
  refine jg (.bool true) (fun X hX hF => exec_ld 4 _ (by rfl) (w.heap.size + 1) 1 (by rfl) (.bool true) X (by rw [← HNB.out]; exact (hB1.bel hX).cell (j := 1) rfl) (fun X u h => load_bool (w.heap.size + 1) 1 X u h)) ?_
  refine jm (.bool false) ?_
  refine jm (.bool false) ?_
  refine jm (.bool false) ?_
  refine jm (.bool false) ?_
  refine jm (.int .i64 1) ?_
  refine jv (.bool false) (exec_eqi _ _ _ _ (by rfl) .i64 1 0 (by rfl) (by rfl) false (decide_eq_false (by omega))) ?_
  refine jm (.bool false) ?_
  refine js ?_
  refine js ?_
  refine js ?_
  refine js ?_
  refine js ?_
  refine js ?_
  refine js ?_
  refine js ?_
  refine js ?_
  refine js ?_
  refine jm (.bool false) ?_
  refine jm (.bool false) ?_
  refine jz fun X4 hX4 => ?_
  have hr8 := hr8.below hX4
  have hB0 := hB0.bel hX4
  have hB1 := hB1.bel hX4
  have hB2 := hB2.bel hX4
  have hD8 := hD8.bel hX4
  have hb := bel_next hb hX4
  clear hX4
  go_upto_region 7 with (fail)
  refine lx_plain_to 7 [none, none, none, some (Shv 3 ld), none, some (Cvl ld)] (lasts_none (lasts_none (lasts_none (lasts_some (Shv.lasts _ _) (lasts_none (lasts_some (Cvl.lasts _) (lasts_nil))))))) ?_
  simp only [its, List.take, List.drop, Nat.zero_add, Nat.reduceAdd]
  refine ja hB0 Tryd.underlying48 (by rfl) info_cv ?_
  refine jn (.pointer (some ⟨(w.heap.size + 1), 0, none⟩)) ?_
  refine jf (.int .i64 d) hB1 0 load_int ?_
  refine jk (fun X hX hF => (shiftV l _ d X ⟨(some ⟨b, off, none⟩), n, c, rfl, (HRX.out X (hb.trans (Below.mono hX hb.size))), hln, hn1⟩ hf).mono fun e X' ⟨u, h1, h2, h3⟩ => ⟨u, h1, by rw [HSH.out.1, HSH.out.2] at h2; exact h2, h3⟩) ?_
  intro v85
  refine jm (v85) ?_
  refine lx_new (by rfl) (fun X hX hF => Shv.ext _ (by rfl) (by rfl) (hF _ _ List.mem_cons_self rfl)) ?_
  intro v86
  simp only [pX]
  refine jg (.int .i64 3) (fun X hX hF => Shv.err _ (by rfl) (by rfl) (hF _ _ (List.mem_cons_of_mem _ List.mem_cons_self) rfl)) ?_
  refine lx_nil ?_
  intro X5 hX5 hF
  have hv85 := hF _ _ (List.mem_cons_of_mem _ List.mem_cons_self)
  have hv86 := hF _ _ List.mem_cons_self
  have hr8 := hr8.below hX5
  have hB0 := hB0.bel hX5
  have hB1 := hB1.bel hX5
  have hB2 := hB2.bel hX5
  have hD8 := hD8.bel hX5
  have hb := bel_next hb hX5
  clear hF hX5
  obtain ⟨A10, n10, c10, rfl, hr10, hl10, hm10⟩ := hv86
  clear hv85
  go_upto_region 8 with (refine osn 48 10 86 #[.slice A10 n10 c10] info_cv ?_)
  obtain ⟨Y5, hY9, hD10, hS9⟩ := start1 X5 48 [.slice A10 n10 c10]
  rw [← hY9]
  clear hY9
  have hgs10 := hb.size
  have hlt10x0 := hB0.lt
  have hlt10x1 := hB1.lt
  have hlt10x2 := hB2.lt
  have hlt10x3 := hD8.lt
  have hr8 := hr8.below hS9
  have hr10 := hr10.below hS9
  have hB0 := hB0.bel hS9
  have hB1 := hB1.bel hS9
  have hB2 := hB2.bel hS9
  have hD8 := hD8.bel hS9
  have hb := bel_next hb hS9
  clear hS9
  generalize X5.heap.size = g10 at *
  refine jp ?_
  refine jm (.int .i64 3) ?_
  refine jv (.bool true) (exec_nei _ _ _ _ (by rfl) .i64 3 0 (by rfl) (by rfl) true (by rw [decide_eq_false (by omega)]; rfl)) ?_
  refine jz fun X6 hX6 => ?_
  have hr8 := hr8.below hX6
  have hr10 := hr10.below hX6
  have hB0 := hB0.bel hX6
  have hB1 := hB1.bel hX6
  have hB2 := hB2.bel hX6
  have hD8 := hD8.bel hX6
  have hD10 := hD10.bel hX6
  have hb := bel_next hb hX6
  clear hX6
  go_upto_region 9 with (fail)
  refine jp ?_
  refine jc (.bool true) (fun X hX hF => sanityC X) ?_
  refine jm (.bool true) ?_
  refine jm (.int .i64 3) ?_
  refine jv (.bool true) (exec_eqi _ _ _ _ (by rfl) .i64 3 3 (by rfl) (by rfl) true (decide_eq_true (by omega))) ?_
  refine jm (.bool true) ?_
  refine jm (.bool true) ?_
  refine jz fun X7 hX7 => ?_
  have hr8 := hr8.below hX7
  have hr10 := hr10.below hX7
  have hB0 := hB0.bel hX7
  have hB1 := hB1.bel hX7
  have hB2 := hB2.bel hX7
  have hD8 := hD8.bel hX7
  have hD10 := hD10.bel hX7
  have hb := bel_next hb hX7
  clear hX7
  go_wp2
  go_ret
  exact ⟨rfl, hb⟩
theorem shOk_bd {l : List Pt} {d : Int} (hc : ck l = 0) (h : shOk l d) : -4000 ≤ d ∧ d ≤ 4000 := by
  have hl := len_pt hc
  have h1 := h 0 (by omega)
  have h2 := rng_pt hc (k := 0) (by omega)
  omega
theorem shiftsW (w : World) (A : Option Addr) (n c : Nat) (l : List Pt) (hr : Rd w 4 (.slice A n c) n (fl ptc l)) (hln : l.length = n) (hn1 : n ≤ 9223372036854775807) (d : Int) (n' : Bool) (p q : List UInt8) (d0 : -9223372036854775808 ≤ d) (d1 : d ≤ 9223372036854775807) (s t : Int) (s0 : -32768 ≤ s) (s1 : s ≤ 32767) (e0 : -32768 ≤ t) (e1 : t ≤ 32767) : Calls Tryd.prog 9 #[.agg #[.slice A n c], .agg #[.int .i64 d, .bool n', .string ⟨p.toArray⟩, .string ⟨q.toArray⟩], .agg #[.int .i16 s, .int .i16 t]] w fun e w' => e = .returned (.bool true) ∧ Since w w' := by
  rcases h0 : fewB l 8 with _ | _
  · exact shfs0 w A n c l hr hln hn1 d n' p q d0 d1 s t s0 s1 e0 e1 h0
  · have hfw := (fewB_of h0).2
    have hf : fewP l 1000 := hfw.mono
    rcases Nat.lt_or_ge 20 p.length with hp | hp
    · exact shfs1 w A n c l hr hln hn1 d n' p q d0 d1 s t s0 s1 e0 e1 h0 hp
    · rcases Nat.lt_or_ge 20 q.length with hq | hq
      · exact shfs2 w A n c l hr hln hn1 d n' p q d0 d1 s t s0 s1 e0 e1 h0 hp hq
      · by_cases hc : ck l = 0
        · obtain ⟨b, off, rfl⟩ := some_addr hr hln hc
          rcases hv : vd n' p q with _ | _
          · have hsc : scE l (n', p, q) = 1 ∧ scL l (n', p, q) = [] := scL_bad hc (by unfold posB; rw [hv]; rfl)
            by_cases hs : shOk l d
            · have hbd := shOk_bd hc hs
              have e1' := shL_ok hc hs
              have e2' := shE_sh (e := t) hc hs
              exact shfsM_inv_1 w b off n c l hr hln hn1 d n' p q d0 d1 s t s0 s1 e0 e1 h0 hf hc ⟨hp, hq⟩ _ rfl _ 0 (szR_zero.mono (by omega)) hsc hv _ e1' hbd.1 hbd.2 (few_sh hf) _ (flow0_sz (few_sh hf) _) rfl (flow_sh hc hs s).symm _ _ ⟨e2'.1, e2'.2⟩ ⟨rfl, rfl⟩
            · exact shfsM_inv_0 w b off n c l hr hln hn1 d n' p q d0 d1 s t s0 s1 e0 e1 h0 hf hc ⟨hp, hq⟩ _ rfl _ 0 (szR_zero.mono (by omega)) hsc hv _ (shE_bad hc hs)
          · cases n' with
            | true =>
              have hsc : scE l (true, p, q) = 1 ∧ scL l (true, p, q) = [] := scL_bad hc (by unfold posB; rw [hv]; rfl)
              by_cases hs : shOk l d
              · have hbd := shOk_bd hc hs
                have e1' := shL_ok hc hs
                have e2' := shE_sh (e := t) hc hs
                exact shfsM_neg_1 w b off n c l hr hln hn1 d true p q d0 d1 s t s0 s1 e0 e1 h0 hf hc ⟨hp, hq⟩ _ rfl _ 0 (szR_zero.mono (by omega)) hsc hv rfl _ e1' hbd.1 hbd.2 (few_sh hf) _ (flow0_sz (few_sh hf) _) rfl (flow_sh hc hs s).symm _ _ ⟨e2'.1, e2'.2⟩ ⟨rfl, rfl⟩
              · exact shfsM_neg_0 w b off n c l hr hln hn1 d true p q d0 d1 s t s0 s1 e0 e1 h0 hf hc ⟨hp, hq⟩ _ rfl _ 0 (szR_zero.mono (by omega)) hsc hv rfl _ (shE_bad hc hs)
            | false =>
              have hpos : posB (false, p, q) = true := posB_vd.2 ⟨hv, rfl⟩
              have hsc := scL_ok hc hpos
              have hfs := few_sc (y := trq (false, p, q)) hfw (szR_tz (B := 20) rfl ⟨hp, hq⟩) (by omega)
              by_cases hs : shOk l d
              · have hbd := shOk_bd hc hs
                have e1' := shL_ok hc hs
                have e2' := shE_sh (e := t) hc hs
                exact shfsM_ok_1 w b off n c l hr hln hn1 d false p q d0 d1 s t s0 s1 e0 e1 h0 hf hc ⟨hp, hq⟩ _ rfl _ _ (flow0_sz hf s) hsc hv rfl hfs.mono (flow_sc hc (posB_nn hpos) s) rfl _ e1' hbd.1 hbd.2 (few_sh hf) _ (flow0_sz (few_sh hf) _) rfl (flow_sh hc hs s).symm _ _ ⟨e2'.1, e2'.2⟩ ⟨rfl, rfl⟩ _ (scL_ok (ck_sh hc hs) hpos) (by rw [← sh_sc]; exact shL_ok (ck_sc hc (posB_nn hpos)) (shOk_sc hs))
              · exact shfsM_ok_0 w b off n c l hr hln hn1 d false p q d0 d1 s t s0 s1 e0 e1 h0 hf hc ⟨hp, hq⟩ _ rfl _ _ (flow0_sz hf s) hsc hv rfl hfs.mono (flow_sc hc (posB_nn hpos) s) rfl _ (shE_bad hc hs)
        · exact shfs3 w A n c l hr hln hn1 d n' p q d0 d1 s t s0 s1 e0 e1 h0 hp hq hf hc
end Go.Proofs.YtchhlgcakjjncaaDoor
