/-
  seal: Next.
-/
import Derived.Test.YthinopepcmidmaaDoorSh48
set_option linter.unusedSimpArgs false
set_option linter.unusedVariables false
set_option maxRecDepth 100000
set_option maxHeartbeats 1600000
namespace Go.Proofs.YthinopepcmidmaaDoor
open Go.RowKit
/-- A statement with another number and another name before it. -/
def Sl.mid (s : Sl) (q : Int) (p : List UInt8) : Sl := ⟨s.st, q, s.dy, s.kd, s.bd, p, s.sl⟩
theorem slc_mid {s : Sl} (h : SlOk s) {x : List UInt8} (hx : x.length = 16) (q : Int) {cs : List Value} (hc : cs = slc (s.mid q s.pv)) : cs.take 5 ++ x.map B8 ++ cs.drop (5 + (x.map B8).length) = slc (s.mid q x) := by
  subst hc
  rw [List.length_map, hx]
  have e2 : (slc (s.mid q s.pv)).drop (5 + 16) = s.sl.map B8 := by
    show (s.pv.map B8 ++ s.sl.map B8).drop 16 = s.sl.map B8
    exact List.drop_left' (by rw [List.length_map, h.pv])
  rw [e2, List.append_assoc]
  rfl
theorem SlOk.mid {s : Sl} (h : SlOk s) {x : List UInt8} (hx : x.length = 16) {q : Int} (hq : -9223372036854775808 ≤ q ∧ q ≤ 9223372036854775807) : SlOk (s.mid q x) := ⟨h.st, hq, h.dy, h.kd, h.bd, hx, h.sl⟩
theorem mid_nxT {l : List Sl} {s : Sl} {m : Nat} (hl : l.length = m) : s.mid (m : Int) (bfr nm48 l m) = nxT nm48 l s := by
  unfold nxT
  rw [hl]
  rfl
theorem nxE_lg {r : List (List UInt8)} {l : List Sl} {s : Sl} (h : ¬ lgE mk48 nm48 r l = 0) : nxE mk48 nm48 r l s = lgE mk48 nm48 r l := if_pos h
theorem nxE_lim {r : List (List UInt8)} {l : List Sl} {s : Sl} (h : lgE mk48 nm48 r l = 0) (h2 : l.length = 4000) : nxE mk48 nm48 r l s = 2 := by
  unfold nxE
  rw [if_neg (by omega), if_pos h2]
theorem nxE_st {r : List (List UInt8)} {l : List Sl} {s : Sl} (h : lgE mk48 nm48 r l = 0) (h2 : ¬ l.length = 4000) (h3 : 0 < l.length) (h4 : s.st ≠ (sAt l (l.length - 1)).st) : nxE mk48 nm48 r l s = 1 := by
  unfold nxE
  rw [if_neg (by omega), if_neg h2, if_pos ⟨h3, h4⟩]
theorem nxE_dy {r : List (List UInt8)} {l : List Sl} {s : Sl} (h : lgE mk48 nm48 r l = 0) (h2 : ¬ l.length = 4000) (h3 : 0 < l.length) (h4 : s.st = (sAt l (l.length - 1)).st) (h5 : s.dy < (sAt l (l.length - 1)).dy) : nxE mk48 nm48 r l s = 4 := by
  unfold nxE
  rw [if_neg (by omega), if_neg h2, if_neg (fun h9 => h9.2 h4), if_pos ⟨h3, h5⟩]
theorem nxE_sl {r : List (List UInt8)} {l : List Sl} {s : Sl} (h : lgE mk48 nm48 r l = 0) (h2 : ¬ l.length = 4000) (h4 : 0 < l.length → s.st = (sAt l (l.length - 1)).st ∧ (sAt l (l.length - 1)).dy ≤ s.dy) : nxE mk48 nm48 r l s = slE r (nxT nm48 l s) := by
  unfold nxE
  rw [if_neg (by omega), if_neg h2, if_neg (fun h9 => h9.2 (h4 h9.1).1), if_neg (fun h9 => by have := (h4 h9.1).2; omega)]
theorem nxS_no {r : List (List UInt8)} {l : List Sl} {s : Sl} (h : nxE mk48 nm48 r l s ≠ 0) : nxS mk48 nm48 r l s = sl0 := if_neg h
theorem nxS_sl {r : List (List UInt8)} {l : List Sl} {s : Sl} (h : nxE mk48 nm48 r l s = slE r (nxT nm48 l s)) : nxS mk48 nm48 r l s = slS mk48 r (nxT nm48 l s) := by
  unfold nxS slS
  rw [h]
  rfl
theorem lg_bd {r : List (List UInt8)} {l : List Sl} (h : lgE mk48 nm48 r l = 0) {k : Nat} (hk : k < l.length) : (sAt l k).bd.length ≤ 4096 := (frm_of ((rgt_iff mk48).1 (((lg_zero mk48 nm48).1 h).2.2.rgt k hk)).2.1).2.2
theorem nxS_ok {r : List (List UInt8)} {l : List Sl} {s : Sl} (hs : SlOk s) (hl : l.length ≤ 9223372036854775807) : SlOk (nxS mk48 nm48 r l s) := by
  unfold nxS
  split
  · exact (show SlOk (nxT nm48 l s) from hs.mid (bfr_len l l.length) (by omega)).put (mk_len _ _)
  · exact ok0
theorem snx1 (A : Option Addr) (n c : Nat) (r : List (List UInt8)) (w : World) (hr : Rd w 1 (.slice A n c) n (r.map tx)) (hln : r.length = n) (hn1 : n ≤ 9223372036854775807) (A' : Option Addr) (m c' : Nat) (l : List Sl) (hrl : Rd w 37 (.slice A' m c') m (fl slc l)) (hlm : l.length = m) (hm1 : m ≤ 9223372036854775807) (hok : ∀ s ∈ l, SlOk s) (s : Sl) (hs : SlOk s) (hK : KK w) (h : ¬ lgE mk48 nm48 r l = 0) : Calls Tryd.prog 20 #[.agg #[.slice A n c], .slice A' m c', .agg (slc s).toArray] w fun e w' => e = .returned (.tuple #[.agg (slc (nxS mk48 nm48 r l s)).toArray, .int .i64 (nxE mk48 nm48 r l s)]) ∧ Since w w' := by
  obtain ⟨e9, he9⟩ : ∃ e9, e9 = lgE mk48 nm48 r l := ⟨_, rfl⟩
  rw [← he9] at h
  have HLG : Hid (lgE mk48 nm48 r l = e9) := he9.symm
  clear he9
  have HC : Hid (¬ e9 = 0) := h
  have HE : Hid (nxE mk48 nm48 r l s = e9 ∧ nxS mk48 nm48 r l s = sl0) := by
    have h9 : ¬ lgE mk48 nm48 r l = 0 := by rw [HLG.out]; exact h
    exact ⟨(nxE_lg h9).trans HLG.out, nxS_no (by rw [nxE_lg h9]; exact h9)⟩
  clear h
  have hz := zero16
  have hzs := zeroSl
  have HKK : Hid (∀ X, Since w X → KK X) := fun X h => hK.below h hK.1
  have HRX : Hid (∀ X, Since w X → Rd X 1 (.slice A n c) n (r.map tx)) := fun X h => hr.below h
  have HRL : Hid (∀ X, Since w X → Rd X 37 (.slice A' m c') m (fl slc l)) := fun X h => hrl.below h
  have HLN := Lib.hid hln
  have HLM := Lib.hid hlm
  have HOK := Lib.hid hok
  clear hK hr hrl hln hlm hok
  go_enter Tryd.func20, Tryd.ntmps20
  go_upto_region 1 with (fail)
  obtain ⟨W0, hW0, hB0, hB1, hB2, hb⟩ := start3 w 24 28 28 [.slice A n c] (slc s) (slc sl0)
  rw [← hW0]
  clear hW0
  refine jp ?_
  refine ja hB0 Tryd.underlying24 (by rfl) info_rg ?_
  refine jm (.slice A' m c') ?_
  refine jc (.int .i64 e9) (fun X hX hF => mo (slgC A n c r X (HRX.out X (bel_next hb hX)) HLN.out hn1 A' m c' l (HRL.out X (bel_next hb hX)) HLM.out hm1 HOK.out (HKK.out X (bel_next hb hX))) (by rw [HLG.out])) ?_
  refine jm (.int .i64 e9) ?_
  refine jz fun X1 hX1 => ?_
  have hB0 := hB0.bel hX1
  have hB1 := hB1.bel hX1
  have hB2 := hB2.bel hX1
  have hb := bel_next hb hX1
  clear hX1
  go_upto_region 2 with (fail)
  refine jp ?_
  refine jm (.int .i64 e9) ?_
  refine jv (.bool true) (exec_nei _ _ _ _ (by rfl) .i64 e9 0 (by rfl) (by rfl) true (by rw [decide_eq_false HC.out]; rfl)) ?_
  refine jz fun X2 hX2 => ?_
  have hB0 := hB0.bel hX2
  have hB1 := hB1.bel hX2
  have hB2 := hB2.bel hX2
  have hb := bel_next hb hX2
  clear hX2
  go_upto_region 3 with (fail)
  refine jq 2 ?_
  refine jv (.agg (slc sl0).toArray) (exec_bs0 (by rfl)) ?_
  refine jm (.int .i64 e9) ?_
  refine jz fun X3 hX3 => ?_
  have hB0 := hB0.bel hX3
  have hB1 := hB1.bel hX3
  have hB2 := hB2.bel hX3
  have hb := bel_next hb hX3
  clear hX3
  refine op_store_blk rfl 28 (.tmp 6) (.tmp 16) rfl (w.heap.size + 2) 28 _ hB2 rfl (slc sl0) rfl ((SlOk.len ok0).trans (SlOk.len ok0).symm) slc_one (info_slc ok0) ?_
  intro w9 hR9 hO9 hB9 hs9
  have hb9 := hB9 _ _ hb (by omega)
  clear hO9 hB9
  go_wp2
  refine post_cell2 (v := .int .i64 e9) rfl rfl (by rfl) (by rfl) Tryd.underlying28 rfl hR9 (info_slc ok0) ⟨by rw [HE.out.1, HE.out.2], hb9⟩
theorem snx2 (A : Option Addr) (n c : Nat) (r : List (List UInt8)) (w : World) (hr : Rd w 1 (.slice A n c) n (r.map tx)) (hln : r.length = n) (hn1 : n ≤ 9223372036854775807) (A' : Option Addr) (m c' : Nat) (l : List Sl) (hrl : Rd w 37 (.slice A' m c') m (fl slc l)) (hlm : l.length = m) (hm1 : m ≤ 9223372036854775807) (hok : ∀ s ∈ l, SlOk s) (s : Sl) (hs : SlOk s) (hK : KK w) (h : lgE mk48 nm48 r l = 0) (h2 : m = 4000) : Calls Tryd.prog 20 #[.agg #[.slice A n c], .slice A' m c', .agg (slc s).toArray] w fun e w' => e = .returned (.tuple #[.agg (slc (nxS mk48 nm48 r l s)).toArray, .int .i64 (nxE mk48 nm48 r l s)]) ∧ Since w w' := by
  have HLG := Lib.hid h
  clear h
  have HE : Hid (nxE mk48 nm48 r l s = 2 ∧ nxS mk48 nm48 r l s = sl0) := by
    have h9 : nxE mk48 nm48 r l s = 2 := nxE_lim HLG.out (by omega)
    exact ⟨h9, nxS_no (by rw [h9]; decide)⟩
  have HM := Lib.hid h2
  clear h2
  have hz := zero16
  have hzs := zeroSl
  have HKK : Hid (∀ X, Since w X → KK X) := fun X h => hK.below h hK.1
  have HRX : Hid (∀ X, Since w X → Rd X 1 (.slice A n c) n (r.map tx)) := fun X h => hr.below h
  have HRL : Hid (∀ X, Since w X → Rd X 37 (.slice A' m c') m (fl slc l)) := fun X h => hrl.below h
  have HLN := Lib.hid hln
  have HLM := Lib.hid hlm
  have HOK := Lib.hid hok
  clear hK hr hrl hln hlm hok
  go_enter Tryd.func20, Tryd.ntmps20
  go_upto_region 1 with (fail)
  obtain ⟨W0, hW0, hB0, hB1, hB2, hb⟩ := start3 w 24 28 28 [.slice A n c] (slc s) (slc sl0)
  rw [← hW0]
  clear hW0
  refine jp ?_
  refine ja hB0 Tryd.underlying24 (by rfl) info_rg ?_
  refine jm (.slice A' m c') ?_
  refine jc (.int .i64 0) (fun X hX hF => mo (slgC A n c r X (HRX.out X (bel_next hb hX)) HLN.out hn1 A' m c' l (HRL.out X (bel_next hb hX)) HLM.out hm1 HOK.out (HKK.out X (bel_next hb hX))) (by rw [HLG.out])) ?_
  refine jm (.int .i64 0) ?_
  refine jz fun X1 hX1 => ?_
  have hB0 := hB0.bel hX1
  have hB1 := hB1.bel hX1
  have hB2 := hB2.bel hX1
  have hb := bel_next hb hX1
  clear hX1
  go_upto_region 2 with (fail)
  refine jp ?_
  refine jm (.int .i64 0) ?_
  refine jv (.bool false) (exec_nei _ _ _ _ (by rfl) .i64 0 0 (by rfl) (by rfl) false (by rfl)) ?_
  refine jz fun X2 hX2 => ?_
  have hB0 := hB0.bel hX2
  have hB1 := hB1.bel hX2
  have hB2 := hB2.bel hX2
  have hb := bel_next hb hX2
  clear hX2
  go_upto_region 4 with (fail)
  refine jp ?_
  refine jm (.slice A' m c') ?_
  refine jv (.int .i64 (m : Int)) (exec_lenv Tryd.underlying30 _ (by rfl) A' m c' (by rfl) _ rfl) ?_
  refine jm (.int .i64 (m : Int)) ?_
  refine jz fun X3 hX3 => ?_
  have hB0 := hB0.bel hX3
  have hB1 := hB1.bel hX3
  have hB2 := hB2.bel hX3
  have hb := bel_next hb hX3
  clear hX3
  go_upto_region 5 with (fail)
  refine jq 3 ?_
  refine jm (.int .i64 (m : Int)) ?_
  refine jv (.agg (z16b.map B8).toArray) (exec_bd0 (by rfl)) ?_
  refine jn (.pointer (some ⟨(w.heap.size + 1), 1, none⟩)) ?_
  refine jz fun X4 hX4 => ?_
  have hB0 := hB0.bel hX4
  have hB1 := hB1.bel hX4
  have hB2 := hB2.bel hX4
  have hb := bel_next hb hX4
  clear hX4
  refine op_store1 rfl (w.heap.size + 1) 1 28 _ hB1 (.int .i64 (m : Int)) (by rw [hs.len]; decide) (fun X u h1 h2 => exec_sti _ _ (by rfl) _ _ (by rfl) (by rfl) u X h1 h2) ?_
  intro w4 hR4 hO4 hB4
  change Blk w4 (w.heap.size + 1) 28 (slc (s.mid (m : Int) s.pv)) at hR4
  have hB0 := hO4 _ _ _ (by omega) hB0
  have hB2 := hO4 _ _ _ (by omega) hB2
  have hb := hB4 _ _ hb (by omega)
  clear hO4 hB4 hB1
  go_upto_region 6 with ((with_reducible show wpList _ _ _ (⟨none, .store 26 _ _, _, _, _, _⟩ :: _) _ _); refine op_store_part rfl 26 (.tmp 23) (.tmp 21) rfl (w.heap.size + 1) 5 28 _ hR4 (by rfl) (z16b.map B8) (by rfl) (by rw [(hs.mid hs.pv (by omega)).len]; decide) (B8s_one _) (info_d16 rfl) ?_; intro w5 hR5 hO5 hB5)
  rw [slc_mid hs (x := z16b) rfl (m : Int) rfl] at hR5
  have hB0 := hO5 _ _ _ (by omega) hB0
  have hB2 := hO5 _ _ _ (by omega) hB2
  have hB1 := hR5
  have hs1 := hs.mid (x := z16b) (q := (m : Int)) rfl (by omega)
  have hb := hB5 _ _ hb (by omega)
  clear hR4 hR5 hO5 hB5
  refine jp ?_
  refine jm (.int .i64 (m : Int)) ?_
  refine jv (.bool true) (exec_eqi _ _ _ _ (by rfl) .i64 (m : Int) 4000 (by rfl) (by rfl) true (decide_eq_true (by rw [HM.out]; rfl))) ?_
  refine jz fun X5 hX5 => ?_
  have hB0 := hB0.bel hX5
  have hB1 := hB1.bel hX5
  have hB2 := hB2.bel hX5
  have hb := bel_next hb hX5
  clear hX5
  go_upto_region 7 with (fail)
  refine jq 1 ?_
  refine jv (.agg (slc sl0).toArray) (exec_bs0 (by rfl)) ?_
  refine jz fun X6 hX6 => ?_
  have hB0 := hB0.bel hX6
  have hB1 := hB1.bel hX6
  have hB2 := hB2.bel hX6
  have hb := bel_next hb hX6
  clear hX6
  refine op_store_blk rfl 28 (.tmp 6) (.tmp 26) rfl (w.heap.size + 2) 28 _ hB2 rfl (slc sl0) rfl ((SlOk.len ok0).trans (SlOk.len ok0).symm) slc_one (info_slc ok0) ?_
  intro w9 hR9 hO9 hB9 hs9
  have hb9 := hB9 _ _ hb (by omega)
  clear hO9 hB9
  go_wp2
  refine post_cell2 (v := .int .i64 2) rfl rfl (by rfl) (by rfl) Tryd.underlying28 rfl hR9 (info_slc ok0) ⟨by rw [HE.out.1, HE.out.2], hb9⟩
theorem snx3 (A : Option Addr) (n c : Nat) (r : List (List UInt8)) (w : World) (hr : Rd w 1 (.slice A n c) n (r.map tx)) (hln : r.length = n) (hn1 : n ≤ 9223372036854775807) (A' : Option Addr) (m c' : Nat) (l : List Sl) (hrl : Rd w 37 (.slice A' m c') m (fl slc l)) (hlm : l.length = m) (hm1 : m ≤ 9223372036854775807) (hok : ∀ s ∈ l, SlOk s) (s : Sl) (hs : SlOk s) (hK : KK w) (h : lgE mk48 nm48 r l = 0) (h0 : m = 0) : Calls Tryd.prog 20 #[.agg #[.slice A n c], .slice A' m c', .agg (slc s).toArray] w fun e w' => e = .returned (.tuple #[.agg (slc (nxS mk48 nm48 r l s)).toArray, .int .i64 (nxE mk48 nm48 r l s)]) ∧ Since w w' := by
  have HLG := Lib.hid h
  clear h
  have HE : Hid (nxE mk48 nm48 r l s = slE r (nxT nm48 l s)) := nxE_sl HLG.out (by omega) (fun h9 => by omega)
  have HM := Lib.hid h0
  clear h0
  have hz := zero16
  have hzs := zeroSl
  have HKK : Hid (∀ X, Since w X → KK X) := fun X h => hK.below h hK.1
  have HRX : Hid (∀ X, Since w X → Rd X 1 (.slice A n c) n (r.map tx)) := fun X h => hr.below h
  have HRL : Hid (∀ X, Since w X → Rd X 37 (.slice A' m c') m (fl slc l)) := fun X h => hrl.below h
  have HLN := Lib.hid hln
  have HLM := Lib.hid hlm
  have HOK := Lib.hid hok
  clear hK hr hrl hln hlm hok
  go_enter Tryd.func20, Tryd.ntmps20
  go_upto_region 1 with (fail)
  obtain ⟨W0, hW0, hB0, hB1, hB2, hb⟩ := start3 w 24 28 28 [.slice A n c] (slc s) (slc sl0)
  rw [← hW0]
  clear hW0
  refine jp ?_
  refine ja hB0 Tryd.underlying24 (by rfl) info_rg ?_
  refine jm (.slice A' m c') ?_
  refine jc (.int .i64 0) (fun X hX hF => mo (slgC A n c r X (HRX.out X (bel_next hb hX)) HLN.out hn1 A' m c' l (HRL.out X (bel_next hb hX)) HLM.out hm1 HOK.out (HKK.out X (bel_next hb hX))) (by rw [HLG.out])) ?_
  refine jm (.int .i64 0) ?_
  refine jz fun X1 hX1 => ?_
  have hB0 := hB0.bel hX1
  have hB1 := hB1.bel hX1
  have hB2 := hB2.bel hX1
  have hb := bel_next hb hX1
  clear hX1
  go_upto_region 2 with (fail)
  refine jp ?_
  refine jm (.int .i64 0) ?_
  refine jv (.bool false) (exec_nei _ _ _ _ (by rfl) .i64 0 0 (by rfl) (by rfl) false (by rfl)) ?_
  refine jz fun X2 hX2 => ?_
  have hB0 := hB0.bel hX2
  have hB1 := hB1.bel hX2
  have hB2 := hB2.bel hX2
  have hb := bel_next hb hX2
  clear hX2
  go_upto_region 4 with (fail)
  refine jp ?_
  refine jm (.slice A' m c') ?_
  refine jv (.int .i64 (m : Int)) (exec_lenv Tryd.underlying30 _ (by rfl) A' m c' (by rfl) _ rfl) ?_
  refine jm (.int .i64 (m : Int)) ?_
  refine jz fun X3 hX3 => ?_
  have hB0 := hB0.bel hX3
  have hB1 := hB1.bel hX3
  have hB2 := hB2.bel hX3
  have hb := bel_next hb hX3
  clear hX3
  go_upto_region 5 with (fail)
  refine jq 3 ?_
  refine jm (.int .i64 (m : Int)) ?_
  refine jv (.agg (z16b.map B8).toArray) (exec_bd0 (by rfl)) ?_
  refine jn (.pointer (some ⟨(w.heap.size + 1), 1, none⟩)) ?_
  refine jz fun X4 hX4 => ?_
  have hB0 := hB0.bel hX4
  have hB1 := hB1.bel hX4
  have hB2 := hB2.bel hX4
  have hb := bel_next hb hX4
  clear hX4
  refine op_store1 rfl (w.heap.size + 1) 1 28 _ hB1 (.int .i64 (m : Int)) (by rw [hs.len]; decide) (fun X u h1 h2 => exec_sti _ _ (by rfl) _ _ (by rfl) (by rfl) u X h1 h2) ?_
  intro w4 hR4 hO4 hB4
  change Blk w4 (w.heap.size + 1) 28 (slc (s.mid (m : Int) s.pv)) at hR4
  have hB0 := hO4 _ _ _ (by omega) hB0
  have hB2 := hO4 _ _ _ (by omega) hB2
  have hb := hB4 _ _ hb (by omega)
  clear hO4 hB4 hB1
  go_upto_region 6 with ((with_reducible show wpList _ _ _ (⟨none, .store 26 _ _, _, _, _, _⟩ :: _) _ _); refine op_store_part rfl 26 (.tmp 23) (.tmp 21) rfl (w.heap.size + 1) 5 28 _ hR4 (by rfl) (z16b.map B8) (by rfl) (by rw [(hs.mid hs.pv (by omega)).len]; decide) (B8s_one _) (info_d16 rfl) ?_; intro w5 hR5 hO5 hB5)
  rw [slc_mid hs (x := z16b) rfl (m : Int) rfl] at hR5
  have hB0 := hO5 _ _ _ (by omega) hB0
  have hB2 := hO5 _ _ _ (by omega) hB2
  have hB1 := hR5
  have hs1 := hs.mid (x := z16b) (q := (m : Int)) rfl (by omega)
  have hb := hB5 _ _ hb (by omega)
  clear hR4 hR5 hO5 hB5
  have HT : Hid (s.mid (m : Int) z16b = nxT nm48 l s) := by
    rw [← mid_nxT HLM.out, HM.out]
    rfl
  refine jp ?_
  refine jm (.int .i64 (m : Int)) ?_
  refine jv (.bool false) (exec_eqi _ _ _ _ (by rfl) .i64 (m : Int) 4000 (by rfl) (by rfl) false (decide_eq_false (by rw [HM.out]; decide))) ?_
  refine jz fun X5 hX5 => ?_
  have hB0 := hB0.bel hX5
  have hB1 := hB1.bel hX5
  have hB2 := hB2.bel hX5
  have hb := bel_next hb hX5
  clear hX5
  go_upto_region 8 with (fail)
  refine jp ?_
  refine jm (.int .i64 (m : Int)) ?_
  refine jv (.bool false) (exec_gtr _ _ _ _ (by rfl) .i64 (m : Int) 0 (by rfl) (by rfl) false (decide_eq_false (by rw [HM.out]; decide))) ?_
  refine jz fun X6 hX6 => ?_
  have hB0 := hB0.bel hX6
  have hB1 := hB1.bel hX6
  have hB2 := hB2.bel hX6
  have hb := bel_next hb hX6
  clear hX6
  have hx := slS_ok (r := r) (s := (s.mid (m : Int) z16b)) hs1
  obtain ⟨x, hx9⟩ : ∃ x, x = slS mk48 r (s.mid (m : Int) z16b) := ⟨_, rfl⟩
  obtain ⟨e9, he9⟩ : ∃ e9, e9 = slE r (s.mid (m : Int) z16b) := ⟨_, rfl⟩
  rw [← hx9] at hx
  have HXE : Hid (slS mk48 r (s.mid (m : Int) z16b) = x ∧ slE r (s.mid (m : Int) z16b) = e9) := ⟨hx9.symm, he9.symm⟩
  clear hx9 he9
  go_upto_region 15 with (fail)
  refine jq 5 ?_
  refine ja hB0 Tryd.underlying24 (by rfl) info_rg ?_
  refine jg (.agg (slc (s.mid (m : Int) z16b)).toArray) (fun X hX hF => exec_lda 28 _ (by rfl) (w.heap.size + 1) (by rfl) Tryd.underlying28 rfl X (hB1.bel hX) (info_slc hs1)) ?_
  refine jc (.tuple #[.agg (slc x).toArray, .int .i64 e9]) (fun X hX hF => mo (sslC A n c r X (HRX.out X (bel_next hb hX)) HLN.out hn1 (s.mid (m : Int) z16b) hs1 (HKK.out X (bel_next hb hX))) (by rw [HXE.out.1, HXE.out.2])) ?_
  refine jm (.agg (slc x).toArray) ?_
  refine jm (.int .i64 e9) ?_
  refine jz fun X7 hX7 => ?_
  have hB0 := hB0.bel hX7
  have hB1 := hB1.bel hX7
  have hB2 := hB2.bel hX7
  have hb := bel_next hb hX7
  clear hX7
  have HFIN : Hid (nxE mk48 nm48 r l s = e9 ∧ nxS mk48 nm48 r l s = x) := by
    rw [← HXE.out.1, ← HXE.out.2, HT.out]
    exact ⟨HE.out, nxS_sl HE.out⟩
  refine op_store_blk rfl 28 (.tmp 6) (.tmp 54) rfl (w.heap.size + 2) 28 _ hB2 rfl (slc x) rfl ((SlOk.len hx).trans (SlOk.len ok0).symm) slc_one (info_slc hx) ?_
  intro w9 hR9 hO9 hB9 hs9
  have hb9 := hB9 _ _ hb (by omega)
  clear hO9 hB9
  go_wp2
  refine post_cell2 (v := .int .i64 e9) rfl rfl (by rfl) (by rfl) Tryd.underlying28 rfl hR9 (info_slc hx) ⟨by rw [HFIN.out.1, HFIN.out.2], hb9⟩
theorem snx4 (A : Option Addr) (n c : Nat) (r : List (List UInt8)) (w : World) (hr : Rd w 1 (.slice A n c) n (r.map tx)) (hln : r.length = n) (hn1 : n ≤ 9223372036854775807) (A' : Option Addr) (m c' : Nat) (l : List Sl) (hrl : Rd w 37 (.slice A' m c') m (fl slc l)) (hlm : l.length = m) (hm1 : m ≤ 9223372036854775807) (hok : ∀ s ∈ l, SlOk s) (s : Sl) (hs : SlOk s) (hK : KK w) (h : lgE mk48 nm48 r l = 0) (h2 : ¬ m = 4000) (h0 : 0 < m) (hh : s.st ≠ (sAt l (m - 1)).st) : Calls Tryd.prog 20 #[.agg #[.slice A n c], .slice A' m c', .agg (slc s).toArray] w fun e w' => e = .returned (.tuple #[.agg (slc (nxS mk48 nm48 r l s)).toArray, .int .i64 (nxE mk48 nm48 r l s)]) ∧ Since w w' := by
  have HLG := Lib.hid h
  clear h
  obtain ⟨b, off, rfl, hbb, hall⟩ := hrl.sls hok hlm h0
  have hcx := hall (m - 1) (by omega)
  clear hall
  have ox := ok_at hok (k := m - 1) (by omega)
  have hbd := lg_bd HLG.out (k := m - 1) (by omega)
  obtain ⟨y, hy9⟩ : ∃ y, y = sAt l (m - 1) := ⟨_, rfl⟩
  rw [← hy9] at hcx ox hbd
  have HY : Hid (y = sAt l (l.length - 1)) := by rw [hlm]; exact hy9
  rw [← hy9] at hh
  clear hy9
  have HE : Hid (nxE mk48 nm48 r l s = 1 ∧ nxS mk48 nm48 r l s = sl0) := by
    have h9 : nxE mk48 nm48 r l s = 1 := nxE_st HLG.out (by omega) (by omega) (by rw [← HY.out]; exact hh)
    exact ⟨h9, nxS_no (by rw [h9]; decide)⟩
  have hblt : b < w.heap.size := hbb
  have hz := zero16
  have hzs := zeroSl
  have HKK : Hid (∀ X, Since w X → KK X) := fun X h => hK.below h hK.1
  have HRX : Hid (∀ X, Since w X → Rd X 1 (.slice A n c) n (r.map tx)) := fun X h => hr.below h
  have HRL : Hid (∀ X, Since w X → Rd X 37 (.slice (some ⟨b, off, none⟩) m c') m (fl slc l)) := fun X h => hrl.below h
  have HLN := Lib.hid hln
  have HLM := Lib.hid hlm
  have HOK := Lib.hid hok
  clear hK hr hrl hln hlm hok
  go_enter Tryd.func20, Tryd.ntmps20
  go_upto_region 1 with (fail)
  obtain ⟨W0, hW0, hB0, hB1, hB2, hb⟩ := start3 w 24 28 28 [.slice A n c] (slc s) (slc sl0)
  rw [← hW0]
  clear hW0
  have hcx := hcx.below hb hbb
  replace hbb := Nat.lt_of_lt_of_le hbb (hb).size
  refine jp ?_
  refine ja hB0 Tryd.underlying24 (by rfl) info_rg ?_
  refine jm (.slice (some ⟨b, off, none⟩) m c') ?_
  refine jc (.int .i64 0) (fun X hX hF => mo (slgC A n c r X (HRX.out X (bel_next hb hX)) HLN.out hn1 (some ⟨b, off, none⟩) m c' l (HRL.out X (bel_next hb hX)) HLM.out hm1 HOK.out (HKK.out X (bel_next hb hX))) (by rw [HLG.out])) ?_
  refine jm (.int .i64 0) ?_
  refine jz fun X1 hX1 => ?_
  have hB0 := hB0.bel hX1
  have hB1 := hB1.bel hX1
  have hB2 := hB2.bel hX1
  have hcx := hcx.below hX1 hbb
  replace hbb := Nat.lt_of_lt_of_le hbb (hX1).size
  have hb := bel_next hb hX1
  clear hX1
  go_upto_region 2 with (fail)
  refine jp ?_
  refine jm (.int .i64 0) ?_
  refine jv (.bool false) (exec_nei _ _ _ _ (by rfl) .i64 0 0 (by rfl) (by rfl) false (by rfl)) ?_
  refine jz fun X2 hX2 => ?_
  have hB0 := hB0.bel hX2
  have hB1 := hB1.bel hX2
  have hB2 := hB2.bel hX2
  have hcx := hcx.below hX2 hbb
  replace hbb := Nat.lt_of_lt_of_le hbb (hX2).size
  have hb := bel_next hb hX2
  clear hX2
  go_upto_region 4 with (fail)
  refine jp ?_
  refine jm (.slice (some ⟨b, off, none⟩) m c') ?_
  refine jv (.int .i64 (m : Int)) (exec_lenv Tryd.underlying30 _ (by rfl) (some ⟨b, off, none⟩) m c' (by rfl) _ rfl) ?_
  refine jm (.int .i64 (m : Int)) ?_
  refine jz fun X3 hX3 => ?_
  have hB0 := hB0.bel hX3
  have hB1 := hB1.bel hX3
  have hB2 := hB2.bel hX3
  have hcx := hcx.below hX3 hbb
  replace hbb := Nat.lt_of_lt_of_le hbb (hX3).size
  have hb := bel_next hb hX3
  clear hX3
  go_upto_region 5 with (fail)
  refine jq 3 ?_
  refine jm (.int .i64 (m : Int)) ?_
  refine jv (.agg (z16b.map B8).toArray) (exec_bd0 (by rfl)) ?_
  refine jn (.pointer (some ⟨(w.heap.size + 1), 1, none⟩)) ?_
  refine jz fun X4 hX4 => ?_
  have hB0 := hB0.bel hX4
  have hB1 := hB1.bel hX4
  have hB2 := hB2.bel hX4
  have hcx := hcx.below hX4 hbb
  replace hbb := Nat.lt_of_lt_of_le hbb (hX4).size
  have hb := bel_next hb hX4
  clear hX4
  refine op_store1 rfl (w.heap.size + 1) 1 28 _ hB1 (.int .i64 (m : Int)) (by rw [hs.len]; decide) (fun X u h1 h2 => exec_sti _ _ (by rfl) _ _ (by rfl) (by rfl) u X h1 h2) ?_
  intro w4 hR4 hO4 hB4
  change Blk w4 (w.heap.size + 1) 28 (slc (s.mid (m : Int) s.pv)) at hR4
  have hB0 := hO4 _ _ _ (by omega) hB0
  have hB2 := hO4 _ _ _ (by omega) hB2
  have hb := hB4 _ _ hb (by omega)
  have hcx := hcx.below (hB4 _ _ (Below.refl _ _) (Nat.le_refl _)) (by omega)
  clear hO4 hB4 hB1
  go_upto_region 6 with ((with_reducible show wpList _ _ _ (⟨none, .store 26 _ _, _, _, _, _⟩ :: _) _ _); refine op_store_part rfl 26 (.tmp 23) (.tmp 21) rfl (w.heap.size + 1) 5 28 _ hR4 (by rfl) (z16b.map B8) (by rfl) (by rw [(hs.mid hs.pv (by omega)).len]; decide) (B8s_one _) (info_d16 rfl) ?_; intro w5 hR5 hO5 hB5)
  rw [slc_mid hs (x := z16b) rfl (m : Int) rfl] at hR5
  have hB0 := hO5 _ _ _ (by omega) hB0
  have hB2 := hO5 _ _ _ (by omega) hB2
  have hB1 := hR5
  have hs1 := hs.mid (x := z16b) (q := (m : Int)) rfl (by omega)
  have hb := hB5 _ _ hb (by omega)
  have hcx := hcx.below (hB5 _ _ (Below.refl _ _) (Nat.le_refl _)) (by omega)
  have hbb := Nat.lt_of_lt_of_le hblt hb.size
  clear hR4 hR5 hO5 hB5
  refine jp ?_
  refine jm (.int .i64 (m : Int)) ?_
  refine jv (.bool false) (exec_eqi _ _ _ _ (by rfl) .i64 (m : Int) 4000 (by rfl) (by rfl) false (decide_eq_false (by omega))) ?_
  refine jz fun X5 hX5 => ?_
  have hB0 := hB0.bel hX5
  have hB1 := hB1.bel hX5
  have hB2 := hB2.bel hX5
  have hcx := hcx.below hX5 hbb
  replace hbb := Nat.lt_of_lt_of_le hbb (hX5).size
  have hb := bel_next hb hX5
  clear hX5
  go_upto_region 8 with (fail)
  refine jp ?_
  refine jm (.int .i64 (m : Int)) ?_
  refine jv (.bool true) (exec_gtr _ _ _ _ (by rfl) .i64 (m : Int) 0 (by rfl) (by rfl) true (decide_eq_true (by omega))) ?_
  refine jz fun X6 hX6 => ?_
  have hB0 := hB0.bel hX6
  have hB1 := hB1.bel hX6
  have hB2 := hB2.bel hX6
  have hcx := hcx.below hX6 hbb
  replace hbb := Nat.lt_of_lt_of_le hbb (hX6).size
  have hb := bel_next hb hX6
  clear hX6
  go_upto_region 9 with (fail)
  refine jq 5 ?_
  refine jm (.slice (some ⟨b, off, none⟩) m c') ?_
  refine jm (.int .i64 (m : Int)) ?_
  refine jv (.int .i64 ((m : Int) - 1)) (exec_sub _ _ _ _ (by rfl) (m : Int) 1 ((m : Int) - 1) (by rfl) (by rfl) (by omega) (by omega) (by omega)) ?_
  refine jv (.pointer (some ⟨b, off + (m - 1) * 37, none⟩)) (exec_ixv Tryd.underlying30 info_sl _ _ (by rfl) b (off) m c' (m - 1) (by omega) (by rfl) (by rfl) (by omega)) ?_
  refine jg (.agg (slc y).toArray) (fun X hX hF => exec_ldc 28 _ (by rfl) b (off + (m - 1) * 37) (by rfl) Tryd.underlying28 rfl (slc y) X (hcx.below hX hbb) (info_slc ox)) ?_
  refine jz fun X7 hX7 => ?_
  have hB0 := hB0.bel hX7
  have hB1 := hB1.bel hX7
  have hB2 := hB2.bel hX7
  have hcx := hcx.below hX7 hbb
  replace hbb := Nat.lt_of_lt_of_le hbb (hX7).size
  have hb := bel_next hb hX7
  clear hX7
  go_upto_region 11 with (refine op_store_new _ _ _ rfl 28 (.tmp 10) (.tmp 33) (by rfl) (by rfl) (slc y).toArray (by rfl) (by show (slc y).toArray.size = (slc sl0).toArray.size; simp [SlOk.len ox, SlOk.len ok0]) (fun v hv => slc_one v (by simpa using hv)) (by rw [show (slc y).toArray.size = (slc y).length from by simp]; exact info_slc ox) ?_)
  obtain ⟨Y7, hY9, hD10, hS9⟩ := start1 X7 28 (slc y)
  rw [← hY9]
  clear hY9
  have hgs10 := hb.size
  have hlt10x0 := hB0.lt
  have hlt10x1 := hB1.lt
  have hlt10x2 := hB2.lt
  have hcx := hcx.below hS9 hbb
  replace hbb := Nat.lt_of_lt_of_le hbb (hS9).size
  have hB0 := hB0.bel hS9
  have hB1 := hB1.bel hS9
  have hB2 := hB2.bel hS9
  have hb := bel_next hb hS9
  clear hS9
  generalize X7.heap.size = g10 at *
  clear hcx
  have HS : Hid (s.st ≠ y.st) := hh
  clear hh
  refine jp ?_
  refine jn (.pointer (some ⟨(w.heap.size + 1), 0, none⟩)) ?_
  refine jf (.int .i64 (s.mid (m : Int) z16b).st) hB1 0 load_int ?_
  refine jn (.pointer (some ⟨g10, 0, none⟩)) ?_
  refine jf (.int .i64 y.st) hD10 0 load_int ?_
  refine jv (.bool true) (exec_nei _ _ _ _ (by rfl) .i64 (s.mid (m : Int) z16b).st y.st (by rfl) (by rfl) true (by rw [show (s.mid (m : Int) z16b).st = s.st from rfl, decide_eq_false HS.out]; rfl)) ?_
  refine jm (.bool true) ?_
  refine jz fun X8 hX8 => ?_
  have hB0 := hB0.bel hX8
  have hB1 := hB1.bel hX8
  have hB2 := hB2.bel hX8
  have hD10 := hD10.bel hX8
  have hb := bel_next hb hX8
  clear hX8
  go_upto_region 12 with (fail)
  refine jq 1 ?_
  refine jv (.agg (slc sl0).toArray) (exec_bs0 (by rfl)) ?_
  refine jz fun X9 hX9 => ?_
  have hB0 := hB0.bel hX9
  have hB1 := hB1.bel hX9
  have hB2 := hB2.bel hX9
  have hD10 := hD10.bel hX9
  have hb := bel_next hb hX9
  clear hX9
  refine op_store_blk rfl 28 (.tmp 6) (.tmp 43) rfl (w.heap.size + 2) 28 _ hB2 rfl (slc sl0) rfl ((SlOk.len ok0).trans (SlOk.len ok0).symm) slc_one (info_slc ok0) ?_
  intro w9 hR9 hO9 hB9 hs9
  have hb9 := hB9 _ _ hb (by omega)
  clear hO9 hB9
  go_wp2
  refine post_cell2 (v := .int .i64 1) rfl rfl (by rfl) (by rfl) Tryd.underlying28 rfl hR9 (info_slc ok0) ⟨by rw [HE.out.1, HE.out.2], hb9⟩
theorem snx5 (A : Option Addr) (n c : Nat) (r : List (List UInt8)) (w : World) (hr : Rd w 1 (.slice A n c) n (r.map tx)) (hln : r.length = n) (hn1 : n ≤ 9223372036854775807) (A' : Option Addr) (m c' : Nat) (l : List Sl) (hrl : Rd w 37 (.slice A' m c') m (fl slc l)) (hlm : l.length = m) (hm1 : m ≤ 9223372036854775807) (hok : ∀ s ∈ l, SlOk s) (s : Sl) (hs : SlOk s) (hK : KK w) (h : lgE mk48 nm48 r l = 0) (h2 : ¬ m = 4000) (h0 : 0 < m) (hh : s.st = (sAt l (m - 1)).st ∧ s.dy < (sAt l (m - 1)).dy) : Calls Tryd.prog 20 #[.agg #[.slice A n c], .slice A' m c', .agg (slc s).toArray] w fun e w' => e = .returned (.tuple #[.agg (slc (nxS mk48 nm48 r l s)).toArray, .int .i64 (nxE mk48 nm48 r l s)]) ∧ Since w w' := by
  have HLG := Lib.hid h
  clear h
  obtain ⟨b, off, rfl, hbb, hall⟩ := hrl.sls hok hlm h0
  have hcx := hall (m - 1) (by omega)
  clear hall
  have ox := ok_at hok (k := m - 1) (by omega)
  have hbd := lg_bd HLG.out (k := m - 1) (by omega)
  obtain ⟨y, hy9⟩ : ∃ y, y = sAt l (m - 1) := ⟨_, rfl⟩
  rw [← hy9] at hcx ox hbd
  have HY : Hid (y = sAt l (l.length - 1)) := by rw [hlm]; exact hy9
  rw [← hy9] at hh
  clear hy9
  have HE : Hid (nxE mk48 nm48 r l s = 4 ∧ nxS mk48 nm48 r l s = sl0) := by
    have h9 : nxE mk48 nm48 r l s = 4 := nxE_dy HLG.out (by omega) (by omega) (by rw [← HY.out]; exact hh.1) (by rw [← HY.out]; exact hh.2)
    exact ⟨h9, nxS_no (by rw [h9]; decide)⟩
  have hblt : b < w.heap.size := hbb
  have hz := zero16
  have hzs := zeroSl
  have HKK : Hid (∀ X, Since w X → KK X) := fun X h => hK.below h hK.1
  have HRX : Hid (∀ X, Since w X → Rd X 1 (.slice A n c) n (r.map tx)) := fun X h => hr.below h
  have HRL : Hid (∀ X, Since w X → Rd X 37 (.slice (some ⟨b, off, none⟩) m c') m (fl slc l)) := fun X h => hrl.below h
  have HLN := Lib.hid hln
  have HLM := Lib.hid hlm
  have HOK := Lib.hid hok
  clear hK hr hrl hln hlm hok
  go_enter Tryd.func20, Tryd.ntmps20
  go_upto_region 1 with (fail)
  obtain ⟨W0, hW0, hB0, hB1, hB2, hb⟩ := start3 w 24 28 28 [.slice A n c] (slc s) (slc sl0)
  rw [← hW0]
  clear hW0
  have hcx := hcx.below hb hbb
  replace hbb := Nat.lt_of_lt_of_le hbb (hb).size
  refine jp ?_
  refine ja hB0 Tryd.underlying24 (by rfl) info_rg ?_
  refine jm (.slice (some ⟨b, off, none⟩) m c') ?_
  refine jc (.int .i64 0) (fun X hX hF => mo (slgC A n c r X (HRX.out X (bel_next hb hX)) HLN.out hn1 (some ⟨b, off, none⟩) m c' l (HRL.out X (bel_next hb hX)) HLM.out hm1 HOK.out (HKK.out X (bel_next hb hX))) (by rw [HLG.out])) ?_
  refine jm (.int .i64 0) ?_
  refine jz fun X1 hX1 => ?_
  have hB0 := hB0.bel hX1
  have hB1 := hB1.bel hX1
  have hB2 := hB2.bel hX1
  have hcx := hcx.below hX1 hbb
  replace hbb := Nat.lt_of_lt_of_le hbb (hX1).size
  have hb := bel_next hb hX1
  clear hX1
  go_upto_region 2 with (fail)
  refine jp ?_
  refine jm (.int .i64 0) ?_
  refine jv (.bool false) (exec_nei _ _ _ _ (by rfl) .i64 0 0 (by rfl) (by rfl) false (by rfl)) ?_
  refine jz fun X2 hX2 => ?_
  have hB0 := hB0.bel hX2
  have hB1 := hB1.bel hX2
  have hB2 := hB2.bel hX2
  have hcx := hcx.below hX2 hbb
  replace hbb := Nat.lt_of_lt_of_le hbb (hX2).size
  have hb := bel_next hb hX2
  clear hX2
  go_upto_region 4 with (fail)
  refine jp ?_
  refine jm (.slice (some ⟨b, off, none⟩) m c') ?_
  refine jv (.int .i64 (m : Int)) (exec_lenv Tryd.underlying30 _ (by rfl) (some ⟨b, off, none⟩) m c' (by rfl) _ rfl) ?_
  refine jm (.int .i64 (m : Int)) ?_
  refine jz fun X3 hX3 => ?_
  have hB0 := hB0.bel hX3
  have hB1 := hB1.bel hX3
  have hB2 := hB2.bel hX3
  have hcx := hcx.below hX3 hbb
  replace hbb := Nat.lt_of_lt_of_le hbb (hX3).size
  have hb := bel_next hb hX3
  clear hX3
  go_upto_region 5 with (fail)
  refine jq 3 ?_
  refine jm (.int .i64 (m : Int)) ?_
  refine jv (.agg (z16b.map B8).toArray) (exec_bd0 (by rfl)) ?_
  refine jn (.pointer (some ⟨(w.heap.size + 1), 1, none⟩)) ?_
  refine jz fun X4 hX4 => ?_
  have hB0 := hB0.bel hX4
  have hB1 := hB1.bel hX4
  have hB2 := hB2.bel hX4
  have hcx := hcx.below hX4 hbb
  replace hbb := Nat.lt_of_lt_of_le hbb (hX4).size
  have hb := bel_next hb hX4
  clear hX4
  refine op_store1 rfl (w.heap.size + 1) 1 28 _ hB1 (.int .i64 (m : Int)) (by rw [hs.len]; decide) (fun X u h1 h2 => exec_sti _ _ (by rfl) _ _ (by rfl) (by rfl) u X h1 h2) ?_
  intro w4 hR4 hO4 hB4
  change Blk w4 (w.heap.size + 1) 28 (slc (s.mid (m : Int) s.pv)) at hR4
  have hB0 := hO4 _ _ _ (by omega) hB0
  have hB2 := hO4 _ _ _ (by omega) hB2
  have hb := hB4 _ _ hb (by omega)
  have hcx := hcx.below (hB4 _ _ (Below.refl _ _) (Nat.le_refl _)) (by omega)
  clear hO4 hB4 hB1
  go_upto_region 6 with ((with_reducible show wpList _ _ _ (⟨none, .store 26 _ _, _, _, _, _⟩ :: _) _ _); refine op_store_part rfl 26 (.tmp 23) (.tmp 21) rfl (w.heap.size + 1) 5 28 _ hR4 (by rfl) (z16b.map B8) (by rfl) (by rw [(hs.mid hs.pv (by omega)).len]; decide) (B8s_one _) (info_d16 rfl) ?_; intro w5 hR5 hO5 hB5)
  rw [slc_mid hs (x := z16b) rfl (m : Int) rfl] at hR5
  have hB0 := hO5 _ _ _ (by omega) hB0
  have hB2 := hO5 _ _ _ (by omega) hB2
  have hB1 := hR5
  have hs1 := hs.mid (x := z16b) (q := (m : Int)) rfl (by omega)
  have hb := hB5 _ _ hb (by omega)
  have hcx := hcx.below (hB5 _ _ (Below.refl _ _) (Nat.le_refl _)) (by omega)
  have hbb := Nat.lt_of_lt_of_le hblt hb.size
  clear hR4 hR5 hO5 hB5
  refine jp ?_
  refine jm (.int .i64 (m : Int)) ?_
  refine jv (.bool false) (exec_eqi _ _ _ _ (by rfl) .i64 (m : Int) 4000 (by rfl) (by rfl) false (decide_eq_false (by omega))) ?_
  refine jz fun X5 hX5 => ?_
  have hB0 := hB0.bel hX5
  have hB1 := hB1.bel hX5
  have hB2 := hB2.bel hX5
  have hcx := hcx.below hX5 hbb
  replace hbb := Nat.lt_of_lt_of_le hbb (hX5).size
  have hb := bel_next hb hX5
  clear hX5
  go_upto_region 8 with (fail)
  refine jp ?_
  refine jm (.int .i64 (m : Int)) ?_
  refine jv (.bool true) (exec_gtr _ _ _ _ (by rfl) .i64 (m : Int) 0 (by rfl) (by rfl) true (decide_eq_true (by omega))) ?_
  refine jz fun X6 hX6 => ?_
  have hB0 := hB0.bel hX6
  have hB1 := hB1.bel hX6
  have hB2 := hB2.bel hX6
  have hcx := hcx.below hX6 hbb
  replace hbb := Nat.lt_of_lt_of_le hbb (hX6).size
  have hb := bel_next hb hX6
  clear hX6
  go_upto_region 9 with (fail)
  refine jq 5 ?_
  refine jm (.slice (some ⟨b, off, none⟩) m c') ?_
  refine jm (.int .i64 (m : Int)) ?_
  refine jv (.int .i64 ((m : Int) - 1)) (exec_sub _ _ _ _ (by rfl) (m : Int) 1 ((m : Int) - 1) (by rfl) (by rfl) (by omega) (by omega) (by omega)) ?_
  refine jv (.pointer (some ⟨b, off + (m - 1) * 37, none⟩)) (exec_ixv Tryd.underlying30 info_sl _ _ (by rfl) b (off) m c' (m - 1) (by omega) (by rfl) (by rfl) (by omega)) ?_
  refine jg (.agg (slc y).toArray) (fun X hX hF => exec_ldc 28 _ (by rfl) b (off + (m - 1) * 37) (by rfl) Tryd.underlying28 rfl (slc y) X (hcx.below hX hbb) (info_slc ox)) ?_
  refine jz fun X7 hX7 => ?_
  have hB0 := hB0.bel hX7
  have hB1 := hB1.bel hX7
  have hB2 := hB2.bel hX7
  have hcx := hcx.below hX7 hbb
  replace hbb := Nat.lt_of_lt_of_le hbb (hX7).size
  have hb := bel_next hb hX7
  clear hX7
  go_upto_region 11 with (refine op_store_new _ _ _ rfl 28 (.tmp 10) (.tmp 33) (by rfl) (by rfl) (slc y).toArray (by rfl) (by show (slc y).toArray.size = (slc sl0).toArray.size; simp [SlOk.len ox, SlOk.len ok0]) (fun v hv => slc_one v (by simpa using hv)) (by rw [show (slc y).toArray.size = (slc y).length from by simp]; exact info_slc ox) ?_)
  obtain ⟨Y7, hY9, hD10, hS9⟩ := start1 X7 28 (slc y)
  rw [← hY9]
  clear hY9
  have hgs10 := hb.size
  have hlt10x0 := hB0.lt
  have hlt10x1 := hB1.lt
  have hlt10x2 := hB2.lt
  have hcx := hcx.below hS9 hbb
  replace hbb := Nat.lt_of_lt_of_le hbb (hS9).size
  have hB0 := hB0.bel hS9
  have hB1 := hB1.bel hS9
  have hB2 := hB2.bel hS9
  have hb := bel_next hb hS9
  clear hS9
  generalize X7.heap.size = g10 at *
  clear hcx
  obtain ⟨hh1, hh2⟩ := hh
  have HS := Lib.hid hh1
  clear hh1
  refine jp ?_
  refine jn (.pointer (some ⟨(w.heap.size + 1), 0, none⟩)) ?_
  refine jf (.int .i64 (s.mid (m : Int) z16b).st) hB1 0 load_int ?_
  refine jn (.pointer (some ⟨g10, 0, none⟩)) ?_
  refine jf (.int .i64 y.st) hD10 0 load_int ?_
  refine jv (.bool false) (exec_nei _ _ _ _ (by rfl) .i64 (s.mid (m : Int) z16b).st y.st (by rfl) (by rfl) false (by rw [show (s.mid (m : Int) z16b).st = s.st from rfl, decide_eq_true HS.out]; rfl)) ?_
  refine jm (.bool false) ?_
  refine jz fun X8 hX8 => ?_
  have hB0 := hB0.bel hX8
  have hB1 := hB1.bel hX8
  have hB2 := hB2.bel hX8
  have hD10 := hD10.bel hX8
  have hb := bel_next hb hX8
  clear hX8
  go_upto_region 13 with (fail)
  refine jp ?_
  refine jn (.pointer (some ⟨(w.heap.size + 1), 2, none⟩)) ?_
  refine jf (.int .i64 (s.mid (m : Int) z16b).dy) hB1 2 load_int ?_
  refine jn (.pointer (some ⟨g10, 2, none⟩)) ?_
  refine jf (.int .i64 y.dy) hD10 2 load_int ?_
  refine jv (.bool true) (exec_lss _ _ _ _ (by rfl) .i64 (s.mid (m : Int) z16b).dy y.dy (by rfl) (by rfl) true (decide_eq_true hh2)) ?_
  refine jm (.bool true) ?_
  refine jz fun X9 hX9 => ?_
  have hB0 := hB0.bel hX9
  have hB1 := hB1.bel hX9
  have hB2 := hB2.bel hX9
  have hD10 := hD10.bel hX9
  have hb := bel_next hb hX9
  clear hX9
  go_upto_region 14 with (fail)
  refine jq 1 ?_
  refine jv (.agg (slc sl0).toArray) (exec_bs0 (by rfl)) ?_
  refine jz fun X10 hX10 => ?_
  have hB0 := hB0.bel hX10
  have hB1 := hB1.bel hX10
  have hB2 := hB2.bel hX10
  have hD10 := hD10.bel hX10
  have hb := bel_next hb hX10
  clear hX10
  refine op_store_blk rfl 28 (.tmp 6) (.tmp 50) rfl (w.heap.size + 2) 28 _ hB2 rfl (slc sl0) rfl ((SlOk.len ok0).trans (SlOk.len ok0).symm) slc_one (info_slc ok0) ?_
  intro w9 hR9 hO9 hB9 hs9
  have hb9 := hB9 _ _ hb (by omega)
  clear hO9 hB9
  go_wp2
  refine post_cell2 (v := .int .i64 4) rfl rfl (by rfl) (by rfl) Tryd.underlying28 rfl hR9 (info_slc ok0) ⟨by rw [HE.out.1, HE.out.2], hb9⟩
theorem snx6 (A : Option Addr) (n c : Nat) (r : List (List UInt8)) (w : World) (hr : Rd w 1 (.slice A n c) n (r.map tx)) (hln : r.length = n) (hn1 : n ≤ 9223372036854775807) (A' : Option Addr) (m c' : Nat) (l : List Sl) (hrl : Rd w 37 (.slice A' m c') m (fl slc l)) (hlm : l.length = m) (hm1 : m ≤ 9223372036854775807) (hok : ∀ s ∈ l, SlOk s) (s : Sl) (hs : SlOk s) (hK : KK w) (h : lgE mk48 nm48 r l = 0) (h2 : ¬ m = 4000) (h0 : 0 < m) (hh : s.st = (sAt l (m - 1)).st ∧ (sAt l (m - 1)).dy ≤ s.dy) : Calls Tryd.prog 20 #[.agg #[.slice A n c], .slice A' m c', .agg (slc s).toArray] w fun e w' => e = .returned (.tuple #[.agg (slc (nxS mk48 nm48 r l s)).toArray, .int .i64 (nxE mk48 nm48 r l s)]) ∧ Since w w' := by
  have HLG := Lib.hid h
  clear h
  obtain ⟨b, off, rfl, hbb, hall⟩ := hrl.sls hok hlm h0
  have hcx := hall (m - 1) (by omega)
  clear hall
  have ox := ok_at hok (k := m - 1) (by omega)
  have hbd := lg_bd HLG.out (k := m - 1) (by omega)
  obtain ⟨y, hy9⟩ : ∃ y, y = sAt l (m - 1) := ⟨_, rfl⟩
  rw [← hy9] at hcx ox hbd
  have HY : Hid (y = sAt l (l.length - 1)) := by rw [hlm]; exact hy9
  rw [← hy9] at hh
  clear hy9
  have HE : Hid (nxE mk48 nm48 r l s = slE r (nxT nm48 l s)) := nxE_sl HLG.out (by omega) (fun _ => by rw [← HY.out]; exact hh)
  have hblt : b < w.heap.size := hbb
  have hz := zero16
  have hzs := zeroSl
  have HKK : Hid (∀ X, Since w X → KK X) := fun X h => hK.below h hK.1
  have HRX : Hid (∀ X, Since w X → Rd X 1 (.slice A n c) n (r.map tx)) := fun X h => hr.below h
  have HRL : Hid (∀ X, Since w X → Rd X 37 (.slice (some ⟨b, off, none⟩) m c') m (fl slc l)) := fun X h => hrl.below h
  have HLN := Lib.hid hln
  have HLM := Lib.hid hlm
  have HOK := Lib.hid hok
  clear hK hr hrl hln hlm hok
  go_enter Tryd.func20, Tryd.ntmps20
  go_upto_region 1 with (fail)
  obtain ⟨W0, hW0, hB0, hB1, hB2, hb⟩ := start3 w 24 28 28 [.slice A n c] (slc s) (slc sl0)
  rw [← hW0]
  clear hW0
  have hcx := hcx.below hb hbb
  replace hbb := Nat.lt_of_lt_of_le hbb (hb).size
  refine jp ?_
  refine ja hB0 Tryd.underlying24 (by rfl) info_rg ?_
  refine jm (.slice (some ⟨b, off, none⟩) m c') ?_
  refine jc (.int .i64 0) (fun X hX hF => mo (slgC A n c r X (HRX.out X (bel_next hb hX)) HLN.out hn1 (some ⟨b, off, none⟩) m c' l (HRL.out X (bel_next hb hX)) HLM.out hm1 HOK.out (HKK.out X (bel_next hb hX))) (by rw [HLG.out])) ?_
  refine jm (.int .i64 0) ?_
  refine jz fun X1 hX1 => ?_
  have hB0 := hB0.bel hX1
  have hB1 := hB1.bel hX1
  have hB2 := hB2.bel hX1
  have hcx := hcx.below hX1 hbb
  replace hbb := Nat.lt_of_lt_of_le hbb (hX1).size
  have hb := bel_next hb hX1
  clear hX1
  go_upto_region 2 with (fail)
  refine jp ?_
  refine jm (.int .i64 0) ?_
  refine jv (.bool false) (exec_nei _ _ _ _ (by rfl) .i64 0 0 (by rfl) (by rfl) false (by rfl)) ?_
  refine jz fun X2 hX2 => ?_
  have hB0 := hB0.bel hX2
  have hB1 := hB1.bel hX2
  have hB2 := hB2.bel hX2
  have hcx := hcx.below hX2 hbb
  replace hbb := Nat.lt_of_lt_of_le hbb (hX2).size
  have hb := bel_next hb hX2
  clear hX2
  go_upto_region 4 with (fail)
  refine jp ?_
  refine jm (.slice (some ⟨b, off, none⟩) m c') ?_
  refine jv (.int .i64 (m : Int)) (exec_lenv Tryd.underlying30 _ (by rfl) (some ⟨b, off, none⟩) m c' (by rfl) _ rfl) ?_
  refine jm (.int .i64 (m : Int)) ?_
  refine jz fun X3 hX3 => ?_
  have hB0 := hB0.bel hX3
  have hB1 := hB1.bel hX3
  have hB2 := hB2.bel hX3
  have hcx := hcx.below hX3 hbb
  replace hbb := Nat.lt_of_lt_of_le hbb (hX3).size
  have hb := bel_next hb hX3
  clear hX3
  go_upto_region 5 with (fail)
  refine jq 3 ?_
  refine jm (.int .i64 (m : Int)) ?_
  refine jv (.agg (z16b.map B8).toArray) (exec_bd0 (by rfl)) ?_
  refine jn (.pointer (some ⟨(w.heap.size + 1), 1, none⟩)) ?_
  refine jz fun X4 hX4 => ?_
  have hB0 := hB0.bel hX4
  have hB1 := hB1.bel hX4
  have hB2 := hB2.bel hX4
  have hcx := hcx.below hX4 hbb
  replace hbb := Nat.lt_of_lt_of_le hbb (hX4).size
  have hb := bel_next hb hX4
  clear hX4
  refine op_store1 rfl (w.heap.size + 1) 1 28 _ hB1 (.int .i64 (m : Int)) (by rw [hs.len]; decide) (fun X u h1 h2 => exec_sti _ _ (by rfl) _ _ (by rfl) (by rfl) u X h1 h2) ?_
  intro w4 hR4 hO4 hB4
  change Blk w4 (w.heap.size + 1) 28 (slc (s.mid (m : Int) s.pv)) at hR4
  have hB0 := hO4 _ _ _ (by omega) hB0
  have hB2 := hO4 _ _ _ (by omega) hB2
  have hb := hB4 _ _ hb (by omega)
  have hcx := hcx.below (hB4 _ _ (Below.refl _ _) (Nat.le_refl _)) (by omega)
  clear hO4 hB4 hB1
  go_upto_region 6 with ((with_reducible show wpList _ _ _ (⟨none, .store 26 _ _, _, _, _, _⟩ :: _) _ _); refine op_store_part rfl 26 (.tmp 23) (.tmp 21) rfl (w.heap.size + 1) 5 28 _ hR4 (by rfl) (z16b.map B8) (by rfl) (by rw [(hs.mid hs.pv (by omega)).len]; decide) (B8s_one _) (info_d16 rfl) ?_; intro w5 hR5 hO5 hB5)
  rw [slc_mid hs (x := z16b) rfl (m : Int) rfl] at hR5
  have hB0 := hO5 _ _ _ (by omega) hB0
  have hB2 := hO5 _ _ _ (by omega) hB2
  have hB1 := hR5
  have hs1 := hs.mid (x := z16b) (q := (m : Int)) rfl (by omega)
  have hb := hB5 _ _ hb (by omega)
  have hcx := hcx.below (hB5 _ _ (Below.refl _ _) (Nat.le_refl _)) (by omega)
  have hbb := Nat.lt_of_lt_of_le hblt hb.size
  clear hR4 hR5 hO5 hB5
  refine jp ?_
  refine jm (.int .i64 (m : Int)) ?_
  refine jv (.bool false) (exec_eqi _ _ _ _ (by rfl) .i64 (m : Int) 4000 (by rfl) (by rfl) false (decide_eq_false (by omega))) ?_
  refine jz fun X5 hX5 => ?_
  have hB0 := hB0.bel hX5
  have hB1 := hB1.bel hX5
  have hB2 := hB2.bel hX5
  have hcx := hcx.below hX5 hbb
  replace hbb := Nat.lt_of_lt_of_le hbb (hX5).size
  have hb := bel_next hb hX5
  clear hX5
  go_upto_region 8 with (fail)
  refine jp ?_
  refine jm (.int .i64 (m : Int)) ?_
  refine jv (.bool true) (exec_gtr _ _ _ _ (by rfl) .i64 (m : Int) 0 (by rfl) (by rfl) true (decide_eq_true (by omega))) ?_
  refine jz fun X6 hX6 => ?_
  have hB0 := hB0.bel hX6
  have hB1 := hB1.bel hX6
  have hB2 := hB2.bel hX6
  have hcx := hcx.below hX6 hbb
  replace hbb := Nat.lt_of_lt_of_le hbb (hX6).size
  have hb := bel_next hb hX6
  clear hX6
  go_upto_region 9 with (fail)
  refine jq 5 ?_
  refine jm (.slice (some ⟨b, off, none⟩) m c') ?_
  refine jm (.int .i64 (m : Int)) ?_
  refine jv (.int .i64 ((m : Int) - 1)) (exec_sub _ _ _ _ (by rfl) (m : Int) 1 ((m : Int) - 1) (by rfl) (by rfl) (by omega) (by omega) (by omega)) ?_
  refine jv (.pointer (some ⟨b, off + (m - 1) * 37, none⟩)) (exec_ixv Tryd.underlying30 info_sl _ _ (by rfl) b (off) m c' (m - 1) (by omega) (by rfl) (by rfl) (by omega)) ?_
  refine jg (.agg (slc y).toArray) (fun X hX hF => exec_ldc 28 _ (by rfl) b (off + (m - 1) * 37) (by rfl) Tryd.underlying28 rfl (slc y) X (hcx.below hX hbb) (info_slc ox)) ?_
  refine jz fun X7 hX7 => ?_
  have hB0 := hB0.bel hX7
  have hB1 := hB1.bel hX7
  have hB2 := hB2.bel hX7
  have hcx := hcx.below hX7 hbb
  replace hbb := Nat.lt_of_lt_of_le hbb (hX7).size
  have hb := bel_next hb hX7
  clear hX7
  go_upto_region 11 with (refine op_store_new _ _ _ rfl 28 (.tmp 10) (.tmp 33) (by rfl) (by rfl) (slc y).toArray (by rfl) (by show (slc y).toArray.size = (slc sl0).toArray.size; simp [SlOk.len ox, SlOk.len ok0]) (fun v hv => slc_one v (by simpa using hv)) (by rw [show (slc y).toArray.size = (slc y).length from by simp]; exact info_slc ox) ?_)
  obtain ⟨Y7, hY9, hD10, hS9⟩ := start1 X7 28 (slc y)
  rw [← hY9]
  clear hY9
  have hgs10 := hb.size
  have hlt10x0 := hB0.lt
  have hlt10x1 := hB1.lt
  have hlt10x2 := hB2.lt
  have hcx := hcx.below hS9 hbb
  replace hbb := Nat.lt_of_lt_of_le hbb (hS9).size
  have hB0 := hB0.bel hS9
  have hB1 := hB1.bel hS9
  have hB2 := hB2.bel hS9
  have hb := bel_next hb hS9
  clear hS9
  generalize X7.heap.size = g10 at *
  clear hcx
  obtain ⟨hh1, hh2⟩ := hh
  have HS := Lib.hid hh1
  clear hh1
  refine jp ?_
  refine jn (.pointer (some ⟨(w.heap.size + 1), 0, none⟩)) ?_
  refine jf (.int .i64 (s.mid (m : Int) z16b).st) hB1 0 load_int ?_
  refine jn (.pointer (some ⟨g10, 0, none⟩)) ?_
  refine jf (.int .i64 y.st) hD10 0 load_int ?_
  refine jv (.bool false) (exec_nei _ _ _ _ (by rfl) .i64 (s.mid (m : Int) z16b).st y.st (by rfl) (by rfl) false (by rw [show (s.mid (m : Int) z16b).st = s.st from rfl, decide_eq_true HS.out]; rfl)) ?_
  refine jm (.bool false) ?_
  refine jz fun X8 hX8 => ?_
  have hB0 := hB0.bel hX8
  have hB1 := hB1.bel hX8
  have hB2 := hB2.bel hX8
  have hD10 := hD10.bel hX8
  have hb := bel_next hb hX8
  clear hX8
  go_upto_region 13 with (fail)
  refine jp ?_
  refine jn (.pointer (some ⟨(w.heap.size + 1), 2, none⟩)) ?_
  refine jf (.int .i64 (s.mid (m : Int) z16b).dy) hB1 2 load_int ?_
  refine jn (.pointer (some ⟨g10, 2, none⟩)) ?_
  refine jf (.int .i64 y.dy) hD10 2 load_int ?_
  refine jv (.bool false) (exec_lss _ _ _ _ (by rfl) .i64 (s.mid (m : Int) z16b).dy y.dy (by rfl) (by rfl) false (decide_eq_false (show ¬ s.dy < y.dy by omega))) ?_
  refine jm (.bool false) ?_
  refine jz fun X9 hX9 => ?_
  have hB0 := hB0.bel hX9
  have hB1 := hB1.bel hX9
  have hB2 := hB2.bel hX9
  have hD10 := hD10.bel hX9
  have hb := bel_next hb hX9
  clear hX9
  go_upto_region 10 with (fail)
  refine jq 3 ?_
  refine jg (.agg (slc y).toArray) (fun X hX hF => exec_lda 28 _ (by rfl) g10 (by rfl) Tryd.underlying28 rfl X (hD10.bel hX) (info_slc ox)) ?_
  refine jc (.agg ((nm48 y).map B8).toArray) (fun X hX hF => snmC y X ox (by omega) (HKK.out X (bel_next hb hX))) ?_
  refine jn (.pointer (some ⟨(w.heap.size + 1), 5, none⟩)) ?_
  refine jz fun X10 hX10 => ?_
  have hB0 := hB0.bel hX10
  have hB1 := hB1.bel hX10
  have hB2 := hB2.bel hX10
  have hD10 := hD10.bel hX10
  have hb := bel_next hb hX10
  clear hX10
  refine op_store_part rfl 26 (.tmp 36) (.tmp 35) rfl (w.heap.size + 1) 5 28 _ hB1 (by rfl) ((nm48 y).map B8) (by rfl) (by rw [hs1.len, List.length_map, nm_len]; decide) (B8s_one _) (info_d16 (nm_len _)) ?_
  intro w7 hR7 hO7 hB7
  rw [slc_mid hs1 (x := nm48 y) (nm_len _) (m : Int) (cs := slc (s.mid (m : Int) z16b)) rfl] at hR7
  have hB0 := hO7 _ _ _ (by omega) hB0
  have hB2 := hO7 _ _ _ (by omega) hB2
  have hs2 := hs1.mid (x := nm48 y) (q := (m : Int)) (nm_len _) (by omega)
  have hb := hB7 _ _ hb (by omega)
  change Blk w7 (w.heap.size + 1) 28 (slc (s.mid (m : Int) (nm48 y))) at hR7
  change SlOk (s.mid (m : Int) (nm48 y)) at hs2
  have HT : Hid (s.mid (m : Int) (nm48 y) = nxT nm48 l s) := by
    rw [← mid_nxT HLM.out, HY.out, HLM.out]
    unfold bfr
    rw [if_neg (by omega)]
    rfl
  clear hB1 hO7 hB7 hD10
  have hx := slS_ok (r := r) (s := (s.mid (m : Int) (nm48 y))) hs2
  obtain ⟨x, hx9⟩ : ∃ x, x = slS mk48 r (s.mid (m : Int) (nm48 y)) := ⟨_, rfl⟩
  obtain ⟨e9, he9⟩ : ∃ e9, e9 = slE r (s.mid (m : Int) (nm48 y)) := ⟨_, rfl⟩
  rw [← hx9] at hx
  have HXE : Hid (slS mk48 r (s.mid (m : Int) (nm48 y)) = x ∧ slE r (s.mid (m : Int) (nm48 y)) = e9) := ⟨hx9.symm, he9.symm⟩
  clear hx9 he9
  go_upto_region 15 with (fail)
  refine jq 5 ?_
  refine ja hB0 Tryd.underlying24 (by rfl) info_rg ?_
  refine jg (.agg (slc (s.mid (m : Int) (nm48 y))).toArray) (fun X hX hF => exec_lda 28 _ (by rfl) (w.heap.size + 1) (by rfl) Tryd.underlying28 rfl X (hR7.bel hX) (info_slc hs2)) ?_
  refine jc (.tuple #[.agg (slc x).toArray, .int .i64 e9]) (fun X hX hF => mo (sslC A n c r X (HRX.out X (bel_next hb hX)) HLN.out hn1 (s.mid (m : Int) (nm48 y)) hs2 (HKK.out X (bel_next hb hX))) (by rw [HXE.out.1, HXE.out.2])) ?_
  refine jm (.agg (slc x).toArray) ?_
  refine jm (.int .i64 e9) ?_
  refine jz fun X11 hX11 => ?_
  have hB0 := hB0.bel hX11
  have hR7 := hR7.bel hX11
  have hB2 := hB2.bel hX11
  have hb := bel_next hb hX11
  clear hX11
  have HFIN : Hid (nxE mk48 nm48 r l s = e9 ∧ nxS mk48 nm48 r l s = x) := by
    rw [← HXE.out.1, ← HXE.out.2, HT.out]
    exact ⟨HE.out, nxS_sl HE.out⟩
  refine op_store_blk rfl 28 (.tmp 6) (.tmp 54) rfl (w.heap.size + 2) 28 _ hB2 rfl (slc x) rfl ((SlOk.len hx).trans (SlOk.len ok0).symm) slc_one (info_slc hx) ?_
  intro w9 hR9 hO9 hB9 hs9
  have hb9 := hB9 _ _ hb (by omega)
  clear hO9 hB9
  go_wp2
  refine post_cell2 (v := .int .i64 e9) rfl rfl (by rfl) (by rfl) Tryd.underlying28 rfl hR9 (info_slc hx) ⟨by rw [HFIN.out.1, HFIN.out.2], hb9⟩
theorem snxC (A : Option Addr) (n c : Nat) (r : List (List UInt8)) (w : World) (hr : Rd w 1 (.slice A n c) n (r.map tx)) (hln : r.length = n) (hn1 : n ≤ 9223372036854775807) (A' : Option Addr) (m c' : Nat) (l : List Sl) (hrl : Rd w 37 (.slice A' m c') m (fl slc l)) (hlm : l.length = m) (hm1 : m ≤ 9223372036854775807) (hok : ∀ s ∈ l, SlOk s) (s : Sl) (hs : SlOk s) (hK : KK w) : Calls Tryd.prog 20 #[.agg #[.slice A n c], .slice A' m c', .agg (slc s).toArray] w fun e w' => e = .returned (.tuple #[.agg (slc (nxS mk48 nm48 r l s)).toArray, .int .i64 (nxE mk48 nm48 r l s)]) ∧ Since w w' := by
  by_cases h : lgE mk48 nm48 r l = 0
  · by_cases h2 : m = 4000
    · exact snx2 A n c r w hr hln hn1 A' m c' l hrl hlm hm1 hok s hs hK h h2
    · by_cases h0 : m = 0
      · exact snx3 A n c r w hr hln hn1 A' m c' l hrl hlm hm1 hok s hs hK h h0
      · by_cases h3 : s.st = (sAt l (m - 1)).st
        · by_cases h4 : s.dy < (sAt l (m - 1)).dy
          · exact snx5 A n c r w hr hln hn1 A' m c' l hrl hlm hm1 hok s hs hK h h2 (by omega) ⟨h3, h4⟩
          · exact snx6 A n c r w hr hln hn1 A' m c' l hrl hlm hm1 hok s hs hK h h2 (by omega) ⟨h3, by omega⟩
        · exact snx4 A n c r w hr hln hn1 A' m c' l hrl hlm hm1 hok s hs hK h h2 (by omega) h3
  · exact snx1 A n c r w hr hln hn1 A' m c' l hrl hlm hm1 hok s hs hK h
end Go.Proofs.YthinopepcmidmaaDoor
