/-
  Reference of layer 48: Next.
-/
import Derived.Test.YthinopepcmidmaaDoorRe48
set_option linter.unusedSimpArgs false
set_option linter.unusedVariables false
set_option maxRecDepth 100000
set_option maxHeartbeats 1600000
namespace Go.Proofs.YthinopepcmidmaaDoor
open Go.RowKit
theorem exec_bq5 {f : Operand → Value} {o : Oper} (x0 x1 x2 x3 x4 : Operand) (ho : o.op = .build 28 #[(0, x0), (1, x1), (2, x2), (3, x3), (4, x4)]) (a q b c : Int) (l : List UInt8) (h0 : f x0 = .int .i64 a) (h1 : f x1 = .int .i64 q) (h2 : f x2 = .int .i64 b) (h3 : f x3 = .int .i64 c) (h4 : f x4 = .string ⟨l.toArray⟩) (X : World) :
    (execOp f o).run Tryd.prog X = .ok (.value (.agg (slc ⟨a, q, b, c, l, z16b, z16b⟩).toArray)) X := by
  have hz := zeroSl
  unfold execOp
  simp only [ho]
  go_simp
  rfl
/-- A statement as the reference seals it. -/
def Sl.bare (s : Sl) (q : Int) (p : List UInt8) : Sl := ⟨s.st, q, s.dy, s.kd, s.bd, p, z16b⟩
theorem SlOk.bare {s : Sl} (h : SlOk s) {q : Int} (hq : -9223372036854775808 ≤ q ∧ q ≤ 9223372036854775807) {p : List UInt8} (hp : p.length = 16) : SlOk (s.bare q p) := ⟨h.st, hq, h.dy, h.kd, h.bd, hp, rfl⟩
theorem slc_bare {s : Sl} {q : Int} {p x : List UInt8} (hp : p.length = 16) (hx : x.length = 16) : (slc (s.bare q p)).take 5 ++ x.map B8 ++ (slc (s.bare q p)).drop (5 + (x.map B8).length) = slc (s.bare q x) := by
  rw [List.length_map, hx]
  have e2 : (slc (s.bare q p)).drop (5 + 16) = z16b.map B8 := by
    show (p.map B8 ++ z16b.map B8).drop 16 = z16b.map B8
    exact List.drop_left' (by rw [List.length_map, hp])
  rw [e2, List.append_assoc]
  rfl
theorem bare_put {l : List Sl} {s : Sl} {m : Nat} (hl : l.length = m) : s.bare (m : Int) (bfr nm48 l m) = (nxT nm48 l s).put z16b := by
  unfold nxT
  rw [hl]
  rfl
theorem slE_put {r : List (List UInt8)} (t : Sl) (x : List UInt8) : slE r (t.put x) = slE r t := rfl
theorem slS_put {r : List (List UInt8)} (t : Sl) (x : List UInt8) : slS mk48 r (t.put x) = slS mk48 r t := rfl
theorem rnx1 (A : Option Addr) (n c : Nat) (r : List (List UInt8)) (w : World) (hr : Rd w 1 (.slice A n c) n (r.map tx)) (hln : r.length = n) (hn1 : n ≤ 9223372036854775807) (A' : Option Addr) (m c' : Nat) (l : List Sl) (hrl : Rd w 37 (.slice A' m c') m (fl slc l)) (hlm : l.length = m) (hm1 : m ≤ 9223372036854775807) (hok : ∀ s ∈ l, SlOk s) (s : Sl) (hs : SlOk s) (hK : KK0 w) (h : ¬ lgE mk48 nm48 r l = 0) : Calls Tryd.prog 21 #[.agg #[.slice A n c], .slice A' m c', .agg (slc s).toArray] w fun e w' => e = .returned (.agg (mdc (nxS mk48 nm48 r l s) (nxE mk48 nm48 r l s)).toArray) ∧ Since w w' := by
  obtain ⟨e9, he9⟩ : ∃ e9, e9 = lgE mk48 nm48 r l := ⟨_, rfl⟩
  rw [← he9] at h
  have HLG : Hid (lgE mk48 nm48 r l = e9) := he9.symm
  clear he9
  have HC : Hid (¬ e9 = 0) := h
  have HE : Hid (nxE mk48 nm48 r l s = e9 ∧ nxS mk48 nm48 r l s = sl0) := by
    have h9 : ¬ lgE mk48 nm48 r l = 0 := by rw [HLG.out]; exact h
    exact ⟨(nxE_lg h9).trans HLG.out, nxS_no (by rw [nxE_lg h9]; exact h9)⟩
  clear h
  have hz := zero16
  have hzs := zeroSl
  have hzm := zeroMd
  have HKK : Hid (∀ X, Since w X → KK0 X) := fun X h => KK0.since hK h
  have HRX : Hid (∀ X, Since w X → Rd X 1 (.slice A n c) n (r.map tx)) := fun X h => hr.below h
  have HLN := Lib.hid hln
  have HRL : Hid (∀ X, Since w X → Rd X 37 (.slice A' m c') m (fl slc l)) := fun X h => hrl.below h
  have HLM := Lib.hid hlm
  have HOK := Lib.hid hok
  clear hK hr hrl hln hlm hok
  go_enter Tryd.func21, Tryd.ntmps21
  go_upto_region 1 with (fail)
  obtain ⟨W0, hW0, hB0, hB1, hB2, hb⟩ := start3 w 24 28 36 [.slice A n c] (slc s) (mdc sl0 0)
  rw [← hW0]
  clear hW0
  refine jp ?_
  refine ja hB0 Tryd.underlying24 (by rfl) info_rg ?_
  refine jm (.slice A' m c') ?_
  refine jc (.int .i64 e9) (fun X hX hF => mo (rlgC A n c r X (HRX.out X (bel_next hb hX)) HLN.out hn1 A' m c' l (HRL.out X (bel_next hb hX)) HLM.out hm1 HOK.out (HKK.out X (bel_next hb hX))) (by rw [HLG.out])) ?_
  refine jm (.int .i64 e9) ?_
  refine jz fun X1 hX1 => ?_
  have hB0 := hB0.bel hX1
  have hB1 := hB1.bel hX1
  have hB2 := hB2.bel hX1
  have hb := bel_next hb hX1
  clear hX1
  go_upto_region 2 with (fail)
  refine jp ?_
  refine jm (.int .i64 e9) ?_
  refine jv (.bool true) (exec_nei _ _ _ _ (by rfl) .i64 e9 0 (by rfl) (by rfl) true (by rw [decide_eq_false HC.out]; rfl)) ?_
  refine jz fun X2 hX2 => ?_
  have hB0 := hB0.bel hX2
  have hB1 := hB1.bel hX2
  have hB2 := hB2.bel hX2
  have hb := bel_next hb hX2
  clear hX2
  go_upto_region 3 with (fail)
  refine jq 2 ?_
  refine jm (.int .i64 e9) ?_
  refine jv (.agg (mdc sl0 e9).toArray) (exec_bm1 _ (by rfl) _ (by rfl)) ?_
  refine jz fun X3 hX3 => ?_
  have hB0 := hB0.bel hX3
  have hB1 := hB1.bel hX3
  have hB2 := hB2.bel hX3
  have hb := bel_next hb hX3
  clear hX3
  refine op_store_blk rfl 36 (.tmp 6) (.tmp 16) rfl (w.heap.size + 2) 36 _ hB2 rfl (mdc sl0 e9) rfl ((mdc_len ok0 _).trans (mdc_len ok0 _).symm) mdc_one (info_mdc ok0 _) ?_
  intro w9 hR9 hO9 hB9 hs9
  have hb9 := hB9 _ _ hb (by omega)
  clear hO9 hB9
  go_wp2
  refine post_cell rfl rfl (by rfl) Tryd.underlying36 rfl hR9 (info_mdc ok0 _) ⟨by rw [HE.out.1, HE.out.2], hb9⟩
theorem rnx2 (A : Option Addr) (n c : Nat) (r : List (List UInt8)) (w : World) (hr : Rd w 1 (.slice A n c) n (r.map tx)) (hln : r.length = n) (hn1 : n ≤ 9223372036854775807) (A' : Option Addr) (m c' : Nat) (l : List Sl) (hrl : Rd w 37 (.slice A' m c') m (fl slc l)) (hlm : l.length = m) (hm1 : m ≤ 9223372036854775807) (hok : ∀ s ∈ l, SlOk s) (s : Sl) (hs : SlOk s) (hK : KK0 w) (h : lgE mk48 nm48 r l = 0) (h2 : m = 4000) : Calls Tryd.prog 21 #[.agg #[.slice A n c], .slice A' m c', .agg (slc s).toArray] w fun e w' => e = .returned (.agg (mdc (nxS mk48 nm48 r l s) (nxE mk48 nm48 r l s)).toArray) ∧ Since w w' := by
  have HLG := Lib.hid h
  clear h
  have HE : Hid (nxE mk48 nm48 r l s = 2 ∧ nxS mk48 nm48 r l s = sl0) := by
    have h9 : nxE mk48 nm48 r l s = 2 := nxE_lim HLG.out (by omega)
    exact ⟨h9, nxS_no (by rw [h9]; decide)⟩
  have HM : Hid (m = 4000) := h2
  clear h2
  have hz := zero16
  have hzs := zeroSl
  have hzm := zeroMd
  have HKK : Hid (∀ X, Since w X → KK0 X) := fun X h => KK0.since hK h
  have HRX : Hid (∀ X, Since w X → Rd X 1 (.slice A n c) n (r.map tx)) := fun X h => hr.below h
  have HLN := Lib.hid hln
  have HRL : Hid (∀ X, Since w X → Rd X 37 (.slice A' m c') m (fl slc l)) := fun X h => hrl.below h
  have HLM := Lib.hid hlm
  have HOK := Lib.hid hok
  clear hK hr hrl hln hlm hok
  go_enter Tryd.func21, Tryd.ntmps21
  go_upto_region 1 with (fail)
  obtain ⟨W0, hW0, hB0, hB1, hB2, hb⟩ := start3 w 24 28 36 [.slice A n c] (slc s) (mdc sl0 0)
  rw [← hW0]
  clear hW0
  refine jp ?_
  refine ja hB0 Tryd.underlying24 (by rfl) info_rg ?_
  refine jm (.slice A' m c') ?_
  refine jc (.int .i64 0) (fun X hX hF => mo (rlgC A n c r X (HRX.out X (bel_next hb hX)) HLN.out hn1 A' m c' l (HRL.out X (bel_next hb hX)) HLM.out hm1 HOK.out (HKK.out X (bel_next hb hX))) (by rw [HLG.out])) ?_
  refine jm (.int .i64 0) ?_
  refine jz fun X1 hX1 => ?_
  have hB0 := hB0.bel hX1
  have hB1 := hB1.bel hX1
  have hB2 := hB2.bel hX1
  have hb := bel_next hb hX1
  clear hX1
  go_upto_region 2 with (fail)
  refine jp ?_
  refine jm (.int .i64 0) ?_
  refine jv (.bool false) (exec_nei _ _ _ _ (by rfl) .i64 0 0 (by rfl) (by rfl) false (by rfl)) ?_
  refine jz fun X2 hX2 => ?_
  have hB0 := hB0.bel hX2
  have hB1 := hB1.bel hX2
  have hB2 := hB2.bel hX2
  have hb := bel_next hb hX2
  clear hX2
  go_upto_region 4 with (fail)
  refine jp ?_
  refine jm (.slice A' m c') ?_
  refine jv (.int .i64 (m : Int)) (exec_lenv Tryd.underlying30 _ (by rfl) A' m c' (by rfl) _ rfl) ?_
  refine jm (.int .i64 (m : Int)) ?_
  refine jz fun X3 hX3 => ?_
  have hB0 := hB0.bel hX3
  have hB1 := hB1.bel hX3
  have hB2 := hB2.bel hX3
  have hb := bel_next hb hX3
  clear hX3
  go_upto_region 5 with (fail)
  refine jp ?_
  refine jm (.int .i64 (m : Int)) ?_
  refine jv (.bool true) (exec_eqi _ _ _ _ (by rfl) .i64 (m : Int) 4000 (by rfl) (by rfl) true (decide_eq_true (by rw [HM.out]; rfl))) ?_
  refine jz fun X4 hX4 => ?_
  have hB0 := hB0.bel hX4
  have hB1 := hB1.bel hX4
  have hB2 := hB2.bel hX4
  have hb := bel_next hb hX4
  clear hX4
  go_upto_region 6 with (fail)
  refine jq 1 ?_
  refine jv (.agg (mdc sl0 2).toArray) (exec_bm1 _ (by rfl) _ (by rfl)) ?_
  refine jz fun X5 hX5 => ?_
  have hB0 := hB0.bel hX5
  have hB1 := hB1.bel hX5
  have hB2 := hB2.bel hX5
  have hb := bel_next hb hX5
  clear hX5
  refine op_store_blk rfl 36 (.tmp 6) (.tmp 21) rfl (w.heap.size + 2) 36 _ hB2 rfl (mdc sl0 2) rfl ((mdc_len ok0 _).trans (mdc_len ok0 _).symm) mdc_one (info_mdc ok0 _) ?_
  intro w9 hR9 hO9 hB9 hs9
  have hb9 := hB9 _ _ hb (by omega)
  clear hO9 hB9
  go_wp2
  refine post_cell rfl rfl (by rfl) Tryd.underlying36 rfl hR9 (info_mdc ok0 _) ⟨by rw [HE.out.1, HE.out.2], hb9⟩
theorem rnx3 (A : Option Addr) (n c : Nat) (r : List (List UInt8)) (w : World) (hr : Rd w 1 (.slice A n c) n (r.map tx)) (hln : r.length = n) (hn1 : n ≤ 9223372036854775807) (A' : Option Addr) (m c' : Nat) (l : List Sl) (hrl : Rd w 37 (.slice A' m c') m (fl slc l)) (hlm : l.length = m) (hm1 : m ≤ 9223372036854775807) (hok : ∀ s ∈ l, SlOk s) (s : Sl) (hs : SlOk s) (hK : KK0 w) (h : lgE mk48 nm48 r l = 0) (h0 : m < 1) : Calls Tryd.prog 21 #[.agg #[.slice A n c], .slice A' m c', .agg (slc s).toArray] w fun e w' => e = .returned (.agg (mdc (nxS mk48 nm48 r l s) (nxE mk48 nm48 r l s)).toArray) ∧ Since w w' := by
  have HLG := Lib.hid h
  clear h
  have HE : Hid (nxE mk48 nm48 r l s = slE r (nxT nm48 l s)) := nxE_sl HLG.out (by omega) (fun h9 => by omega)
  have HT : Hid (s.bare (m : Int) z16b = (nxT nm48 l s).put z16b) := by
    rw [← bare_put hlm]
    unfold bfr
    rw [if_pos (by omega)]
    rfl
  have hz := zero16
  have hzs := zeroSl
  have hzm := zeroMd
  have HKK : Hid (∀ X, Since w X → KK0 X) := fun X h => KK0.since hK h
  have HRX : Hid (∀ X, Since w X → Rd X 1 (.slice A n c) n (r.map tx)) := fun X h => hr.below h
  have HLN := Lib.hid hln
  have HRL : Hid (∀ X, Since w X → Rd X 37 (.slice A' m c') m (fl slc l)) := fun X h => hrl.below h
  have HLM := Lib.hid hlm
  have HOK := Lib.hid hok
  clear hK hr hrl hln hlm hok
  go_enter Tryd.func21, Tryd.ntmps21
  go_upto_region 1 with (fail)
  obtain ⟨W0, hW0, hB0, hB1, hB2, hb⟩ := start3 w 24 28 36 [.slice A n c] (slc s) (mdc sl0 0)
  rw [← hW0]
  clear hW0
  refine jp ?_
  refine ja hB0 Tryd.underlying24 (by rfl) info_rg ?_
  refine jm (.slice A' m c') ?_
  refine jc (.int .i64 0) (fun X hX hF => mo (rlgC A n c r X (HRX.out X (bel_next hb hX)) HLN.out hn1 A' m c' l (HRL.out X (bel_next hb hX)) HLM.out hm1 HOK.out (HKK.out X (bel_next hb hX))) (by rw [HLG.out])) ?_
  refine jm (.int .i64 0) ?_
  refine jz fun X1 hX1 => ?_
  have hB0 := hB0.bel hX1
  have hB1 := hB1.bel hX1
  have hB2 := hB2.bel hX1
  have hb := bel_next hb hX1
  clear hX1
  go_upto_region 2 with (fail)
  refine jp ?_
  refine jm (.int .i64 0) ?_
  refine jv (.bool false) (exec_nei _ _ _ _ (by rfl) .i64 0 0 (by rfl) (by rfl) false (by rfl)) ?_
  refine jz fun X2 hX2 => ?_
  have hB0 := hB0.bel hX2
  have hB1 := hB1.bel hX2
  have hB2 := hB2.bel hX2
  have hb := bel_next hb hX2
  clear hX2
  go_upto_region 4 with (fail)
  refine jp ?_
  refine jm (.slice A' m c') ?_
  refine jv (.int .i64 (m : Int)) (exec_lenv Tryd.underlying30 _ (by rfl) A' m c' (by rfl) _ rfl) ?_
  refine jm (.int .i64 (m : Int)) ?_
  refine jz fun X3 hX3 => ?_
  have hB0 := hB0.bel hX3
  have hB1 := hB1.bel hX3
  have hB2 := hB2.bel hX3
  have hb := bel_next hb hX3
  clear hX3
  go_upto_region 5 with (fail)
  refine jp ?_
  refine jm (.int .i64 (m : Int)) ?_
  refine jv (.bool false) (exec_eqi _ _ _ _ (by rfl) .i64 (m : Int) 4000 (by rfl) (by rfl) false (decide_eq_false (by omega))) ?_
  refine jz fun X4 hX4 => ?_
  have hB0 := hB0.bel hX4
  have hB1 := hB1.bel hX4
  have hB2 := hB2.bel hX4
  have hb := bel_next hb hX4
  clear hX4
  have obz : SlOk (s.bare (m : Int) z16b) := hs.bare (by omega) rfl
  go_upto_region 7 with (fail)
  refine jq 10 ?_
  refine jn (.pointer (some ⟨(w.heap.size + 1), 0, none⟩)) ?_
  refine jf (.int .i64 s.st) hB1 0 load_int ?_
  refine jm (.int .i64 (m : Int)) ?_
  refine jn (.pointer (some ⟨(w.heap.size + 1), 2, none⟩)) ?_
  refine jf (.int .i64 s.dy) hB1 2 load_int ?_
  refine jn (.pointer (some ⟨(w.heap.size + 1), 3, none⟩)) ?_
  refine jf (.int .i64 s.kd) hB1 3 load_int ?_
  refine jn (.pointer (some ⟨(w.heap.size + 1), 4, none⟩)) ?_
  refine jf (st s.bd) hB1 4 load_str ?_
  refine jv (.agg (slc (s.bare (m : Int) z16b)).toArray) (exec_bq5 _ _ _ _ _ (by rfl) s.st (m : Int) s.dy s.kd s.bd (by rfl) (by rfl) (by rfl) (by rfl) (by rfl)) ?_
  refine jz fun X5 hX5 => ?_
  have hB0 := hB0.bel hX5
  have hB1 := hB1.bel hX5
  have hB2 := hB2.bel hX5
  have hb := bel_next hb hX5
  clear hX5
  go_upto_region 8 with (refine op_store_new _ _ _ rfl 28 (.tmp 9) (.tmp 31) (by rfl) (by rfl) (slc (s.bare (m : Int) z16b)).toArray (by rfl) (by show (slc (s.bare (m : Int) z16b)).toArray.size = (slc sl0).toArray.size; simp [SlOk.len obz, SlOk.len ok0]) (fun v hv => slc_one v (by simpa using hv)) (by rw [show (slc (s.bare (m : Int) z16b)).toArray.size = (slc (s.bare (m : Int) z16b)).length from by simp]; exact info_slc obz) ?_)
  obtain ⟨Y5, hY9, hD9, hS9⟩ := start1 X5 28 (slc (s.bare (m : Int) z16b))
  rw [← hY9]
  clear hY9
  have hgs9 := hb.size
  have hlt9x0 := hB0.lt
  have hlt9x1 := hB1.lt
  have hlt9x2 := hB2.lt
  have hB0 := hB0.bel hS9
  have hB1 := hB1.bel hS9
  have hB2 := hB2.bel hS9
  have hb := bel_next hb hS9
  clear hS9
  generalize X5.heap.size = g9 at *
  refine jp ?_
  refine jm (.int .i64 (m : Int)) ?_
  refine jv (.bool false) (exec_gtr _ _ _ _ (by rfl) .i64 (m : Int) 0 (by rfl) (by rfl) false (decide_eq_false (by omega))) ?_
  refine jz fun X6 hX6 => ?_
  have hB0 := hB0.bel hX6
  have hB1 := hB1.bel hX6
  have hB2 := hB2.bel hX6
  have hD9 := hD9.bel hX6
  have hb := bel_next hb hX6
  clear hX6
  have hx := slS_ok (r := r) (s := (s.bare (m : Int) z16b)) obz
  obtain ⟨x, hx9⟩ : ∃ x, x = slS mk48 r (s.bare (m : Int) z16b) := ⟨_, rfl⟩
  obtain ⟨e9, he9⟩ : ∃ e9, e9 = slE r (s.bare (m : Int) z16b) := ⟨_, rfl⟩
  rw [← hx9] at hx
  have HXE : Hid (slS mk48 r (s.bare (m : Int) z16b) = x ∧ slE r (s.bare (m : Int) z16b) = e9) := ⟨hx9.symm, he9.symm⟩
  clear hx9 he9
  go_upto_region 14 with (fail)
  refine jq 3 ?_
  refine ja hB0 Tryd.underlying24 (by rfl) info_rg ?_
  refine jg (.agg (slc (s.bare (m : Int) z16b)).toArray) (fun X hX hF => exec_lda 28 _ (by rfl) g9 (by rfl) Tryd.underlying28 rfl X (hD9.bel hX) (info_slc obz)) ?_
  refine jc (.agg (mdc x e9).toArray) (fun X hX hF => mo (rslC A n c r X (HRX.out X (bel_next hb hX)) HLN.out hn1 (s.bare (m : Int) z16b) obz (HKK.out X (bel_next hb hX))) (by rw [HXE.out.1, HXE.out.2])) ?_
  refine jz fun X7 hX7 => ?_
  have hB0 := hB0.bel hX7
  have hB1 := hB1.bel hX7
  have hB2 := hB2.bel hX7
  have hD9 := hD9.bel hX7
  have hb := bel_next hb hX7
  clear hX7
  have HFIN : Hid (nxE mk48 nm48 r l s = e9 ∧ nxS mk48 nm48 r l s = x) := by
    rw [← HXE.out.1, ← HXE.out.2, HT.out, slE_put, slS_put]
    exact ⟨HE.out, nxS_sl HE.out⟩
  refine op_store_blk rfl 36 (.tmp 6) (.tmp 63) rfl (w.heap.size + 2) 36 _ hB2 rfl (mdc x e9) rfl ((mdc_len hx _).trans (mdc_len ok0 _).symm) mdc_one (info_mdc hx _) ?_
  intro w9 hR9 hO9 hB9 hs9
  have hb9 := hB9 _ _ hb (by omega)
  clear hO9 hB9
  go_wp2
  refine post_cell rfl rfl (by rfl) Tryd.underlying36 rfl hR9 (info_mdc hx _) ⟨by rw [HFIN.out.1, HFIN.out.2], hb9⟩
theorem rnx4 (A : Option Addr) (n c : Nat) (r : List (List UInt8)) (w : World) (hr : Rd w 1 (.slice A n c) n (r.map tx)) (hln : r.length = n) (hn1 : n ≤ 9223372036854775807) (A' : Option Addr) (m c' : Nat) (l : List Sl) (hrl : Rd w 37 (.slice A' m c') m (fl slc l)) (hlm : l.length = m) (hm1 : m ≤ 9223372036854775807) (hok : ∀ s ∈ l, SlOk s) (s : Sl) (hs : SlOk s) (hK : KK0 w) (h : lgE mk48 nm48 r l = 0) (h2 : ¬ m = 4000) (h0 : 0 < m) (hh : s.st ≠ (sAt l (m - 1)).st) : Calls Tryd.prog 21 #[.agg #[.slice A n c], .slice A' m c', .agg (slc s).toArray] w fun e w' => e = .returned (.agg (mdc (nxS mk48 nm48 r l s) (nxE mk48 nm48 r l s)).toArray) ∧ Since w w' := by
  have HLG := Lib.hid h
  clear h
  obtain ⟨b, off, rfl, hbb, hall⟩ := hrl.sls hok hlm h0
  have hcx := hall (m - 1) (by omega)
  clear hall
  have ox := ok_at hok (k := m - 1) (by omega)
  have hbd := lg_bd HLG.out (k := m - 1) (by omega)
  obtain ⟨y, hy9⟩ : ∃ y, y = sAt l (m - 1) := ⟨_, rfl⟩
  rw [← hy9] at hcx ox hbd
  have HY : Hid (y = sAt l (l.length - 1)) := by rw [hlm]; exact hy9
  rw [← hy9] at hh
  clear hy9
  have HE : Hid (nxE mk48 nm48 r l s = 1 ∧ nxS mk48 nm48 r l s = sl0) := by
    have h9 : nxE mk48 nm48 r l s = 1 := nxE_st HLG.out (by omega) (by omega) (by rw [← HY.out]; exact hh)
    exact ⟨h9, nxS_no (by rw [h9]; decide)⟩
  have hz := zero16
  have hzs := zeroSl
  have hzm := zeroMd
  have HKK : Hid (∀ X, Since w X → KK0 X) := fun X h => KK0.since hK h
  have HRX : Hid (∀ X, Since w X → Rd X 1 (.slice A n c) n (r.map tx)) := fun X h => hr.below h
  have HLN := Lib.hid hln
  have HRL : Hid (∀ X, Since w X → Rd X 37 (.slice (some ⟨b, off, none⟩) m c') m (fl slc l)) := fun X h => hrl.below h
  have HLM := Lib.hid hlm
  have HOK := Lib.hid hok
  clear hK hr hrl hln hlm hok
  go_enter Tryd.func21, Tryd.ntmps21
  go_upto_region 1 with (fail)
  obtain ⟨W0, hW0, hB0, hB1, hB2, hb⟩ := start3 w 24 28 36 [.slice A n c] (slc s) (mdc sl0 0)
  rw [← hW0]
  clear hW0
  have hcx := hcx.below hb hbb
  replace hbb := Nat.lt_of_lt_of_le hbb (hb).size
  refine jp ?_
  refine ja hB0 Tryd.underlying24 (by rfl) info_rg ?_
  refine jm (.slice (some ⟨b, off, none⟩) m c') ?_
  refine jc (.int .i64 0) (fun X hX hF => mo (rlgC A n c r X (HRX.out X (bel_next hb hX)) HLN.out hn1 (some ⟨b, off, none⟩) m c' l (HRL.out X (bel_next hb hX)) HLM.out hm1 HOK.out (HKK.out X (bel_next hb hX))) (by rw [HLG.out])) ?_
  refine jm (.int .i64 0) ?_
  refine jz fun X1 hX1 => ?_
  have hB0 := hB0.bel hX1
  have hB1 := hB1.bel hX1
  have hB2 := hB2.bel hX1
  have hcx := hcx.below hX1 hbb
  replace hbb := Nat.lt_of_lt_of_le hbb (hX1).size
  have hb := bel_next hb hX1
  clear hX1
  go_upto_region 2 with (fail)
  refine jp ?_
  refine jm (.int .i64 0) ?_
  refine jv (.bool false) (exec_nei _ _ _ _ (by rfl) .i64 0 0 (by rfl) (by rfl) false (by rfl)) ?_
  refine jz fun X2 hX2 => ?_
  have hB0 := hB0.bel hX2
  have hB1 := hB1.bel hX2
  have hB2 := hB2.bel hX2
  have hcx := hcx.below hX2 hbb
  replace hbb := Nat.lt_of_lt_of_le hbb (hX2).size
  have hb := bel_next hb hX2
  clear hX2
  go_upto_region 4 with (fail)
  refine jp ?_
  refine jm (.slice (some ⟨b, off, none⟩) m c') ?_
  refine jv (.int .i64 (m : Int)) (exec_lenv Tryd.underlying30 _ (by rfl) (some ⟨b, off, none⟩) m c' (by rfl) _ rfl) ?_
  refine jm (.int .i64 (m : Int)) ?_
  refine jz fun X3 hX3 => ?_
  have hB0 := hB0.bel hX3
  have hB1 := hB1.bel hX3
  have hB2 := hB2.bel hX3
  have hcx := hcx.below hX3 hbb
  replace hbb := Nat.lt_of_lt_of_le hbb (hX3).size
  have hb := bel_next hb hX3
  clear hX3
  go_upto_region 5 with (fail)
  refine jp ?_
  refine jm (.int .i64 (m : Int)) ?_
  refine jv (.bool false) (exec_eqi _ _ _ _ (by rfl) .i64 (m : Int) 4000 (by rfl) (by rfl) false (decide_eq_false (by omega))) ?_
  refine jz fun X4 hX4 => ?_
  have hB0 := hB0.bel hX4
  have hB1 := hB1.bel hX4
  have hB2 := hB2.bel hX4
  have hcx := hcx.below hX4 hbb
  replace hbb := Nat.lt_of_lt_of_le hbb (hX4).size
  have hb := bel_next hb hX4
  clear hX4
  have obz : SlOk (s.bare (m : Int) z16b) := hs.bare (by omega) rfl
  go_upto_region 7 with (fail)
  refine jq 10 ?_
  refine jn (.pointer (some ⟨(w.heap.size + 1), 0, none⟩)) ?_
  refine jf (.int .i64 s.st) hB1 0 load_int ?_
  refine jm (.int .i64 (m : Int)) ?_
  refine jn (.pointer (some ⟨(w.heap.size + 1), 2, none⟩)) ?_
  refine jf (.int .i64 s.dy) hB1 2 load_int ?_
  refine jn (.pointer (some ⟨(w.heap.size + 1), 3, none⟩)) ?_
  refine jf (.int .i64 s.kd) hB1 3 load_int ?_
  refine jn (.pointer (some ⟨(w.heap.size + 1), 4, none⟩)) ?_
  refine jf (st s.bd) hB1 4 load_str ?_
  refine jv (.agg (slc (s.bare (m : Int) z16b)).toArray) (exec_bq5 _ _ _ _ _ (by rfl) s.st (m : Int) s.dy s.kd s.bd (by rfl) (by rfl) (by rfl) (by rfl) (by rfl)) ?_
  refine jz fun X5 hX5 => ?_
  have hB0 := hB0.bel hX5
  have hB1 := hB1.bel hX5
  have hB2 := hB2.bel hX5
  have hcx := hcx.below hX5 hbb
  replace hbb := Nat.lt_of_lt_of_le hbb (hX5).size
  have hb := bel_next hb hX5
  clear hX5
  go_upto_region 8 with (refine op_store_new _ _ _ rfl 28 (.tmp 9) (.tmp 31) (by rfl) (by rfl) (slc (s.bare (m : Int) z16b)).toArray (by rfl) (by show (slc (s.bare (m : Int) z16b)).toArray.size = (slc sl0).toArray.size; simp [SlOk.len obz, SlOk.len ok0]) (fun v hv => slc_one v (by simpa using hv)) (by rw [show (slc (s.bare (m : Int) z16b)).toArray.size = (slc (s.bare (m : Int) z16b)).length from by simp]; exact info_slc obz) ?_)
  obtain ⟨Y5, hY9, hD9, hS9⟩ := start1 X5 28 (slc (s.bare (m : Int) z16b))
  rw [← hY9]
  clear hY9
  have hgs9 := hb.size
  have hlt9x0 := hB0.lt
  have hlt9x1 := hB1.lt
  have hlt9x2 := hB2.lt
  have hcx := hcx.below hS9 hbb
  replace hbb := Nat.lt_of_lt_of_le hbb (hS9).size
  have hB0 := hB0.bel hS9
  have hB1 := hB1.bel hS9
  have hB2 := hB2.bel hS9
  have hb := bel_next hb hS9
  clear hS9
  generalize X5.heap.size = g9 at *
  refine jp ?_
  refine jm (.int .i64 (m : Int)) ?_
  refine jv (.bool true) (exec_gtr _ _ _ _ (by rfl) .i64 (m : Int) 0 (by rfl) (by rfl) true (decide_eq_true (by omega))) ?_
  refine jz fun X6 hX6 => ?_
  have hB0 := hB0.bel hX6
  have hB1 := hB1.bel hX6
  have hB2 := hB2.bel hX6
  have hD9 := hD9.bel hX6
  have hcx := hcx.below hX6 hbb
  replace hbb := Nat.lt_of_lt_of_le hbb (hX6).size
  have hb := bel_next hb hX6
  clear hX6
  have HS : Hid (s.st ≠ y.st) := hh
  clear hh
  go_upto_region 9 with (fail)
  refine jd ?_
  refine jn (.pointer (some ⟨(w.heap.size + 1), 0, none⟩)) ?_
  refine jf (.int .i64 s.st) hB1 0 load_int ?_
  refine jm (.slice (some ⟨b, off, none⟩) m c') ?_
  refine jm (.int .i64 (m : Int)) ?_
  refine jv (.int .i64 ((m : Int) - 1)) (exec_sub _ _ _ _ (by rfl) (m : Int) 1 ((m : Int) - 1) (by rfl) (by rfl) (by omega) (by omega) (by omega)) ?_
  refine jv (.pointer (some ⟨b, off + (m - 1) * 37, none⟩)) (exec_ixv Tryd.underlying30 info_sl _ _ (by rfl) b (off) m c' (m - 1) (by omega) (by rfl) (by rfl) (by omega)) ?_
  refine jn (.pointer (some ⟨b, off + (m - 1) * 37, none⟩)) ?_
  refine jg (.int .i64 y.st) (fun X hX hF => exec_ld 3 _ (by rfl) b (off + (m - 1) * 37) (by rfl) _ X ((hcx.below hX hbb) 0 _ rfl) (fun X u h => load_int b (off + (m - 1) * 37) X u h)) ?_
  refine jv (.bool true) (exec_nei _ _ _ _ (by rfl) .i64 s.st y.st (by rfl) (by rfl) true (by rw [decide_eq_false HS.out]; rfl)) ?_
  refine jz fun X7 hX7 => ?_
  have hB0 := hB0.bel hX7
  have hB1 := hB1.bel hX7
  have hB2 := hB2.bel hX7
  have hD9 := hD9.bel hX7
  have hcx := hcx.below hX7 hbb
  replace hbb := Nat.lt_of_lt_of_le hbb (hX7).size
  have hb := bel_next hb hX7
  clear hX7
  go_upto_region 10 with (fail)
  refine jq 1 ?_
  refine jv (.agg (mdc sl0 1).toArray) (exec_bm1 _ (by rfl) _ (by rfl)) ?_
  refine jz fun X8 hX8 => ?_
  have hB0 := hB0.bel hX8
  have hB1 := hB1.bel hX8
  have hB2 := hB2.bel hX8
  have hD9 := hD9.bel hX8
  have hb := bel_next hb hX8
  clear hX8
  refine op_store_blk rfl 36 (.tmp 6) (.tmp 43) rfl (w.heap.size + 2) 36 _ hB2 rfl (mdc sl0 1) rfl ((mdc_len ok0 _).trans (mdc_len ok0 _).symm) mdc_one (info_mdc ok0 _) ?_
  intro w9 hR9 hO9 hB9 hs9
  have hb9 := hB9 _ _ hb (by omega)
  clear hO9 hB9
  go_wp2
  refine post_cell rfl rfl (by rfl) Tryd.underlying36 rfl hR9 (info_mdc ok0 _) ⟨by rw [HE.out.1, HE.out.2], hb9⟩
theorem rnx5 (A : Option Addr) (n c : Nat) (r : List (List UInt8)) (w : World) (hr : Rd w 1 (.slice A n c) n (r.map tx)) (hln : r.length = n) (hn1 : n ≤ 9223372036854775807) (A' : Option Addr) (m c' : Nat) (l : List Sl) (hrl : Rd w 37 (.slice A' m c') m (fl slc l)) (hlm : l.length = m) (hm1 : m ≤ 9223372036854775807) (hok : ∀ s ∈ l, SlOk s) (s : Sl) (hs : SlOk s) (hK : KK0 w) (h : lgE mk48 nm48 r l = 0) (h2 : ¬ m = 4000) (h0 : 0 < m) (hh : s.st = (sAt l (m - 1)).st ∧ s.dy < (sAt l (m - 1)).dy) : Calls Tryd.prog 21 #[.agg #[.slice A n c], .slice A' m c', .agg (slc s).toArray] w fun e w' => e = .returned (.agg (mdc (nxS mk48 nm48 r l s) (nxE mk48 nm48 r l s)).toArray) ∧ Since w w' := by
  have HLG := Lib.hid h
  clear h
  obtain ⟨b, off, rfl, hbb, hall⟩ := hrl.sls hok hlm h0
  have hcx := hall (m - 1) (by omega)
  clear hall
  have ox := ok_at hok (k := m - 1) (by omega)
  have hbd := lg_bd HLG.out (k := m - 1) (by omega)
  obtain ⟨y, hy9⟩ : ∃ y, y = sAt l (m - 1) := ⟨_, rfl⟩
  rw [← hy9] at hcx ox hbd
  have HY : Hid (y = sAt l (l.length - 1)) := by rw [hlm]; exact hy9
  rw [← hy9] at hh
  clear hy9
  have HE : Hid (nxE mk48 nm48 r l s = 4 ∧ nxS mk48 nm48 r l s = sl0) := by
    have h9 : nxE mk48 nm48 r l s = 4 := nxE_dy HLG.out (by omega) (by omega) (by rw [← HY.out]; exact hh.1) (by rw [← HY.out]; exact hh.2)
    exact ⟨h9, nxS_no (by rw [h9]; decide)⟩
  have hz := zero16
  have hzs := zeroSl
  have hzm := zeroMd
  have HKK : Hid (∀ X, Since w X → KK0 X) := fun X h => KK0.since hK h
  have HRX : Hid (∀ X, Since w X → Rd X 1 (.slice A n c) n (r.map tx)) := fun X h => hr.below h
  have HLN := Lib.hid hln
  have HRL : Hid (∀ X, Since w X → Rd X 37 (.slice (some ⟨b, off, none⟩) m c') m (fl slc l)) := fun X h => hrl.below h
  have HLM := Lib.hid hlm
  have HOK := Lib.hid hok
  clear hK hr hrl hln hlm hok
  go_enter Tryd.func21, Tryd.ntmps21
  go_upto_region 1 with (fail)
  obtain ⟨W0, hW0, hB0, hB1, hB2, hb⟩ := start3 w 24 28 36 [.slice A n c] (slc s) (mdc sl0 0)
  rw [← hW0]
  clear hW0
  have hcx := hcx.below hb hbb
  replace hbb := Nat.lt_of_lt_of_le hbb (hb).size
  refine jp ?_
  refine ja hB0 Tryd.underlying24 (by rfl) info_rg ?_
  refine jm (.slice (some ⟨b, off, none⟩) m c') ?_
  refine jc (.int .i64 0) (fun X hX hF => mo (rlgC A n c r X (HRX.out X (bel_next hb hX)) HLN.out hn1 (some ⟨b, off, none⟩) m c' l (HRL.out X (bel_next hb hX)) HLM.out hm1 HOK.out (HKK.out X (bel_next hb hX))) (by rw [HLG.out])) ?_
  refine jm (.int .i64 0) ?_
  refine jz fun X1 hX1 => ?_
  have hB0 := hB0.bel hX1
  have hB1 := hB1.bel hX1
  have hB2 := hB2.bel hX1
  have hcx := hcx.below hX1 hbb
  replace hbb := Nat.lt_of_lt_of_le hbb (hX1).size
  have hb := bel_next hb hX1
  clear hX1
  go_upto_region 2 with (fail)
  refine jp ?_
  refine jm (.int .i64 0) ?_
  refine jv (.bool false) (exec_nei _ _ _ _ (by rfl) .i64 0 0 (by rfl) (by rfl) false (by rfl)) ?_
  refine jz fun X2 hX2 => ?_
  have hB0 := hB0.bel hX2
  have hB1 := hB1.bel hX2
  have hB2 := hB2.bel hX2
  have hcx := hcx.below hX2 hbb
  replace hbb := Nat.lt_of_lt_of_le hbb (hX2).size
  have hb := bel_next hb hX2
  clear hX2
  go_upto_region 4 with (fail)
  refine jp ?_
  refine jm (.slice (some ⟨b, off, none⟩) m c') ?_
  refine jv (.int .i64 (m : Int)) (exec_lenv Tryd.underlying30 _ (by rfl) (some ⟨b, off, none⟩) m c' (by rfl) _ rfl) ?_
  refine jm (.int .i64 (m : Int)) ?_
  refine jz fun X3 hX3 => ?_
  have hB0 := hB0.bel hX3
  have hB1 := hB1.bel hX3
  have hB2 := hB2.bel hX3
  have hcx := hcx.below hX3 hbb
  replace hbb := Nat.lt_of_lt_of_le hbb (hX3).size
  have hb := bel_next hb hX3
  clear hX3
  go_upto_region 5 with (fail)
  refine jp ?_
  refine jm (.int .i64 (m : Int)) ?_
  refine jv (.bool false) (exec_eqi _ _ _ _ (by rfl) .i64 (m : Int) 4000 (by rfl) (by rfl) false (decide_eq_false (by omega))) ?_
  refine jz fun X4 hX4 => ?_
  have hB0 := hB0.bel hX4
  have hB1 := hB1.bel hX4
  have hB2 := hB2.bel hX4
  have hcx := hcx.below hX4 hbb
  replace hbb := Nat.lt_of_lt_of_le hbb (hX4).size
  have hb := bel_next hb hX4
  clear hX4
  have obz : SlOk (s.bare (m : Int) z16b) := hs.bare (by omega) rfl
  go_upto_region 7 with (fail)
  refine jq 10 ?_
  refine jn (.pointer (some ⟨(w.heap.size + 1), 0, none⟩)) ?_
  refine jf (.int .i64 s.st) hB1 0 load_int ?_
  refine jm (.int .i64 (m : Int)) ?_
  refine jn (.pointer (some ⟨(w.heap.size + 1), 2, none⟩)) ?_
  refine jf (.int .i64 s.dy) hB1 2 load_int ?_
  refine jn (.pointer (some ⟨(w.heap.size + 1), 3, none⟩)) ?_
  refine jf (.int .i64 s.kd) hB1 3 load_int ?_
  refine jn (.pointer (some ⟨(w.heap.size + 1), 4, none⟩)) ?_
  refine jf (st s.bd) hB1 4 load_str ?_
  refine jv (.agg (slc (s.bare (m : Int) z16b)).toArray) (exec_bq5 _ _ _ _ _ (by rfl) s.st (m : Int) s.dy s.kd s.bd (by rfl) (by rfl) (by rfl) (by rfl) (by rfl)) ?_
  refine jz fun X5 hX5 => ?_
  have hB0 := hB0.bel hX5
  have hB1 := hB1.bel hX5
  have hB2 := hB2.bel hX5
  have hcx := hcx.below hX5 hbb
  replace hbb := Nat.lt_of_lt_of_le hbb (hX5).size
  have hb := bel_next hb hX5
  clear hX5
  go_upto_region 8 with (refine op_store_new _ _ _ rfl 28 (.tmp 9) (.tmp 31) (by rfl) (by rfl) (slc (s.bare (m : Int) z16b)).toArray (by rfl) (by show (slc (s.bare (m : Int) z16b)).toArray.size = (slc sl0).toArray.size; simp [SlOk.len obz, SlOk.len ok0]) (fun v hv => slc_one v (by simpa using hv)) (by rw [show (slc (s.bare (m : Int) z16b)).toArray.size = (slc (s.bare (m : Int) z16b)).length from by simp]; exact info_slc obz) ?_)
  obtain ⟨Y5, hY9, hD9, hS9⟩ := start1 X5 28 (slc (s.bare (m : Int) z16b))
  rw [← hY9]
  clear hY9
  have hgs9 := hb.size
  have hlt9x0 := hB0.lt
  have hlt9x1 := hB1.lt
  have hlt9x2 := hB2.lt
  have hcx := hcx.below hS9 hbb
  replace hbb := Nat.lt_of_lt_of_le hbb (hS9).size
  have hB0 := hB0.bel hS9
  have hB1 := hB1.bel hS9
  have hB2 := hB2.bel hS9
  have hb := bel_next hb hS9
  clear hS9
  generalize X5.heap.size = g9 at *
  refine jp ?_
  refine jm (.int .i64 (m : Int)) ?_
  refine jv (.bool true) (exec_gtr _ _ _ _ (by rfl) .i64 (m : Int) 0 (by rfl) (by rfl) true (decide_eq_true (by omega))) ?_
  refine jz fun X6 hX6 => ?_
  have hB0 := hB0.bel hX6
  have hB1 := hB1.bel hX6
  have hB2 := hB2.bel hX6
  have hD9 := hD9.bel hX6
  have hcx := hcx.below hX6 hbb
  replace hbb := Nat.lt_of_lt_of_le hbb (hX6).size
  have hb := bel_next hb hX6
  clear hX6
  obtain ⟨hh1, hh2⟩ := hh
  have HS := Lib.hid hh1
  clear hh1
  go_upto_region 9 with (fail)
  refine jd ?_
  refine jn (.pointer (some ⟨(w.heap.size + 1), 0, none⟩)) ?_
  refine jf (.int .i64 s.st) hB1 0 load_int ?_
  refine jm (.slice (some ⟨b, off, none⟩) m c') ?_
  refine jm (.int .i64 (m : Int)) ?_
  refine jv (.int .i64 ((m : Int) - 1)) (exec_sub _ _ _ _ (by rfl) (m : Int) 1 ((m : Int) - 1) (by rfl) (by rfl) (by omega) (by omega) (by omega)) ?_
  refine jv (.pointer (some ⟨b, off + (m - 1) * 37, none⟩)) (exec_ixv Tryd.underlying30 info_sl _ _ (by rfl) b (off) m c' (m - 1) (by omega) (by rfl) (by rfl) (by omega)) ?_
  refine jn (.pointer (some ⟨b, off + (m - 1) * 37, none⟩)) ?_
  refine jg (.int .i64 y.st) (fun X hX hF => exec_ld 3 _ (by rfl) b (off + (m - 1) * 37) (by rfl) _ X ((hcx.below hX hbb) 0 _ rfl) (fun X u h => load_int b (off + (m - 1) * 37) X u h)) ?_
  refine jv (.bool false) (exec_nei _ _ _ _ (by rfl) .i64 s.st y.st (by rfl) (by rfl) false (by rw [decide_eq_true HS.out]; rfl)) ?_
  refine jz fun X7 hX7 => ?_
  have hB0 := hB0.bel hX7
  have hB1 := hB1.bel hX7
  have hB2 := hB2.bel hX7
  have hD9 := hD9.bel hX7
  have hcx := hcx.below hX7 hbb
  replace hbb := Nat.lt_of_lt_of_le hbb (hX7).size
  have hb := bel_next hb hX7
  clear hX7
  go_upto_region 11 with (fail)
  refine jd ?_
  refine jn (.pointer (some ⟨(w.heap.size + 1), 2, none⟩)) ?_
  refine jf (.int .i64 s.dy) hB1 2 load_int ?_
  refine jm (.slice (some ⟨b, off, none⟩) m c') ?_
  refine jm (.int .i64 (m : Int)) ?_
  refine jv (.int .i64 ((m : Int) - 1)) (exec_sub _ _ _ _ (by rfl) (m : Int) 1 ((m : Int) - 1) (by rfl) (by rfl) (by omega) (by omega) (by omega)) ?_
  refine jv (.pointer (some ⟨b, off + (m - 1) * 37, none⟩)) (exec_ixv Tryd.underlying30 info_sl _ _ (by rfl) b (off) m c' (m - 1) (by omega) (by rfl) (by rfl) (by omega)) ?_
  refine jn (.pointer (some ⟨b, off + (m - 1) * 37 + 2, none⟩)) ?_
  refine jg (.int .i64 y.dy) (fun X hX hF => exec_ld 3 _ (by rfl) b (off + (m - 1) * 37 + 2) (by rfl) _ X ((hcx.below hX hbb) 2 _ rfl) (fun X u h => load_int b (off + (m - 1) * 37 + 2) X u h)) ?_
  refine jv (.bool true) (exec_lss _ _ _ _ (by rfl) .i64 s.dy y.dy (by rfl) (by rfl) true (decide_eq_true hh2)) ?_
  refine jz fun X8 hX8 => ?_
  have hB0 := hB0.bel hX8
  have hB1 := hB1.bel hX8
  have hB2 := hB2.bel hX8
  have hD9 := hD9.bel hX8
  have hcx := hcx.below hX8 hbb
  replace hbb := Nat.lt_of_lt_of_le hbb (hX8).size
  have hb := bel_next hb hX8
  clear hX8
  go_upto_region 12 with (fail)
  refine jq 1 ?_
  refine jv (.agg (mdc sl0 4).toArray) (exec_bm1 _ (by rfl) _ (by rfl)) ?_
  refine jz fun X9 hX9 => ?_
  have hB0 := hB0.bel hX9
  have hB1 := hB1.bel hX9
  have hB2 := hB2.bel hX9
  have hD9 := hD9.bel hX9
  have hb := bel_next hb hX9
  clear hX9
  refine op_store_blk rfl 36 (.tmp 6) (.tmp 53) rfl (w.heap.size + 2) 36 _ hB2 rfl (mdc sl0 4) rfl ((mdc_len ok0 _).trans (mdc_len ok0 _).symm) mdc_one (info_mdc ok0 _) ?_
  intro w9 hR9 hO9 hB9 hs9
  have hb9 := hB9 _ _ hb (by omega)
  clear hO9 hB9
  go_wp2
  refine post_cell rfl rfl (by rfl) Tryd.underlying36 rfl hR9 (info_mdc ok0 _) ⟨by rw [HE.out.1, HE.out.2], hb9⟩
theorem rnx6 (A : Option Addr) (n c : Nat) (r : List (List UInt8)) (w : World) (hr : Rd w 1 (.slice A n c) n (r.map tx)) (hln : r.length = n) (hn1 : n ≤ 9223372036854775807) (A' : Option Addr) (m c' : Nat) (l : List Sl) (hrl : Rd w 37 (.slice A' m c') m (fl slc l)) (hlm : l.length = m) (hm1 : m ≤ 9223372036854775807) (hok : ∀ s ∈ l, SlOk s) (s : Sl) (hs : SlOk s) (hK : KK0 w) (h : lgE mk48 nm48 r l = 0) (h2 : ¬ m = 4000) (h0 : 0 < m) (hh : s.st = (sAt l (m - 1)).st ∧ (sAt l (m - 1)).dy ≤ s.dy) : Calls Tryd.prog 21 #[.agg #[.slice A n c], .slice A' m c', .agg (slc s).toArray] w fun e w' => e = .returned (.agg (mdc (nxS mk48 nm48 r l s) (nxE mk48 nm48 r l s)).toArray) ∧ Since w w' := by
  have HLG := Lib.hid h
  clear h
  obtain ⟨b, off, rfl, hbb, hall⟩ := hrl.sls hok hlm h0
  have hcx := hall (m - 1) (by omega)
  clear hall
  have ox := ok_at hok (k := m - 1) (by omega)
  have hbd := lg_bd HLG.out (k := m - 1) (by omega)
  obtain ⟨y, hy9⟩ : ∃ y, y = sAt l (m - 1) := ⟨_, rfl⟩
  rw [← hy9] at hcx ox hbd
  have HY : Hid (y = sAt l (l.length - 1)) := by rw [hlm]; exact hy9
  rw [← hy9] at hh
  clear hy9
  have HE : Hid (nxE mk48 nm48 r l s = slE r (nxT nm48 l s)) := nxE_sl HLG.out (by omega) (fun _ => by rw [← HY.out]; exact hh)
  have hz := zero16
  have hzs := zeroSl
  have hzm := zeroMd
  have HKK : Hid (∀ X, Since w X → KK0 X) := fun X h => KK0.since hK h
  have HRX : Hid (∀ X, Since w X → Rd X 1 (.slice A n c) n (r.map tx)) := fun X h => hr.below h
  have HLN := Lib.hid hln
  have HRL : Hid (∀ X, Since w X → Rd X 37 (.slice (some ⟨b, off, none⟩) m c') m (fl slc l)) := fun X h => hrl.below h
  have HLM := Lib.hid hlm
  have HOK := Lib.hid hok
  clear hK hr hrl hln hlm hok
  go_enter Tryd.func21, Tryd.ntmps21
  go_upto_region 1 with (fail)
  obtain ⟨W0, hW0, hB0, hB1, hB2, hb⟩ := start3 w 24 28 36 [.slice A n c] (slc s) (mdc sl0 0)
  rw [← hW0]
  clear hW0
  have hcx := hcx.below hb hbb
  replace hbb := Nat.lt_of_lt_of_le hbb (hb).size
  refine jp ?_
  refine ja hB0 Tryd.underlying24 (by rfl) info_rg ?_
  refine jm (.slice (some ⟨b, off, none⟩) m c') ?_
  refine jc (.int .i64 0) (fun X hX hF => mo (rlgC A n c r X (HRX.out X (bel_next hb hX)) HLN.out hn1 (some ⟨b, off, none⟩) m c' l (HRL.out X (bel_next hb hX)) HLM.out hm1 HOK.out (HKK.out X (bel_next hb hX))) (by rw [HLG.out])) ?_
  refine jm (.int .i64 0) ?_
  refine jz fun X1 hX1 => ?_
  have hB0 := hB0.bel hX1
  have hB1 := hB1.bel hX1
  have hB2 := hB2.bel hX1
  have hcx := hcx.below hX1 hbb
  replace hbb := Nat.lt_of_lt_of_le hbb (hX1).size
  have hb := bel_next hb hX1
  clear hX1
  go_upto_region 2 with (fail)
  refine jp ?_
  refine jm (.int .i64 0) ?_
  refine jv (.bool false) (exec_nei _ _ _ _ (by rfl) .i64 0 0 (by rfl) (by rfl) false (by rfl)) ?_
  refine jz fun X2 hX2 => ?_
  have hB0 := hB0.bel hX2
  have hB1 := hB1.bel hX2
  have hB2 := hB2.bel hX2
  have hcx := hcx.below hX2 hbb
  replace hbb := Nat.lt_of_lt_of_le hbb (hX2).size
  have hb := bel_next hb hX2
  clear hX2
  go_upto_region 4 with (fail)
  refine jp ?_
  refine jm (.slice (some ⟨b, off, none⟩) m c') ?_
  refine jv (.int .i64 (m : Int)) (exec_lenv Tryd.underlying30 _ (by rfl) (some ⟨b, off, none⟩) m c' (by rfl) _ rfl) ?_
  refine jm (.int .i64 (m : Int)) ?_
  refine jz fun X3 hX3 => ?_
  have hB0 := hB0.bel hX3
  have hB1 := hB1.bel hX3
  have hB2 := hB2.bel hX3
  have hcx := hcx.below hX3 hbb
  replace hbb := Nat.lt_of_lt_of_le hbb (hX3).size
  have hb := bel_next hb hX3
  clear hX3
  go_upto_region 5 with (fail)
  refine jp ?_
  refine jm (.int .i64 (m : Int)) ?_
  refine jv (.bool false) (exec_eqi _ _ _ _ (by rfl) .i64 (m : Int) 4000 (by rfl) (by rfl) false (decide_eq_false (by omega))) ?_
  refine jz fun X4 hX4 => ?_
  have hB0 := hB0.bel hX4
  have hB1 := hB1.bel hX4
  have hB2 := hB2.bel hX4
  have hcx := hcx.below hX4 hbb
  replace hbb := Nat.lt_of_lt_of_le hbb (hX4).size
  have hb := bel_next hb hX4
  clear hX4
  have obz : SlOk (s.bare (m : Int) z16b) := hs.bare (by omega) rfl
  go_upto_region 7 with (fail)
  refine jq 10 ?_
  refine jn (.pointer (some ⟨(w.heap.size + 1), 0, none⟩)) ?_
  refine jf (.int .i64 s.st) hB1 0 load_int ?_
  refine jm (.int .i64 (m : Int)) ?_
  refine jn (.pointer (some ⟨(w.heap.size + 1), 2, none⟩)) ?_
  refine jf (.int .i64 s.dy) hB1 2 load_int ?_
  refine jn (.pointer (some ⟨(w.heap.size + 1), 3, none⟩)) ?_
  refine jf (.int .i64 s.kd) hB1 3 load_int ?_
  refine jn (.pointer (some ⟨(w.heap.size + 1), 4, none⟩)) ?_
  refine jf (st s.bd) hB1 4 load_str ?_
  refine jv (.agg (slc (s.bare (m : Int) z16b)).toArray) (exec_bq5 _ _ _ _ _ (by rfl) s.st (m : Int) s.dy s.kd s.bd (by rfl) (by rfl) (by rfl) (by rfl) (by rfl)) ?_
  refine jz fun X5 hX5 => ?_
  have hB0 := hB0.bel hX5
  have hB1 := hB1.bel hX5
  have hB2 := hB2.bel hX5
  have hcx := hcx.below hX5 hbb
  replace hbb := Nat.lt_of_lt_of_le hbb (hX5).size
  have hb := bel_next hb hX5
  clear hX5
  go_upto_region 8 with (refine op_store_new _ _ _ rfl 28 (.tmp 9) (.tmp 31) (by rfl) (by rfl) (slc (s.bare (m : Int) z16b)).toArray (by rfl) (by show (slc (s.bare (m : Int) z16b)).toArray.size = (slc sl0).toArray.size; simp [SlOk.len obz, SlOk.len ok0]) (fun v hv => slc_one v (by simpa using hv)) (by rw [show (slc (s.bare (m : Int) z16b)).toArray.size = (slc (s.bare (m : Int) z16b)).length from by simp]; exact info_slc obz) ?_)
  obtain ⟨Y5, hY9, hD9, hS9⟩ := start1 X5 28 (slc (s.bare (m : Int) z16b))
  rw [← hY9]
  clear hY9
  have hgs9 := hb.size
  have hlt9x0 := hB0.lt
  have hlt9x1 := hB1.lt
  have hlt9x2 := hB2.lt
  have hcx := hcx.below hS9 hbb
  replace hbb := Nat.lt_of_lt_of_le hbb (hS9).size
  have hB0 := hB0.bel hS9
  have hB1 := hB1.bel hS9
  have hB2 := hB2.bel hS9
  have hb := bel_next hb hS9
  clear hS9
  generalize X5.heap.size = g9 at *
  refine jp ?_
  refine jm (.int .i64 (m : Int)) ?_
  refine jv (.bool true) (exec_gtr _ _ _ _ (by rfl) .i64 (m : Int) 0 (by rfl) (by rfl) true (decide_eq_true (by omega))) ?_
  refine jz fun X6 hX6 => ?_
  have hB0 := hB0.bel hX6
  have hB1 := hB1.bel hX6
  have hB2 := hB2.bel hX6
  have hD9 := hD9.bel hX6
  have hcx := hcx.below hX6 hbb
  replace hbb := Nat.lt_of_lt_of_le hbb (hX6).size
  have hb := bel_next hb hX6
  clear hX6
  obtain ⟨hh1, hh2⟩ := hh
  have HS := Lib.hid hh1
  clear hh1
  go_upto_region 9 with (fail)
  refine jd ?_
  refine jn (.pointer (some ⟨(w.heap.size + 1), 0, none⟩)) ?_
  refine jf (.int .i64 s.st) hB1 0 load_int ?_
  refine jm (.slice (some ⟨b, off, none⟩) m c') ?_
  refine jm (.int .i64 (m : Int)) ?_
  refine jv (.int .i64 ((m : Int) - 1)) (exec_sub _ _ _ _ (by rfl) (m : Int) 1 ((m : Int) - 1) (by rfl) (by rfl) (by omega) (by omega) (by omega)) ?_
  refine jv (.pointer (some ⟨b, off + (m - 1) * 37, none⟩)) (exec_ixv Tryd.underlying30 info_sl _ _ (by rfl) b (off) m c' (m - 1) (by omega) (by rfl) (by rfl) (by omega)) ?_
  refine jn (.pointer (some ⟨b, off + (m - 1) * 37, none⟩)) ?_
  refine jg (.int .i64 y.st) (fun X hX hF => exec_ld 3 _ (by rfl) b (off + (m - 1) * 37) (by rfl) _ X ((hcx.below hX hbb) 0 _ rfl) (fun X u h => load_int b (off + (m - 1) * 37) X u h)) ?_
  refine jv (.bool false) (exec_nei _ _ _ _ (by rfl) .i64 s.st y.st (by rfl) (by rfl) false (by rw [decide_eq_true HS.out]; rfl)) ?_
  refine jz fun X7 hX7 => ?_
  have hB0 := hB0.bel hX7
  have hB1 := hB1.bel hX7
  have hB2 := hB2.bel hX7
  have hD9 := hD9.bel hX7
  have hcx := hcx.below hX7 hbb
  replace hbb := Nat.lt_of_lt_of_le hbb (hX7).size
  have hb := bel_next hb hX7
  clear hX7
  go_upto_region 11 with (fail)
  refine jd ?_
  refine jn (.pointer (some ⟨(w.heap.size + 1), 2, none⟩)) ?_
  refine jf (.int .i64 s.dy) hB1 2 load_int ?_
  refine jm (.slice (some ⟨b, off, none⟩) m c') ?_
  refine jm (.int .i64 (m : Int)) ?_
  refine jv (.int .i64 ((m : Int) - 1)) (exec_sub _ _ _ _ (by rfl) (m : Int) 1 ((m : Int) - 1) (by rfl) (by rfl) (by omega) (by omega) (by omega)) ?_
  refine jv (.pointer (some ⟨b, off + (m - 1) * 37, none⟩)) (exec_ixv Tryd.underlying30 info_sl _ _ (by rfl) b (off) m c' (m - 1) (by omega) (by rfl) (by rfl) (by omega)) ?_
  refine jn (.pointer (some ⟨b, off + (m - 1) * 37 + 2, none⟩)) ?_
  refine jg (.int .i64 y.dy) (fun X hX hF => exec_ld 3 _ (by rfl) b (off + (m - 1) * 37 + 2) (by rfl) _ X ((hcx.below hX hbb) 2 _ rfl) (fun X u h => load_int b (off + (m - 1) * 37 + 2) X u h)) ?_
  refine jv (.bool false) (exec_lss _ _ _ _ (by rfl) .i64 s.dy y.dy (by rfl) (by rfl) false (decide_eq_false (show ¬ s.dy < y.dy by omega))) ?_
  refine jz fun X8 hX8 => ?_
  have hB0 := hB0.bel hX8
  have hB1 := hB1.bel hX8
  have hB2 := hB2.bel hX8
  have hD9 := hD9.bel hX8
  have hcx := hcx.below hX8 hbb
  replace hbb := Nat.lt_of_lt_of_le hbb (hX8).size
  have hb := bel_next hb hX8
  clear hX8
  go_upto_region 13 with (fail)
  refine jq 7 ?_
  refine jm (.slice (some ⟨b, off, none⟩) m c') ?_
  refine jm (.int .i64 (m : Int)) ?_
  refine jv (.int .i64 ((m : Int) - 1)) (exec_sub _ _ _ _ (by rfl) (m : Int) 1 ((m : Int) - 1) (by rfl) (by rfl) (by omega) (by omega) (by omega)) ?_
  refine jv (.pointer (some ⟨b, off + (m - 1) * 37, none⟩)) (exec_ixv Tryd.underlying30 info_sl _ _ (by rfl) b (off) m c' (m - 1) (by omega) (by rfl) (by rfl) (by omega)) ?_
  refine jg (.agg (slc y).toArray) (fun X hX hF => exec_ldc 28 _ (by rfl) b (off + (m - 1) * 37) (by rfl) Tryd.underlying28 rfl (slc y) X (hcx.below hX hbb) (info_slc ox)) ?_
  refine jc (.agg ((nm48 y).map B8).toArray) (fun X hX hF => rnmC y X ox (by omega) (HKK.out X (bel_next hb hX))) ?_
  refine jn (.pointer (some ⟨g9, 5, none⟩)) ?_
  refine jz fun X9 hX9 => ?_
  have hB0 := hB0.bel hX9
  have hB1 := hB1.bel hX9
  have hB2 := hB2.bel hX9
  have hD9 := hD9.bel hX9
  have hcx := hcx.below hX9 hbb
  replace hbb := Nat.lt_of_lt_of_le hbb (hX9).size
  have hb := bel_next hb hX9
  clear hX9
  refine op_store_part rfl 26 (.tmp 60) (.tmp 59) rfl g9 5 28 _ hD9 (by rfl) ((nm48 y).map B8) (by rfl) (by rw [obz.len, List.length_map, nm_len]; decide) (B8s_one _) (info_d16 (nm_len _)) ?_
  intro w7 hR7 hO7 hB7
  rw [slc_bare rfl (nm_len _)] at hR7
  have hB0 := hO7 _ _ _ (by omega) hB0
  have hB1 := hO7 _ _ _ (by omega) hB1
  have hB2 := hO7 _ _ _ (by omega) hB2
  have hD9 := hR7
  have hb := hB7 _ _ hb (by omega)
  have oby : SlOk (s.bare (m : Int) (nm48 y)) := hs.bare (by omega) (nm_len _)
  have HT : Hid (s.bare (m : Int) (nm48 y) = (nxT nm48 l s).put z16b) := by
    rw [← bare_put HLM.out, HY.out, HLM.out]
    unfold bfr
    rw [if_neg (by omega)]
    rfl
  clear hO7 hB7 hR7 hcx
  have hx := slS_ok (r := r) (s := (s.bare (m : Int) (nm48 y))) oby
  obtain ⟨x, hx9⟩ : ∃ x, x = slS mk48 r (s.bare (m : Int) (nm48 y)) := ⟨_, rfl⟩
  obtain ⟨e9, he9⟩ : ∃ e9, e9 = slE r (s.bare (m : Int) (nm48 y)) := ⟨_, rfl⟩
  rw [← hx9] at hx
  have HXE : Hid (slS mk48 r (s.bare (m : Int) (nm48 y)) = x ∧ slE r (s.bare (m : Int) (nm48 y)) = e9) := ⟨hx9.symm, he9.symm⟩
  clear hx9 he9
  go_upto_region 14 with (fail)
  refine jq 3 ?_
  refine ja hB0 Tryd.underlying24 (by rfl) info_rg ?_
  refine jg (.agg (slc (s.bare (m : Int) (nm48 y))).toArray) (fun X hX hF => exec_lda 28 _ (by rfl) g9 (by rfl) Tryd.underlying28 rfl X (hD9.bel hX) (info_slc oby)) ?_
  refine jc (.agg (mdc x e9).toArray) (fun X hX hF => mo (rslC A n c r X (HRX.out X (bel_next hb hX)) HLN.out hn1 (s.bare (m : Int) (nm48 y)) oby (HKK.out X (bel_next hb hX))) (by rw [HXE.out.1, HXE.out.2])) ?_
  refine jz fun X10 hX10 => ?_
  have hB0 := hB0.bel hX10
  have hB1 := hB1.bel hX10
  have hB2 := hB2.bel hX10
  have hD9 := hD9.bel hX10
  have hb := bel_next hb hX10
  clear hX10
  have HFIN : Hid (nxE mk48 nm48 r l s = e9 ∧ nxS mk48 nm48 r l s = x) := by
    rw [← HXE.out.1, ← HXE.out.2, HT.out, slE_put, slS_put]
    exact ⟨HE.out, nxS_sl HE.out⟩
  refine op_store_blk rfl 36 (.tmp 6) (.tmp 63) rfl (w.heap.size + 2) 36 _ hB2 rfl (mdc x e9) rfl ((mdc_len hx _).trans (mdc_len ok0 _).symm) mdc_one (info_mdc hx _) ?_
  intro w9 hR9 hO9 hB9 hs9
  have hb9 := hB9 _ _ hb (by omega)
  clear hO9 hB9
  go_wp2
  refine post_cell rfl rfl (by rfl) Tryd.underlying36 rfl hR9 (info_mdc hx _) ⟨by rw [HFIN.out.1, HFIN.out.2], hb9⟩
theorem rnxC (A : Option Addr) (n c : Nat) (r : List (List UInt8)) (w : World) (hr : Rd w 1 (.slice A n c) n (r.map tx)) (hln : r.length = n) (hn1 : n ≤ 9223372036854775807) (A' : Option Addr) (m c' : Nat) (l : List Sl) (hrl : Rd w 37 (.slice A' m c') m (fl slc l)) (hlm : l.length = m) (hm1 : m ≤ 9223372036854775807) (hok : ∀ s ∈ l, SlOk s) (s : Sl) (hs : SlOk s) (hK : KK0 w) : Calls Tryd.prog 21 #[.agg #[.slice A n c], .slice A' m c', .agg (slc s).toArray] w fun e w' => e = .returned (.agg (mdc (nxS mk48 nm48 r l s) (nxE mk48 nm48 r l s)).toArray) ∧ Since w w' := by
  by_cases h : lgE mk48 nm48 r l = 0
  · by_cases h2 : m = 4000
    · exact rnx2 A n c r w hr hln hn1 A' m c' l hrl hlm hm1 hok s hs hK h h2
    · by_cases h0 : m < 1
      · exact rnx3 A n c r w hr hln hn1 A' m c' l hrl hlm hm1 hok s hs hK h h0
      · by_cases h3 : s.st = (sAt l (m - 1)).st
        · by_cases h4 : s.dy < (sAt l (m - 1)).dy
          · exact rnx5 A n c r w hr hln hn1 A' m c' l hrl hlm hm1 hok s hs hK h h2 (by omega) ⟨h3, h4⟩
          · exact rnx6 A n c r w hr hln hn1 A' m c' l hrl hlm hm1 hok s hs hK h h2 (by omega) ⟨h3, by omega⟩
        · exact rnx4 A n c r w hr hln hn1 A' m c' l hrl hlm hm1 hok s hs hK h h2 (by omega) h3
  · exact rnx1 A n c r w hr hln hn1 A' m c' l hrl hlm hm1 hok s hs hK h
end Go.Proofs.YthinopepcmidmaaDoor
