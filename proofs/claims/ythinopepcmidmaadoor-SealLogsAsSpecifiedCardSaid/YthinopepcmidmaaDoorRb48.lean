/-
  Reference of layer 48: parts, formed, Seal.
-/
import Derived.Test.YthinopepcmidmaaDoorRa48
set_option linter.unusedSimpArgs false
set_option linter.unusedVariables false
set_option maxRecDepth 100000
set_option maxHeartbeats 1600000
namespace Go.Proofs.YthinopepcmidmaaDoor
open Go.RowKit
theorem rptC (s : Sl) (w : World) (hs : SlOk s) : Calls Tryd.prog 34 #[.agg (slc s).toArray] w fun e w' => ∃ v, e = .returned v ∧ w'.ownsRow w.heap.size 9 1 v 7 ((pts s).map tx) ∧ Since w w' := by
  go_enter Tryd.func34, Tryd.ntmps34
  go_upto_region 1 with (fail)
  obtain ⟨W0, hW0, hB0, hb⟩ := start1 w 28 (slc s)
  rw [← hW0]
  clear hW0
  refine lx_region [none, none, none, none, none, none, none, none, none, none, none, none, none, none, none, none, none, none, some (Own w.heap.size 7 ((pts s).map tx))] (by kernel_rfl) (by kernel_rfl) (lasts_none (lasts_none (lasts_none (lasts_none (lasts_none (lasts_none (lasts_none (lasts_none (lasts_none (lasts_none (lasts_none (lasts_none (lasts_none (lasts_none (lasts_none (lasts_none (lasts_none (lasts_none (lasts_some (Own.lasts _ _ _) (lasts_nil)))))))))))))))))))) ?_
  simp only [iX, Nat.reduceAdd]
  refine jc (st (encI 236)) (fun X hX hF => rnumC 236 X (by decide) (by decide)) ?_
  refine jn (.pointer (some ⟨w.heap.size, 0, none⟩)) ?_
  refine jf (.int .i64 s.st) hB0 0 load_int ?_
  refine jc (st (encI s.st)) (fun X hX hF => rnumC s.st X hs.st.1 hs.st.2) ?_
  refine jn (.pointer (some ⟨w.heap.size, 1, none⟩)) ?_
  refine jf (.int .i64 s.sq) hB0 1 load_int ?_
  refine jc (st (encI s.sq)) (fun X hX hF => rnumC s.sq X hs.sq.1 hs.sq.2) ?_
  refine jn (.pointer (some ⟨w.heap.size, 2, none⟩)) ?_
  refine jf (.int .i64 s.dy) hB0 2 load_int ?_
  refine jc (st (encI s.dy)) (fun X hX hF => rnumC s.dy X hs.dy.1 hs.dy.2) ?_
  refine jn (.pointer (some ⟨w.heap.size, 3, none⟩)) ?_
  refine jf (.int .i64 s.kd) hB0 3 load_int ?_
  refine jc (st (encI s.kd)) (fun X hX hF => rnumC s.kd X hs.kd.1 hs.kd.2) ?_
  refine jn (.pointer (some ⟨w.heap.size, 4, none⟩)) ?_
  refine jf (st s.bd) hB0 4 load_str ?_
  refine jn (.pointer (some ⟨w.heap.size, 5, none⟩)) ?_
  refine jv (.slice (some ⟨w.heap.size, 5, none⟩) 16 16) (exec_sld _ (by rfl) w.heap.size 5 (by rfl)) ?_
  refine jg (st s.pv) (fun X hX hF => exec_str 69 9 5 Tryd.underlying69 Tryd.underlying5 Tryd.underlying9 (.tmp 19) (by rfl) (v := .slice (some ⟨w.heap.size, 5, none⟩) 16 16) rfl (Blk.rdAt (hB0.bel hX) (slc_pv hs) (by rw [List.length_map, hs.pv]) (by decide))) ?_
  refine lx_new (by rfl) (fun X hX hF => exec_bsS7 _ _ _ _ _ _ _ (by rfl) (encI 236) (encI s.st) (encI s.sq) (encI s.dy) (encI s.kd) s.bd s.pv (by rfl) (by rfl) (by rfl) (by rfl) (by rfl) (by rfl) (by rfl) X w.heap.size (bel_next hb hX).size) ?_
  intro v21
  simp only [pX]
  refine jm (v21) ?_
  refine lx_nil ?_
  intro X1 hX1 hF
  have hv21 := hF _ _ List.mem_cons_self
  have hB0 := hB0.bel hX1
  have hb := bel_next hb hX1
  clear hF hX1
  go_wp2
  go_ret
  exact ⟨_, rfl, hv21, hb⟩
theorem rfo0 (A : Option Addr) (n c : Nat) (r : List (List UInt8)) (w : World) (hr : Rd w 1 (.slice A n c) n (r.map tx)) (hln : r.length = n) (hn1 : n ≤ 9223372036854775807) (s : Sl) (hs : SlOk s) (h0 : ¬ 0 ≤ s.st) : Calls Tryd.prog 32 #[.agg #[.slice A n c], .agg (slc s).toArray] w fun e w' => e = .returned (.bool (frm r s)) ∧ Since w w' := by
  have hz := zero16
  have HF : Hid (frm r s = false) := by
    unfold frm
    rw [hln]
    refine decide_eq_false ?_
    rintro ⟨a0, a1, a2, a3, a4, a5, a6, a7, a8, a9⟩
    exact h0 a0
  clear hr
  go_enter Tryd.func32, Tryd.ntmps32
  go_upto_region 1 with (fail)
  obtain ⟨W0, hW0, hB0, hB1, hb⟩ := start2 w 24 28 [.slice A n c] (slc s)
  rw [← hW0]
  clear hW0
  refine jp ?_
  refine jn (.pointer (some ⟨(w.heap.size + 1), 0, none⟩)) ?_
  refine jf (.int .i64 s.st) hB1 0 load_int ?_
  refine jv (.bool true) (exec_lss _ _ _ _ (by rfl) .i64 s.st 0 (by rfl) (by rfl) true (decide_eq_true (by omega))) ?_
  refine jm (.bool true) ?_
  refine js ?_
  refine js ?_
  refine js ?_
  refine js ?_
  refine js ?_
  refine js ?_
  refine jm (.bool true) ?_
  refine jm (.bool true) ?_
  refine js ?_
  refine js ?_
  refine js ?_
  refine jm (.bool true) ?_
  refine jm (.bool true) ?_
  refine js ?_
  refine js ?_
  refine js ?_
  refine jm (.bool true) ?_
  refine jm (.bool true) ?_
  refine js ?_
  refine js ?_
  refine js ?_
  refine jm (.bool true) ?_
  refine jm (.bool true) ?_
  refine js ?_
  refine js ?_
  refine js ?_
  refine jm (.bool true) ?_
  refine jm (.bool true) ?_
  refine js ?_
  refine js ?_
  refine js ?_
  refine jm (.bool true) ?_
  refine jm (.bool true) ?_
  refine js ?_
  refine js ?_
  refine js ?_
  refine jm (.bool true) ?_
  refine jm (.bool true) ?_
  refine js ?_
  refine js ?_
  refine js ?_
  refine js ?_
  refine jm (.bool true) ?_
  refine jz fun X1 hX1 => ?_
  have hB0 := hB0.bel hX1
  have hB1 := hB1.bel hX1
  have hb := bel_next hb hX1
  clear hX1
  go_upto_region 2 with (fail)
  refine jp ?_
  refine jm (.bool false) ?_
  refine jz fun X2 hX2 => ?_
  have hB0 := hB0.bel hX2
  have hB1 := hB1.bel hX2
  have hb := bel_next hb hX2
  clear hX2
  go_wp2
  go_ret
  exact ⟨by rw [HF.out]; rfl, hb⟩
theorem rfo1 (A : Option Addr) (n c : Nat) (r : List (List UInt8)) (w : World) (hr : Rd w 1 (.slice A n c) n (r.map tx)) (hln : r.length = n) (hn1 : n ≤ 9223372036854775807) (s : Sl) (hs : SlOk s) (h0 : 0 ≤ s.st) (h1 : ¬ s.st ≤ (n : Int) - 1) : Calls Tryd.prog 32 #[.agg #[.slice A n c], .agg (slc s).toArray] w fun e w' => e = .returned (.bool (frm r s)) ∧ Since w w' := by
  have hz := zero16
  have HF : Hid (frm r s = false) := by
    unfold frm
    rw [hln]
    refine decide_eq_false ?_
    rintro ⟨a0, a1, a2, a3, a4, a5, a6, a7, a8, a9⟩
    exact h1 a1
  clear hr
  go_enter Tryd.func32, Tryd.ntmps32
  go_upto_region 1 with (fail)
  obtain ⟨W0, hW0, hB0, hB1, hb⟩ := start2 w 24 28 [.slice A n c] (slc s)
  rw [← hW0]
  clear hW0
  refine jp ?_
  refine jn (.pointer (some ⟨(w.heap.size + 1), 0, none⟩)) ?_
  refine jf (.int .i64 s.st) hB1 0 load_int ?_
  refine jv (.bool false) (exec_lss _ _ _ _ (by rfl) .i64 s.st 0 (by rfl) (by rfl) false (decide_eq_false (by omega))) ?_
  refine jm (.bool false) ?_
  refine jn (.pointer (some ⟨(w.heap.size + 1), 0, none⟩)) ?_
  refine jf (.int .i64 s.st) hB1 0 load_int ?_
  refine jn (.pointer (some ⟨w.heap.size, 0, none⟩)) ?_
  refine jf (.slice A n c) hB0 0 load_sts ?_
  refine jv (.int .i64 (n : Int)) (exec_lenv Tryd.underlying22 _ (by rfl) A n c (by rfl) _ rfl) ?_
  refine jv (.bool true) (exec_geq _ _ _ _ (by rfl) .i64 s.st (n : Int) (by rfl) (by rfl) true (decide_eq_true (by omega))) ?_
  refine jm (.bool true) ?_
  refine jm (.bool true) ?_
  refine js ?_
  refine js ?_
  refine js ?_
  refine jm (.bool true) ?_
  refine jm (.bool true) ?_
  refine js ?_
  refine js ?_
  refine js ?_
  refine jm (.bool true) ?_
  refine jm (.bool true) ?_
  refine js ?_
  refine js ?_
  refine js ?_
  refine jm (.bool true) ?_
  refine jm (.bool true) ?_
  refine js ?_
  refine js ?_
  refine js ?_
  refine jm (.bool true) ?_
  refine jm (.bool true) ?_
  refine js ?_
  refine js ?_
  refine js ?_
  refine jm (.bool true) ?_
  refine jm (.bool true) ?_
  refine js ?_
  refine js ?_
  refine js ?_
  refine jm (.bool true) ?_
  refine jm (.bool true) ?_
  refine js ?_
  refine js ?_
  refine js ?_
  refine js ?_
  refine jm (.bool true) ?_
  refine jz fun X1 hX1 => ?_
  have hB0 := hB0.bel hX1
  have hB1 := hB1.bel hX1
  have hb := bel_next hb hX1
  clear hX1
  go_upto_region 2 with (fail)
  refine jp ?_
  refine jm (.bool false) ?_
  refine jz fun X2 hX2 => ?_
  have hB0 := hB0.bel hX2
  have hB1 := hB1.bel hX2
  have hb := bel_next hb hX2
  clear hX2
  go_wp2
  go_ret
  exact ⟨by rw [HF.out]; rfl, hb⟩
theorem rfo2 (A : Option Addr) (n c : Nat) (r : List (List UInt8)) (w : World) (hr : Rd w 1 (.slice A n c) n (r.map tx)) (hln : r.length = n) (hn1 : n ≤ 9223372036854775807) (s : Sl) (hs : SlOk s) (h0 : 0 ≤ s.st) (h1 : s.st ≤ (n : Int) - 1) (h2 : ¬ 0 ≤ s.sq) : Calls Tryd.prog 32 #[.agg #[.slice A n c], .agg (slc s).toArray] w fun e w' => e = .returned (.bool (frm r s)) ∧ Since w w' := by
  have hz := zero16
  have HF : Hid (frm r s = false) := by
    unfold frm
    rw [hln]
    refine decide_eq_false ?_
    rintro ⟨a0, a1, a2, a3, a4, a5, a6, a7, a8, a9⟩
    exact h2 a2
  clear hr hln
  go_enter Tryd.func32, Tryd.ntmps32
  go_upto_region 1 with (fail)
  obtain ⟨W0, hW0, hB0, hB1, hb⟩ := start2 w 24 28 [.slice A n c] (slc s)
  rw [← hW0]
  clear hW0
  refine jp ?_
  refine jn (.pointer (some ⟨(w.heap.size + 1), 0, none⟩)) ?_
  refine jf (.int .i64 s.st) hB1 0 load_int ?_
  refine jv (.bool false) (exec_lss _ _ _ _ (by rfl) .i64 s.st 0 (by rfl) (by rfl) false (decide_eq_false (by omega))) ?_
  refine jm (.bool false) ?_
  refine jn (.pointer (some ⟨(w.heap.size + 1), 0, none⟩)) ?_
  refine jf (.int .i64 s.st) hB1 0 load_int ?_
  refine jn (.pointer (some ⟨w.heap.size, 0, none⟩)) ?_
  refine jf (.slice A n c) hB0 0 load_sts ?_
  refine jv (.int .i64 (n : Int)) (exec_lenv Tryd.underlying22 _ (by rfl) A n c (by rfl) _ rfl) ?_
  refine jv (.bool false) (exec_geq _ _ _ _ (by rfl) .i64 s.st (n : Int) (by rfl) (by rfl) false (decide_eq_false (by omega))) ?_
  refine jm (.bool false) ?_
  refine jm (.bool false) ?_
  refine jn (.pointer (some ⟨(w.heap.size + 1), 1, none⟩)) ?_
  refine jf (.int .i64 s.sq) hB1 1 load_int ?_
  refine jv (.bool true) (exec_lss _ _ _ _ (by rfl) .i64 s.sq 0 (by rfl) (by rfl) true (decide_eq_true (by omega))) ?_
  refine jm (.bool true) ?_
  refine jm (.bool true) ?_
  refine js ?_
  refine js ?_
  refine js ?_
  refine jm (.bool true) ?_
  refine jm (.bool true) ?_
  refine js ?_
  refine js ?_
  refine js ?_
  refine jm (.bool true) ?_
  refine jm (.bool true) ?_
  refine js ?_
  refine js ?_
  refine js ?_
  refine jm (.bool true) ?_
  refine jm (.bool true) ?_
  refine js ?_
  refine js ?_
  refine js ?_
  refine jm (.bool true) ?_
  refine jm (.bool true) ?_
  refine js ?_
  refine js ?_
  refine js ?_
  refine jm (.bool true) ?_
  refine jm (.bool true) ?_
  refine js ?_
  refine js ?_
  refine js ?_
  refine js ?_
  refine jm (.bool true) ?_
  refine jz fun X1 hX1 => ?_
  have hB0 := hB0.bel hX1
  have hB1 := hB1.bel hX1
  have hb := bel_next hb hX1
  clear hX1
  go_upto_region 2 with (fail)
  refine jp ?_
  refine jm (.bool false) ?_
  refine jz fun X2 hX2 => ?_
  have hB0 := hB0.bel hX2
  have hB1 := hB1.bel hX2
  have hb := bel_next hb hX2
  clear hX2
  go_wp2
  go_ret
  exact ⟨by rw [HF.out]; rfl, hb⟩
theorem rfo3 (A : Option Addr) (n c : Nat) (r : List (List UInt8)) (w : World) (hr : Rd w 1 (.slice A n c) n (r.map tx)) (hln : r.length = n) (hn1 : n ≤ 9223372036854775807) (s : Sl) (hs : SlOk s) (h0 : 0 ≤ s.st) (h1 : s.st ≤ (n : Int) - 1) (h2 : 0 ≤ s.sq) (h3 : ¬ s.sq ≤ 3999) : Calls Tryd.prog 32 #[.agg #[.slice A n c], .agg (slc s).toArray] w fun e w' => e = .returned (.bool (frm r s)) ∧ Since w w' := by
  have hz := zero16
  have HF : Hid (frm r s = false) := by
    unfold frm
    rw [hln]
    refine decide_eq_false ?_
    rintro ⟨a0, a1, a2, a3, a4, a5, a6, a7, a8, a9⟩
    exact h3 a3
  clear hr hln
  go_enter Tryd.func32, Tryd.ntmps32
  go_upto_region 1 with (fail)
  obtain ⟨W0, hW0, hB0, hB1, hb⟩ := start2 w 24 28 [.slice A n c] (slc s)
  rw [← hW0]
  clear hW0
  refine jp ?_
  refine jn (.pointer (some ⟨(w.heap.size + 1), 0, none⟩)) ?_
  refine jf (.int .i64 s.st) hB1 0 load_int ?_
  refine jv (.bool false) (exec_lss _ _ _ _ (by rfl) .i64 s.st 0 (by rfl) (by rfl) false (decide_eq_false (by omega))) ?_
  refine jm (.bool false) ?_
  refine jn (.pointer (some ⟨(w.heap.size + 1), 0, none⟩)) ?_
  refine jf (.int .i64 s.st) hB1 0 load_int ?_
  refine jn (.pointer (some ⟨w.heap.size, 0, none⟩)) ?_
  refine jf (.slice A n c) hB0 0 load_sts ?_
  refine jv (.int .i64 (n : Int)) (exec_lenv Tryd.underlying22 _ (by rfl) A n c (by rfl) _ rfl) ?_
  refine jv (.bool false) (exec_geq _ _ _ _ (by rfl) .i64 s.st (n : Int) (by rfl) (by rfl) false (decide_eq_false (by omega))) ?_
  refine jm (.bool false) ?_
  refine jm (.bool false) ?_
  refine jn (.pointer (some ⟨(w.heap.size + 1), 1, none⟩)) ?_
  refine jf (.int .i64 s.sq) hB1 1 load_int ?_
  refine jv (.bool false) (exec_lss _ _ _ _ (by rfl) .i64 s.sq 0 (by rfl) (by rfl) false (decide_eq_false (by omega))) ?_
  refine jm (.bool false) ?_
  refine jm (.bool false) ?_
  refine jn (.pointer (some ⟨(w.heap.size + 1), 1, none⟩)) ?_
  refine jf (.int .i64 s.sq) hB1 1 load_int ?_
  refine jv (.bool true) (exec_geq _ _ _ _ (by rfl) .i64 s.sq 4000 (by rfl) (by rfl) true (decide_eq_true (by omega))) ?_
  refine jm (.bool true) ?_
  refine jm (.bool true) ?_
  refine js ?_
  refine js ?_
  refine js ?_
  refine jm (.bool true) ?_
  refine jm (.bool true) ?_
  refine js ?_
  refine js ?_
  refine js ?_
  refine jm (.bool true) ?_
  refine jm (.bool true) ?_
  refine js ?_
  refine js ?_
  refine js ?_
  refine jm (.bool true) ?_
  refine jm (.bool true) ?_
  refine js ?_
  refine js ?_
  refine js ?_
  refine jm (.bool true) ?_
  refine jm (.bool true) ?_
  refine js ?_
  refine js ?_
  refine js ?_
  refine js ?_
  refine jm (.bool true) ?_
  refine jz fun X1 hX1 => ?_
  have hB0 := hB0.bel hX1
  have hB1 := hB1.bel hX1
  have hb := bel_next hb hX1
  clear hX1
  go_upto_region 2 with (fail)
  refine jp ?_
  refine jm (.bool false) ?_
  refine jz fun X2 hX2 => ?_
  have hB0 := hB0.bel hX2
  have hB1 := hB1.bel hX2
  have hb := bel_next hb hX2
  clear hX2
  go_wp2
  go_ret
  exact ⟨by rw [HF.out]; rfl, hb⟩
theorem rfo4 (A : Option Addr) (n c : Nat) (r : List (List UInt8)) (w : World) (hr : Rd w 1 (.slice A n c) n (r.map tx)) (hln : r.length = n) (hn1 : n ≤ 9223372036854775807) (s : Sl) (hs : SlOk s) (h0 : 0 ≤ s.st) (h1 : s.st ≤ (n : Int) - 1) (h2 : 0 ≤ s.sq) (h3 : s.sq ≤ 3999) (h4 : ¬ 0 ≤ s.dy) : Calls Tryd.prog 32 #[.agg #[.slice A n c], .agg (slc s).toArray] w fun e w' => e = .returned (.bool (frm r s)) ∧ Since w w' := by
  have hz := zero16
  have HF : Hid (frm r s = false) := by
    unfold frm
    rw [hln]
    refine decide_eq_false ?_
    rintro ⟨a0, a1, a2, a3, a4, a5, a6, a7, a8, a9⟩
    exact h4 a4
  clear hr hln
  go_enter Tryd.func32, Tryd.ntmps32
  go_upto_region 1 with (fail)
  obtain ⟨W0, hW0, hB0, hB1, hb⟩ := start2 w 24 28 [.slice A n c] (slc s)
  rw [← hW0]
  clear hW0
  refine jp ?_
  refine jn (.pointer (some ⟨(w.heap.size + 1), 0, none⟩)) ?_
  refine jf (.int .i64 s.st) hB1 0 load_int ?_
  refine jv (.bool false) (exec_lss _ _ _ _ (by rfl) .i64 s.st 0 (by rfl) (by rfl) false (decide_eq_false (by omega))) ?_
  refine jm (.bool false) ?_
  refine jn (.pointer (some ⟨(w.heap.size + 1), 0, none⟩)) ?_
  refine jf (.int .i64 s.st) hB1 0 load_int ?_
  refine jn (.pointer (some ⟨w.heap.size, 0, none⟩)) ?_
  refine jf (.slice A n c) hB0 0 load_sts ?_
  refine jv (.int .i64 (n : Int)) (exec_lenv Tryd.underlying22 _ (by rfl) A n c (by rfl) _ rfl) ?_
  refine jv (.bool false) (exec_geq _ _ _ _ (by rfl) .i64 s.st (n : Int) (by rfl) (by rfl) false (decide_eq_false (by omega))) ?_
  refine jm (.bool false) ?_
  refine jm (.bool false) ?_
  refine jn (.pointer (some ⟨(w.heap.size + 1), 1, none⟩)) ?_
  refine jf (.int .i64 s.sq) hB1 1 load_int ?_
  refine jv (.bool false) (exec_lss _ _ _ _ (by rfl) .i64 s.sq 0 (by rfl) (by rfl) false (decide_eq_false (by omega))) ?_
  refine jm (.bool false) ?_
  refine jm (.bool false) ?_
  refine jn (.pointer (some ⟨(w.heap.size + 1), 1, none⟩)) ?_
  refine jf (.int .i64 s.sq) hB1 1 load_int ?_
  refine jv (.bool false) (exec_geq _ _ _ _ (by rfl) .i64 s.sq 4000 (by rfl) (by rfl) false (decide_eq_false (by omega))) ?_
  refine jm (.bool false) ?_
  refine jm (.bool false) ?_
  refine jn (.pointer (some ⟨(w.heap.size + 1), 2, none⟩)) ?_
  refine jf (.int .i64 s.dy) hB1 2 load_int ?_
  refine jv (.bool true) (exec_lss _ _ _ _ (by rfl) .i64 s.dy 0 (by rfl) (by rfl) true (decide_eq_true (by omega))) ?_
  refine jm (.bool true) ?_
  refine jm (.bool true) ?_
  refine js ?_
  refine js ?_
  refine js ?_
  refine jm (.bool true) ?_
  refine jm (.bool true) ?_
  refine js ?_
  refine js ?_
  refine js ?_
  refine jm (.bool true) ?_
  refine jm (.bool true) ?_
  refine js ?_
  refine js ?_
  refine js ?_
  refine jm (.bool true) ?_
  refine jm (.bool true) ?_
  refine js ?_
  refine js ?_
  refine js ?_
  refine js ?_
  refine jm (.bool true) ?_
  refine jz fun X1 hX1 => ?_
  have hB0 := hB0.bel hX1
  have hB1 := hB1.bel hX1
  have hb := bel_next hb hX1
  clear hX1
  go_upto_region 2 with (fail)
  refine jp ?_
  refine jm (.bool false) ?_
  refine jz fun X2 hX2 => ?_
  have hB0 := hB0.bel hX2
  have hB1 := hB1.bel hX2
  have hb := bel_next hb hX2
  clear hX2
  go_wp2
  go_ret
  exact ⟨by rw [HF.out]; rfl, hb⟩
theorem rfo5 (A : Option Addr) (n c : Nat) (r : List (List UInt8)) (w : World) (hr : Rd w 1 (.slice A n c) n (r.map tx)) (hln : r.length = n) (hn1 : n ≤ 9223372036854775807) (s : Sl) (hs : SlOk s) (h0 : 0 ≤ s.st) (h1 : s.st ≤ (n : Int) - 1) (h2 : 0 ≤ s.sq) (h3 : s.sq ≤ 3999) (h4 : 0 ≤ s.dy) (h5 : ¬ s.dy ≤ 14609) : Calls Tryd.prog 32 #[.agg #[.slice A n c], .agg (slc s).toArray] w fun e w' => e = .returned (.bool (frm r s)) ∧ Since w w' := by
  have hz := zero16
  have HF : Hid (frm r s = false) := by
    unfold frm
    rw [hln]
    refine decide_eq_false ?_
    rintro ⟨a0, a1, a2, a3, a4, a5, a6, a7, a8, a9⟩
    exact h5 a5
  clear hr hln
  go_enter Tryd.func32, Tryd.ntmps32
  go_upto_region 1 with (fail)
  obtain ⟨W0, hW0, hB0, hB1, hb⟩ := start2 w 24 28 [.slice A n c] (slc s)
  rw [← hW0]
  clear hW0
  refine jp ?_
  refine jn (.pointer (some ⟨(w.heap.size + 1), 0, none⟩)) ?_
  refine jf (.int .i64 s.st) hB1 0 load_int ?_
  refine jv (.bool false) (exec_lss _ _ _ _ (by rfl) .i64 s.st 0 (by rfl) (by rfl) false (decide_eq_false (by omega))) ?_
  refine jm (.bool false) ?_
  refine jn (.pointer (some ⟨(w.heap.size + 1), 0, none⟩)) ?_
  refine jf (.int .i64 s.st) hB1 0 load_int ?_
  refine jn (.pointer (some ⟨w.heap.size, 0, none⟩)) ?_
  refine jf (.slice A n c) hB0 0 load_sts ?_
  refine jv (.int .i64 (n : Int)) (exec_lenv Tryd.underlying22 _ (by rfl) A n c (by rfl) _ rfl) ?_
  refine jv (.bool false) (exec_geq _ _ _ _ (by rfl) .i64 s.st (n : Int) (by rfl) (by rfl) false (decide_eq_false (by omega))) ?_
  refine jm (.bool false) ?_
  refine jm (.bool false) ?_
  refine jn (.pointer (some ⟨(w.heap.size + 1), 1, none⟩)) ?_
  refine jf (.int .i64 s.sq) hB1 1 load_int ?_
  refine jv (.bool false) (exec_lss _ _ _ _ (by rfl) .i64 s.sq 0 (by rfl) (by rfl) false (decide_eq_false (by omega))) ?_
  refine jm (.bool false) ?_
  refine jm (.bool false) ?_
  refine jn (.pointer (some ⟨(w.heap.size + 1), 1, none⟩)) ?_
  refine jf (.int .i64 s.sq) hB1 1 load_int ?_
  refine jv (.bool false) (exec_geq _ _ _ _ (by rfl) .i64 s.sq 4000 (by rfl) (by rfl) false (decide_eq_false (by omega))) ?_
  refine jm (.bool false) ?_
  refine jm (.bool false) ?_
  refine jn (.pointer (some ⟨(w.heap.size + 1), 2, none⟩)) ?_
  refine jf (.int .i64 s.dy) hB1 2 load_int ?_
  refine jv (.bool false) (exec_lss _ _ _ _ (by rfl) .i64 s.dy 0 (by rfl) (by rfl) false (decide_eq_false (by omega))) ?_
  refine jm (.bool false) ?_
  refine jm (.bool false) ?_
  refine jn (.pointer (some ⟨(w.heap.size + 1), 2, none⟩)) ?_
  refine jf (.int .i64 s.dy) hB1 2 load_int ?_
  refine jv (.bool true) (exec_gtr _ _ _ _ (by rfl) .i64 s.dy 14609 (by rfl) (by rfl) true (decide_eq_true (by omega))) ?_
  refine jm (.bool true) ?_
  refine jm (.bool true) ?_
  refine js ?_
  refine js ?_
  refine js ?_
  refine jm (.bool true) ?_
  refine jm (.bool true) ?_
  refine js ?_
  refine js ?_
  refine js ?_
  refine jm (.bool true) ?_
  refine jm (.bool true) ?_
  refine js ?_
  refine js ?_
  refine js ?_
  refine js ?_
  refine jm (.bool true) ?_
  refine jz fun X1 hX1 => ?_
  have hB0 := hB0.bel hX1
  have hB1 := hB1.bel hX1
  have hb := bel_next hb hX1
  clear hX1
  go_upto_region 2 with (fail)
  refine jp ?_
  refine jm (.bool false) ?_
  refine jz fun X2 hX2 => ?_
  have hB0 := hB0.bel hX2
  have hB1 := hB1.bel hX2
  have hb := bel_next hb hX2
  clear hX2
  go_wp2
  go_ret
  exact ⟨by rw [HF.out]; rfl, hb⟩
theorem rfo6 (A : Option Addr) (n c : Nat) (r : List (List UInt8)) (w : World) (hr : Rd w 1 (.slice A n c) n (r.map tx)) (hln : r.length = n) (hn1 : n ≤ 9223372036854775807) (s : Sl) (hs : SlOk s) (h0 : 0 ≤ s.st) (h1 : s.st ≤ (n : Int) - 1) (h2 : 0 ≤ s.sq) (h3 : s.sq ≤ 3999) (h4 : 0 ≤ s.dy) (h5 : s.dy ≤ 14609) (h6 : ¬ 1 ≤ s.kd) : Calls Tryd.prog 32 #[.agg #[.slice A n c], .agg (slc s).toArray] w fun e w' => e = .returned (.bool (frm r s)) ∧ Since w w' := by
  have hz := zero16
  have HF : Hid (frm r s = false) := by
    unfold frm
    rw [hln]
    refine decide_eq_false ?_
    rintro ⟨a0, a1, a2, a3, a4, a5, a6, a7, a8, a9⟩
    exact h6 a6
  clear hr hln
  go_enter Tryd.func32, Tryd.ntmps32
  go_upto_region 1 with (fail)
  obtain ⟨W0, hW0, hB0, hB1, hb⟩ := start2 w 24 28 [.slice A n c] (slc s)
  rw [← hW0]
  clear hW0
  refine jp ?_
  refine jn (.pointer (some ⟨(w.heap.size + 1), 0, none⟩)) ?_
  refine jf (.int .i64 s.st) hB1 0 load_int ?_
  refine jv (.bool false) (exec_lss _ _ _ _ (by rfl) .i64 s.st 0 (by rfl) (by rfl) false (decide_eq_false (by omega))) ?_
  refine jm (.bool false) ?_
  refine jn (.pointer (some ⟨(w.heap.size + 1), 0, none⟩)) ?_
  refine jf (.int .i64 s.st) hB1 0 load_int ?_
  refine jn (.pointer (some ⟨w.heap.size, 0, none⟩)) ?_
  refine jf (.slice A n c) hB0 0 load_sts ?_
  refine jv (.int .i64 (n : Int)) (exec_lenv Tryd.underlying22 _ (by rfl) A n c (by rfl) _ rfl) ?_
  refine jv (.bool false) (exec_geq _ _ _ _ (by rfl) .i64 s.st (n : Int) (by rfl) (by rfl) false (decide_eq_false (by omega))) ?_
  refine jm (.bool false) ?_
  refine jm (.bool false) ?_
  refine jn (.pointer (some ⟨(w.heap.size + 1), 1, none⟩)) ?_
  refine jf (.int .i64 s.sq) hB1 1 load_int ?_
  refine jv (.bool false) (exec_lss _ _ _ _ (by rfl) .i64 s.sq 0 (by rfl) (by rfl) false (decide_eq_false (by omega))) ?_
  refine jm (.bool false) ?_
  refine jm (.bool false) ?_
  refine jn (.pointer (some ⟨(w.heap.size + 1), 1, none⟩)) ?_
  refine jf (.int .i64 s.sq) hB1 1 load_int ?_
  refine jv (.bool false) (exec_geq _ _ _ _ (by rfl) .i64 s.sq 4000 (by rfl) (by rfl) false (decide_eq_false (by omega))) ?_
  refine jm (.bool false) ?_
  refine jm (.bool false) ?_
  refine jn (.pointer (some ⟨(w.heap.size + 1), 2, none⟩)) ?_
  refine jf (.int .i64 s.dy) hB1 2 load_int ?_
  refine jv (.bool false) (exec_lss _ _ _ _ (by rfl) .i64 s.dy 0 (by rfl) (by rfl) false (decide_eq_false (by omega))) ?_
  refine jm (.bool false) ?_
  refine jm (.bool false) ?_
  refine jn (.pointer (some ⟨(w.heap.size + 1), 2, none⟩)) ?_
  refine jf (.int .i64 s.dy) hB1 2 load_int ?_
  refine jv (.bool false) (exec_gtr _ _ _ _ (by rfl) .i64 s.dy 14609 (by rfl) (by rfl) false (decide_eq_false (by omega))) ?_
  refine jm (.bool false) ?_
  refine jm (.bool false) ?_
  refine jn (.pointer (some ⟨(w.heap.size + 1), 3, none⟩)) ?_
  refine jf (.int .i64 s.kd) hB1 3 load_int ?_
  refine jv (.bool true) (exec_lss _ _ _ _ (by rfl) .i64 s.kd 1 (by rfl) (by rfl) true (decide_eq_true (by omega))) ?_
  refine jm (.bool true) ?_
  refine jm (.bool true) ?_
  refine js ?_
  refine js ?_
  refine js ?_
  refine jm (.bool true) ?_
  refine jm (.bool true) ?_
  refine js ?_
  refine js ?_
  refine js ?_
  refine js ?_
  refine jm (.bool true) ?_
  refine jz fun X1 hX1 => ?_
  have hB0 := hB0.bel hX1
  have hB1 := hB1.bel hX1
  have hb := bel_next hb hX1
  clear hX1
  go_upto_region 2 with (fail)
  refine jp ?_
  refine jm (.bool false) ?_
  refine jz fun X2 hX2 => ?_
  have hB0 := hB0.bel hX2
  have hB1 := hB1.bel hX2
  have hb := bel_next hb hX2
  clear hX2
  go_wp2
  go_ret
  exact ⟨by rw [HF.out]; rfl, hb⟩
theorem rfo7 (A : Option Addr) (n c : Nat) (r : List (List UInt8)) (w : World) (hr : Rd w 1 (.slice A n c) n (r.map tx)) (hln : r.length = n) (hn1 : n ≤ 9223372036854775807) (s : Sl) (hs : SlOk s) (h0 : 0 ≤ s.st) (h1 : s.st ≤ (n : Int) - 1) (h2 : 0 ≤ s.sq) (h3 : s.sq ≤ 3999) (h4 : 0 ≤ s.dy) (h5 : s.dy ≤ 14609) (h6 : 1 ≤ s.kd) (h7 : ¬ s.kd ≤ 12) : Calls Tryd.prog 32 #[.agg #[.slice A n c], .agg (slc s).toArray] w fun e w' => e = .returned (.bool (frm r s)) ∧ Since w w' := by
  have hz := zero16
  have HF : Hid (frm r s = false) := by
    unfold frm
    rw [hln]
    refine decide_eq_false ?_
    rintro ⟨a0, a1, a2, a3, a4, a5, a6, a7, a8, a9⟩
    exact h7 a7
  clear hr hln
  go_enter Tryd.func32, Tryd.ntmps32
  go_upto_region 1 with (fail)
  obtain ⟨W0, hW0, hB0, hB1, hb⟩ := start2 w 24 28 [.slice A n c] (slc s)
  rw [← hW0]
  clear hW0
  refine jp ?_
  refine jn (.pointer (some ⟨(w.heap.size + 1), 0, none⟩)) ?_
  refine jf (.int .i64 s.st) hB1 0 load_int ?_
  refine jv (.bool false) (exec_lss _ _ _ _ (by rfl) .i64 s.st 0 (by rfl) (by rfl) false (decide_eq_false (by omega))) ?_
  refine jm (.bool false) ?_
  refine jn (.pointer (some ⟨(w.heap.size + 1), 0, none⟩)) ?_
  refine jf (.int .i64 s.st) hB1 0 load_int ?_
  refine jn (.pointer (some ⟨w.heap.size, 0, none⟩)) ?_
  refine jf (.slice A n c) hB0 0 load_sts ?_
  refine jv (.int .i64 (n : Int)) (exec_lenv Tryd.underlying22 _ (by rfl) A n c (by rfl) _ rfl) ?_
  refine jv (.bool false) (exec_geq _ _ _ _ (by rfl) .i64 s.st (n : Int) (by rfl) (by rfl) false (decide_eq_false (by omega))) ?_
  refine jm (.bool false) ?_
  refine jm (.bool false) ?_
  refine jn (.pointer (some ⟨(w.heap.size + 1), 1, none⟩)) ?_
  refine jf (.int .i64 s.sq) hB1 1 load_int ?_
  refine jv (.bool false) (exec_lss _ _ _ _ (by rfl) .i64 s.sq 0 (by rfl) (by rfl) false (decide_eq_false (by omega))) ?_
  refine jm (.bool false) ?_
  refine jm (.bool false) ?_
  refine jn (.pointer (some ⟨(w.heap.size + 1), 1, none⟩)) ?_
  refine jf (.int .i64 s.sq) hB1 1 load_int ?_
  refine jv (.bool false) (exec_geq _ _ _ _ (by rfl) .i64 s.sq 4000 (by rfl) (by rfl) false (decide_eq_false (by omega))) ?_
  refine jm (.bool false) ?_
  refine jm (.bool false) ?_
  refine jn (.pointer (some ⟨(w.heap.size + 1), 2, none⟩)) ?_
  refine jf (.int .i64 s.dy) hB1 2 load_int ?_
  refine jv (.bool false) (exec_lss _ _ _ _ (by rfl) .i64 s.dy 0 (by rfl) (by rfl) false (decide_eq_false (by omega))) ?_
  refine jm (.bool false) ?_
  refine jm (.bool false) ?_
  refine jn (.pointer (some ⟨(w.heap.size + 1), 2, none⟩)) ?_
  refine jf (.int .i64 s.dy) hB1 2 load_int ?_
  refine jv (.bool false) (exec_gtr _ _ _ _ (by rfl) .i64 s.dy 14609 (by rfl) (by rfl) false (decide_eq_false (by omega))) ?_
  refine jm (.bool false) ?_
  refine jm (.bool false) ?_
  refine jn (.pointer (some ⟨(w.heap.size + 1), 3, none⟩)) ?_
  refine jf (.int .i64 s.kd) hB1 3 load_int ?_
  refine jv (.bool false) (exec_lss _ _ _ _ (by rfl) .i64 s.kd 1 (by rfl) (by rfl) false (decide_eq_false (by omega))) ?_
  refine jm (.bool false) ?_
  refine jm (.bool false) ?_
  refine jn (.pointer (some ⟨(w.heap.size + 1), 3, none⟩)) ?_
  refine jf (.int .i64 s.kd) hB1 3 load_int ?_
  refine jv (.bool true) (exec_gtr _ _ _ _ (by rfl) .i64 s.kd 12 (by rfl) (by rfl) true (decide_eq_true (by omega))) ?_
  refine jm (.bool true) ?_
  refine jm (.bool true) ?_
  refine js ?_
  refine js ?_
  refine js ?_
  refine js ?_
  refine jm (.bool true) ?_
  refine jz fun X1 hX1 => ?_
  have hB0 := hB0.bel hX1
  have hB1 := hB1.bel hX1
  have hb := bel_next hb hX1
  clear hX1
  go_upto_region 2 with (fail)
  refine jp ?_
  refine jm (.bool false) ?_
  refine jz fun X2 hX2 => ?_
  have hB0 := hB0.bel hX2
  have hB1 := hB1.bel hX2
  have hb := bel_next hb hX2
  clear hX2
  go_wp2
  go_ret
  exact ⟨by rw [HF.out]; rfl, hb⟩
theorem rfo8 (A : Option Addr) (n c : Nat) (r : List (List UInt8)) (w : World) (hr : Rd w 1 (.slice A n c) n (r.map tx)) (hln : r.length = n) (hn1 : n ≤ 9223372036854775807) (s : Sl) (hs : SlOk s) (h0 : 0 ≤ s.st) (h1 : s.st ≤ (n : Int) - 1) (h2 : 0 ≤ s.sq) (h3 : s.sq ≤ 3999) (h4 : 0 ≤ s.dy) (h5 : s.dy ≤ 14609) (h6 : 1 ≤ s.kd) (h7 : s.kd ≤ 12) (h8 : ¬ s.bd.length ≤ 4096) : Calls Tryd.prog 32 #[.agg #[.slice A n c], .agg (slc s).toArray] w fun e w' => e = .returned (.bool (frm r s)) ∧ Since w w' := by
  have hz := zero16
  have HF : Hid (frm r s = false) := by
    unfold frm
    rw [hln]
    refine decide_eq_false ?_
    rintro ⟨a0, a1, a2, a3, a4, a5, a6, a7, a8, a9⟩
    exact h8 a8
  clear hr hln
  go_enter Tryd.func32, Tryd.ntmps32
  go_upto_region 1 with (fail)
  obtain ⟨W0, hW0, hB0, hB1, hb⟩ := start2 w 24 28 [.slice A n c] (slc s)
  rw [← hW0]
  clear hW0
  refine jp ?_
  refine jn (.pointer (some ⟨(w.heap.size + 1), 0, none⟩)) ?_
  refine jf (.int .i64 s.st) hB1 0 load_int ?_
  refine jv (.bool false) (exec_lss _ _ _ _ (by rfl) .i64 s.st 0 (by rfl) (by rfl) false (decide_eq_false (by omega))) ?_
  refine jm (.bool false) ?_
  refine jn (.pointer (some ⟨(w.heap.size + 1), 0, none⟩)) ?_
  refine jf (.int .i64 s.st) hB1 0 load_int ?_
  refine jn (.pointer (some ⟨w.heap.size, 0, none⟩)) ?_
  refine jf (.slice A n c) hB0 0 load_sts ?_
  refine jv (.int .i64 (n : Int)) (exec_lenv Tryd.underlying22 _ (by rfl) A n c (by rfl) _ rfl) ?_
  refine jv (.bool false) (exec_geq _ _ _ _ (by rfl) .i64 s.st (n : Int) (by rfl) (by rfl) false (decide_eq_false (by omega))) ?_
  refine jm (.bool false) ?_
  refine jm (.bool false) ?_
  refine jn (.pointer (some ⟨(w.heap.size + 1), 1, none⟩)) ?_
  refine jf (.int .i64 s.sq) hB1 1 load_int ?_
  refine jv (.bool false) (exec_lss _ _ _ _ (by rfl) .i64 s.sq 0 (by rfl) (by rfl) false (decide_eq_false (by omega))) ?_
  refine jm (.bool false) ?_
  refine jm (.bool false) ?_
  refine jn (.pointer (some ⟨(w.heap.size + 1), 1, none⟩)) ?_
  refine jf (.int .i64 s.sq) hB1 1 load_int ?_
  refine jv (.bool false) (exec_geq _ _ _ _ (by rfl) .i64 s.sq 4000 (by rfl) (by rfl) false (decide_eq_false (by omega))) ?_
  refine jm (.bool false) ?_
  refine jm (.bool false) ?_
  refine jn (.pointer (some ⟨(w.heap.size + 1), 2, none⟩)) ?_
  refine jf (.int .i64 s.dy) hB1 2 load_int ?_
  refine jv (.bool false) (exec_lss _ _ _ _ (by rfl) .i64 s.dy 0 (by rfl) (by rfl) false (decide_eq_false (by omega))) ?_
  refine jm (.bool false) ?_
  refine jm (.bool false) ?_
  refine jn (.pointer (some ⟨(w.heap.size + 1), 2, none⟩)) ?_
  refine jf (.int .i64 s.dy) hB1 2 load_int ?_
  refine jv (.bool false) (exec_gtr _ _ _ _ (by rfl) .i64 s.dy 14609 (by rfl) (by rfl) false (decide_eq_false (by omega))) ?_
  refine jm (.bool false) ?_
  refine jm (.bool false) ?_
  refine jn (.pointer (some ⟨(w.heap.size + 1), 3, none⟩)) ?_
  refine jf (.int .i64 s.kd) hB1 3 load_int ?_
  refine jv (.bool false) (exec_lss _ _ _ _ (by rfl) .i64 s.kd 1 (by rfl) (by rfl) false (decide_eq_false (by omega))) ?_
  refine jm (.bool false) ?_
  refine jm (.bool false) ?_
  refine jn (.pointer (some ⟨(w.heap.size + 1), 3, none⟩)) ?_
  refine jf (.int .i64 s.kd) hB1 3 load_int ?_
  refine jv (.bool false) (exec_gtr _ _ _ _ (by rfl) .i64 s.kd 12 (by rfl) (by rfl) false (decide_eq_false (by omega))) ?_
  refine jm (.bool false) ?_
  refine jm (.bool false) ?_
  refine jn (.pointer (some ⟨(w.heap.size + 1), 4, none⟩)) ?_
  refine jf (st s.bd) hB1 4 load_str ?_
  refine jv (.int .i64 (s.bd.length : Int)) (exec_lens Tryd.underlying9 _ (by rfl) s.bd (by rfl) _ rfl) ?_
  refine jv (.bool true) (exec_gtr _ _ _ _ (by rfl) .i64 (s.bd.length : Int) 4096 (by rfl) (by rfl) true (decide_eq_true (by omega))) ?_
  refine jm (.bool true) ?_
  refine jz fun X1 hX1 => ?_
  have hB0 := hB0.bel hX1
  have hB1 := hB1.bel hX1
  have hb := bel_next hb hX1
  clear hX1
  go_upto_region 2 with (fail)
  refine jp ?_
  refine jm (.bool false) ?_
  refine jz fun X2 hX2 => ?_
  have hB0 := hB0.bel hX2
  have hB1 := hB1.bel hX2
  have hb := bel_next hb hX2
  clear hX2
  go_wp2
  go_ret
  exact ⟨by rw [HF.out]; rfl, hb⟩
theorem rfo9 (A : Option Addr) (n c : Nat) (r : List (List UInt8)) (w : World) (hr : Rd w 1 (.slice A n c) n (r.map tx)) (hln : r.length = n) (hn1 : n ≤ 9223372036854775807) (s : Sl) (hs : SlOk s) (h0 : 0 ≤ s.st) (h1 : s.st ≤ (n : Int) - 1) (h2 : 0 ≤ s.sq) (h3 : s.sq ≤ 3999) (h4 : 0 ≤ s.dy) (h5 : s.dy ≤ 14609) (h6 : 1 ≤ s.kd) (h7 : s.kd ≤ 12) (h8 : s.bd.length ≤ 4096) (h9 : 0 < s.sq) : Calls Tryd.prog 32 #[.agg #[.slice A n c], .agg (slc s).toArray] w fun e w' => e = .returned (.bool (frm r s)) ∧ Since w w' := by
  have hz := zero16
  have HF : Hid (frm r s = true) := by
    unfold frm
    rw [hln]
    refine decide_eq_true ?_
    exact ⟨h0, h1, h2, h3, h4, h5, h6, h7, h8, .inl h9⟩
  clear hr hln
  go_enter Tryd.func32, Tryd.ntmps32
  go_upto_region 1 with (fail)
  obtain ⟨W0, hW0, hB0, hB1, hb⟩ := start2 w 24 28 [.slice A n c] (slc s)
  rw [← hW0]
  clear hW0
  refine jp ?_
  refine jn (.pointer (some ⟨(w.heap.size + 1), 0, none⟩)) ?_
  refine jf (.int .i64 s.st) hB1 0 load_int ?_
  refine jv (.bool false) (exec_lss _ _ _ _ (by rfl) .i64 s.st 0 (by rfl) (by rfl) false (decide_eq_false (by omega))) ?_
  refine jm (.bool false) ?_
  refine jn (.pointer (some ⟨(w.heap.size + 1), 0, none⟩)) ?_
  refine jf (.int .i64 s.st) hB1 0 load_int ?_
  refine jn (.pointer (some ⟨w.heap.size, 0, none⟩)) ?_
  refine jf (.slice A n c) hB0 0 load_sts ?_
  refine jv (.int .i64 (n : Int)) (exec_lenv Tryd.underlying22 _ (by rfl) A n c (by rfl) _ rfl) ?_
  refine jv (.bool false) (exec_geq _ _ _ _ (by rfl) .i64 s.st (n : Int) (by rfl) (by rfl) false (decide_eq_false (by omega))) ?_
  refine jm (.bool false) ?_
  refine jm (.bool false) ?_
  refine jn (.pointer (some ⟨(w.heap.size + 1), 1, none⟩)) ?_
  refine jf (.int .i64 s.sq) hB1 1 load_int ?_
  refine jv (.bool false) (exec_lss _ _ _ _ (by rfl) .i64 s.sq 0 (by rfl) (by rfl) false (decide_eq_false (by omega))) ?_
  refine jm (.bool false) ?_
  refine jm (.bool false) ?_
  refine jn (.pointer (some ⟨(w.heap.size + 1), 1, none⟩)) ?_
  refine jf (.int .i64 s.sq) hB1 1 load_int ?_
  refine jv (.bool false) (exec_geq _ _ _ _ (by rfl) .i64 s.sq 4000 (by rfl) (by rfl) false (decide_eq_false (by omega))) ?_
  refine jm (.bool false) ?_
  refine jm (.bool false) ?_
  refine jn (.pointer (some ⟨(w.heap.size + 1), 2, none⟩)) ?_
  refine jf (.int .i64 s.dy) hB1 2 load_int ?_
  refine jv (.bool false) (exec_lss _ _ _ _ (by rfl) .i64 s.dy 0 (by rfl) (by rfl) false (decide_eq_false (by omega))) ?_
  refine jm (.bool false) ?_
  refine jm (.bool false) ?_
  refine jn (.pointer (some ⟨(w.heap.size + 1), 2, none⟩)) ?_
  refine jf (.int .i64 s.dy) hB1 2 load_int ?_
  refine jv (.bool false) (exec_gtr _ _ _ _ (by rfl) .i64 s.dy 14609 (by rfl) (by rfl) false (decide_eq_false (by omega))) ?_
  refine jm (.bool false) ?_
  refine jm (.bool false) ?_
  refine jn (.pointer (some ⟨(w.heap.size + 1), 3, none⟩)) ?_
  refine jf (.int .i64 s.kd) hB1 3 load_int ?_
  refine jv (.bool false) (exec_lss _ _ _ _ (by rfl) .i64 s.kd 1 (by rfl) (by rfl) false (decide_eq_false (by omega))) ?_
  refine jm (.bool false) ?_
  refine jm (.bool false) ?_
  refine jn (.pointer (some ⟨(w.heap.size + 1), 3, none⟩)) ?_
  refine jf (.int .i64 s.kd) hB1 3 load_int ?_
  refine jv (.bool false) (exec_gtr _ _ _ _ (by rfl) .i64 s.kd 12 (by rfl) (by rfl) false (decide_eq_false (by omega))) ?_
  refine jm (.bool false) ?_
  refine jm (.bool false) ?_
  refine jn (.pointer (some ⟨(w.heap.size + 1), 4, none⟩)) ?_
  refine jf (st s.bd) hB1 4 load_str ?_
  refine jv (.int .i64 (s.bd.length : Int)) (exec_lens Tryd.underlying9 _ (by rfl) s.bd (by rfl) _ rfl) ?_
  refine jv (.bool false) (exec_gtr _ _ _ _ (by rfl) .i64 (s.bd.length : Int) 4096 (by rfl) (by rfl) false (decide_eq_false (by omega))) ?_
  refine jm (.bool false) ?_
  refine jz fun X1 hX1 => ?_
  have hB0 := hB0.bel hX1
  have hB1 := hB1.bel hX1
  have hb := bel_next hb hX1
  clear hX1
  go_upto_region 3 with (fail)
  refine jp ?_
  refine jn (.pointer (some ⟨(w.heap.size + 1), 1, none⟩)) ?_
  refine jf (.int .i64 s.sq) hB1 1 load_int ?_
  refine jv (.bool true) (exec_gtr _ _ _ _ (by rfl) .i64 s.sq 0 (by rfl) (by rfl) true (decide_eq_true (by omega))) ?_
  refine jm (.bool true) ?_
  refine js ?_
  refine js ?_
  refine js ?_
  refine js ?_
  refine jm (.bool true) ?_
  refine jm (.bool true) ?_
  refine jz fun X2 hX2 => ?_
  have hB0 := hB0.bel hX2
  have hB1 := hB1.bel hX2
  have hb := bel_next hb hX2
  clear hX2
  go_wp2
  go_ret
  exact ⟨by rw [HF.out]; rfl, hb⟩
theorem rfo10 (A : Option Addr) (n c : Nat) (r : List (List UInt8)) (w : World) (hr : Rd w 1 (.slice A n c) n (r.map tx)) (hln : r.length = n) (hn1 : n ≤ 9223372036854775807) (s : Sl) (hs : SlOk s) (h0 : 0 ≤ s.st) (h1 : s.st ≤ (n : Int) - 1) (h2 : 0 ≤ s.sq) (h3 : s.sq ≤ 3999) (h4 : 0 ≤ s.dy) (h5 : s.dy ≤ 14609) (h6 : 1 ≤ s.kd) (h7 : s.kd ≤ 12) (h8 : s.bd.length ≤ 4096) (h9 : s.sq ≤ 0) (h10 : s.pv = z16b) : Calls Tryd.prog 32 #[.agg #[.slice A n c], .agg (slc s).toArray] w fun e w' => e = .returned (.bool (frm r s)) ∧ Since w w' := by
  have hz := zero16
  have HF : Hid (frm r s = true) := by
    unfold frm
    rw [hln]
    refine decide_eq_true ?_
    exact ⟨h0, h1, h2, h3, h4, h5, h6, h7, h8, .inr h10⟩
  have HP : Hid ((s.pv == z16b) = true) := eqs_t h10
  clear h10
  clear hr hln
  go_enter Tryd.func32, Tryd.ntmps32
  go_upto_region 1 with (fail)
  obtain ⟨W0, hW0, hB0, hB1, hb⟩ := start2 w 24 28 [.slice A n c] (slc s)
  rw [← hW0]
  clear hW0
  refine jp ?_
  refine jn (.pointer (some ⟨(w.heap.size + 1), 0, none⟩)) ?_
  refine jf (.int .i64 s.st) hB1 0 load_int ?_
  refine jv (.bool false) (exec_lss _ _ _ _ (by rfl) .i64 s.st 0 (by rfl) (by rfl) false (decide_eq_false (by omega))) ?_
  refine jm (.bool false) ?_
  refine jn (.pointer (some ⟨(w.heap.size + 1), 0, none⟩)) ?_
  refine jf (.int .i64 s.st) hB1 0 load_int ?_
  refine jn (.pointer (some ⟨w.heap.size, 0, none⟩)) ?_
  refine jf (.slice A n c) hB0 0 load_sts ?_
  refine jv (.int .i64 (n : Int)) (exec_lenv Tryd.underlying22 _ (by rfl) A n c (by rfl) _ rfl) ?_
  refine jv (.bool false) (exec_geq _ _ _ _ (by rfl) .i64 s.st (n : Int) (by rfl) (by rfl) false (decide_eq_false (by omega))) ?_
  refine jm (.bool false) ?_
  refine jm (.bool false) ?_
  refine jn (.pointer (some ⟨(w.heap.size + 1), 1, none⟩)) ?_
  refine jf (.int .i64 s.sq) hB1 1 load_int ?_
  refine jv (.bool false) (exec_lss _ _ _ _ (by rfl) .i64 s.sq 0 (by rfl) (by rfl) false (decide_eq_false (by omega))) ?_
  refine jm (.bool false) ?_
  refine jm (.bool false) ?_
  refine jn (.pointer (some ⟨(w.heap.size + 1), 1, none⟩)) ?_
  refine jf (.int .i64 s.sq) hB1 1 load_int ?_
  refine jv (.bool false) (exec_geq _ _ _ _ (by rfl) .i64 s.sq 4000 (by rfl) (by rfl) false (decide_eq_false (by omega))) ?_
  refine jm (.bool false) ?_
  refine jm (.bool false) ?_
  refine jn (.pointer (some ⟨(w.heap.size + 1), 2, none⟩)) ?_
  refine jf (.int .i64 s.dy) hB1 2 load_int ?_
  refine jv (.bool false) (exec_lss _ _ _ _ (by rfl) .i64 s.dy 0 (by rfl) (by rfl) false (decide_eq_false (by omega))) ?_
  refine jm (.bool false) ?_
  refine jm (.bool false) ?_
  refine jn (.pointer (some ⟨(w.heap.size + 1), 2, none⟩)) ?_
  refine jf (.int .i64 s.dy) hB1 2 load_int ?_
  refine jv (.bool false) (exec_gtr _ _ _ _ (by rfl) .i64 s.dy 14609 (by rfl) (by rfl) false (decide_eq_false (by omega))) ?_
  refine jm (.bool false) ?_
  refine jm (.bool false) ?_
  refine jn (.pointer (some ⟨(w.heap.size + 1), 3, none⟩)) ?_
  refine jf (.int .i64 s.kd) hB1 3 load_int ?_
  refine jv (.bool false) (exec_lss _ _ _ _ (by rfl) .i64 s.kd 1 (by rfl) (by rfl) false (decide_eq_false (by omega))) ?_
  refine jm (.bool false) ?_
  refine jm (.bool false) ?_
  refine jn (.pointer (some ⟨(w.heap.size + 1), 3, none⟩)) ?_
  refine jf (.int .i64 s.kd) hB1 3 load_int ?_
  refine jv (.bool false) (exec_gtr _ _ _ _ (by rfl) .i64 s.kd 12 (by rfl) (by rfl) false (decide_eq_false (by omega))) ?_
  refine jm (.bool false) ?_
  refine jm (.bool false) ?_
  refine jn (.pointer (some ⟨(w.heap.size + 1), 4, none⟩)) ?_
  refine jf (st s.bd) hB1 4 load_str ?_
  refine jv (.int .i64 (s.bd.length : Int)) (exec_lens Tryd.underlying9 _ (by rfl) s.bd (by rfl) _ rfl) ?_
  refine jv (.bool false) (exec_gtr _ _ _ _ (by rfl) .i64 (s.bd.length : Int) 4096 (by rfl) (by rfl) false (decide_eq_false (by omega))) ?_
  refine jm (.bool false) ?_
  refine jz fun X1 hX1 => ?_
  have hB0 := hB0.bel hX1
  have hB1 := hB1.bel hX1
  have hb := bel_next hb hX1
  clear hX1
  go_upto_region 3 with (fail)
  refine jp ?_
  refine jn (.pointer (some ⟨(w.heap.size + 1), 1, none⟩)) ?_
  refine jf (.int .i64 s.sq) hB1 1 load_int ?_
  refine jv (.bool false) (exec_gtr _ _ _ _ (by rfl) .i64 s.sq 0 (by rfl) (by rfl) false (decide_eq_false (by omega))) ?_
  refine jm (.bool false) ?_
  refine jn (.pointer (some ⟨(w.heap.size + 1), 5, none⟩)) ?_
  refine jg (.agg (s.pv.map B8).toArray) (fun X hX hF => exec_inr 26 _ (by rfl) (w.heap.size + 1) 5 (s.pv.map B8) (by rfl) Tryd.underlying26 rfl X (hB1.bel hX) (slc_pv hs) (info_d16 hs.pv)) ?_
  refine jv (.agg (z16b.map B8).toArray) (exec_bd0 (by rfl)) ?_
  refine jv (.bool true) (exec_eqdg (.tmp 57) (.tmp 58) _ (by rfl) s.pv z16b hs.pv rfl (by rfl) (by rfl) _ HP.out) ?_
  refine jm (.bool true) ?_
  refine jm (.bool true) ?_
  refine jz fun X2 hX2 => ?_
  have hB0 := hB0.bel hX2
  have hB1 := hB1.bel hX2
  have hb := bel_next hb hX2
  clear hX2
  go_wp2
  go_ret
  exact ⟨by rw [HF.out]; rfl, hb⟩
theorem rfo11 (A : Option Addr) (n c : Nat) (r : List (List UInt8)) (w : World) (hr : Rd w 1 (.slice A n c) n (r.map tx)) (hln : r.length = n) (hn1 : n ≤ 9223372036854775807) (s : Sl) (hs : SlOk s) (h0 : 0 ≤ s.st) (h1 : s.st ≤ (n : Int) - 1) (h2 : 0 ≤ s.sq) (h3 : s.sq ≤ 3999) (h4 : 0 ≤ s.dy) (h5 : s.dy ≤ 14609) (h6 : 1 ≤ s.kd) (h7 : s.kd ≤ 12) (h8 : s.bd.length ≤ 4096) (h9 : s.sq ≤ 0) (h10 : ¬ s.pv = z16b) : Calls Tryd.prog 32 #[.agg #[.slice A n c], .agg (slc s).toArray] w fun e w' => e = .returned (.bool (frm r s)) ∧ Since w w' := by
  have hz := zero16
  have HF : Hid (frm r s = false) := by
    unfold frm
    rw [hln]
    refine decide_eq_false ?_
    rintro ⟨a0, a1, a2, a3, a4, a5, a6, a7, a8, a9⟩
    rcases a9 with a9 | a9
    · omega
    · exact h10 a9
  have HP : Hid ((s.pv == z16b) = false) := eqs_f h10
  clear h10
  clear hr hln
  go_enter Tryd.func32, Tryd.ntmps32
  go_upto_region 1 with (fail)
  obtain ⟨W0, hW0, hB0, hB1, hb⟩ := start2 w 24 28 [.slice A n c] (slc s)
  rw [← hW0]
  clear hW0
  refine jp ?_
  refine jn (.pointer (some ⟨(w.heap.size + 1), 0, none⟩)) ?_
  refine jf (.int .i64 s.st) hB1 0 load_int ?_
  refine jv (.bool false) (exec_lss _ _ _ _ (by rfl) .i64 s.st 0 (by rfl) (by rfl) false (decide_eq_false (by omega))) ?_
  refine jm (.bool false) ?_
  refine jn (.pointer (some ⟨(w.heap.size + 1), 0, none⟩)) ?_
  refine jf (.int .i64 s.st) hB1 0 load_int ?_
  refine jn (.pointer (some ⟨w.heap.size, 0, none⟩)) ?_
  refine jf (.slice A n c) hB0 0 load_sts ?_
  refine jv (.int .i64 (n : Int)) (exec_lenv Tryd.underlying22 _ (by rfl) A n c (by rfl) _ rfl) ?_
  refine jv (.bool false) (exec_geq _ _ _ _ (by rfl) .i64 s.st (n : Int) (by rfl) (by rfl) false (decide_eq_false (by omega))) ?_
  refine jm (.bool false) ?_
  refine jm (.bool false) ?_
  refine jn (.pointer (some ⟨(w.heap.size + 1), 1, none⟩)) ?_
  refine jf (.int .i64 s.sq) hB1 1 load_int ?_
  refine jv (.bool false) (exec_lss _ _ _ _ (by rfl) .i64 s.sq 0 (by rfl) (by rfl) false (decide_eq_false (by omega))) ?_
  refine jm (.bool false) ?_
  refine jm (.bool false) ?_
  refine jn (.pointer (some ⟨(w.heap.size + 1), 1, none⟩)) ?_
  refine jf (.int .i64 s.sq) hB1 1 load_int ?_
  refine jv (.bool false) (exec_geq _ _ _ _ (by rfl) .i64 s.sq 4000 (by rfl) (by rfl) false (decide_eq_false (by omega))) ?_
  refine jm (.bool false) ?_
  refine jm (.bool false) ?_
  refine jn (.pointer (some ⟨(w.heap.size + 1), 2, none⟩)) ?_
  refine jf (.int .i64 s.dy) hB1 2 load_int ?_
  refine jv (.bool false) (exec_lss _ _ _ _ (by rfl) .i64 s.dy 0 (by rfl) (by rfl) false (decide_eq_false (by omega))) ?_
  refine jm (.bool false) ?_
  refine jm (.bool false) ?_
  refine jn (.pointer (some ⟨(w.heap.size + 1), 2, none⟩)) ?_
  refine jf (.int .i64 s.dy) hB1 2 load_int ?_
  refine jv (.bool false) (exec_gtr _ _ _ _ (by rfl) .i64 s.dy 14609 (by rfl) (by rfl) false (decide_eq_false (by omega))) ?_
  refine jm (.bool false) ?_
  refine jm (.bool false) ?_
  refine jn (.pointer (some ⟨(w.heap.size + 1), 3, none⟩)) ?_
  refine jf (.int .i64 s.kd) hB1 3 load_int ?_
  refine jv (.bool false) (exec_lss _ _ _ _ (by rfl) .i64 s.kd 1 (by rfl) (by rfl) false (decide_eq_false (by omega))) ?_
  refine jm (.bool false) ?_
  refine jm (.bool false) ?_
  refine jn (.pointer (some ⟨(w.heap.size + 1), 3, none⟩)) ?_
  refine jf (.int .i64 s.kd) hB1 3 load_int ?_
  refine jv (.bool false) (exec_gtr _ _ _ _ (by rfl) .i64 s.kd 12 (by rfl) (by rfl) false (decide_eq_false (by omega))) ?_
  refine jm (.bool false) ?_
  refine jm (.bool false) ?_
  refine jn (.pointer (some ⟨(w.heap.size + 1), 4, none⟩)) ?_
  refine jf (st s.bd) hB1 4 load_str ?_
  refine jv (.int .i64 (s.bd.length : Int)) (exec_lens Tryd.underlying9 _ (by rfl) s.bd (by rfl) _ rfl) ?_
  refine jv (.bool false) (exec_gtr _ _ _ _ (by rfl) .i64 (s.bd.length : Int) 4096 (by rfl) (by rfl) false (decide_eq_false (by omega))) ?_
  refine jm (.bool false) ?_
  refine jz fun X1 hX1 => ?_
  have hB0 := hB0.bel hX1
  have hB1 := hB1.bel hX1
  have hb := bel_next hb hX1
  clear hX1
  go_upto_region 3 with (fail)
  refine jp ?_
  refine jn (.pointer (some ⟨(w.heap.size + 1), 1, none⟩)) ?_
  refine jf (.int .i64 s.sq) hB1 1 load_int ?_
  refine jv (.bool false) (exec_gtr _ _ _ _ (by rfl) .i64 s.sq 0 (by rfl) (by rfl) false (decide_eq_false (by omega))) ?_
  refine jm (.bool false) ?_
  refine jn (.pointer (some ⟨(w.heap.size + 1), 5, none⟩)) ?_
  refine jg (.agg (s.pv.map B8).toArray) (fun X hX hF => exec_inr 26 _ (by rfl) (w.heap.size + 1) 5 (s.pv.map B8) (by rfl) Tryd.underlying26 rfl X (hB1.bel hX) (slc_pv hs) (info_d16 hs.pv)) ?_
  refine jv (.agg (z16b.map B8).toArray) (exec_bd0 (by rfl)) ?_
  refine jv (.bool false) (exec_eqdg (.tmp 57) (.tmp 58) _ (by rfl) s.pv z16b hs.pv rfl (by rfl) (by rfl) _ HP.out) ?_
  refine jm (.bool false) ?_
  refine jm (.bool false) ?_
  refine jz fun X2 hX2 => ?_
  have hB0 := hB0.bel hX2
  have hB1 := hB1.bel hX2
  have hb := bel_next hb hX2
  clear hX2
  go_wp2
  go_ret
  exact ⟨by rw [HF.out]; rfl, hb⟩
theorem rfoC (A : Option Addr) (n c : Nat) (r : List (List UInt8)) (w : World) (hr : Rd w 1 (.slice A n c) n (r.map tx)) (hln : r.length = n) (hn1 : n ≤ 9223372036854775807) (s : Sl) (hs : SlOk s) : Calls Tryd.prog 32 #[.agg #[.slice A n c], .agg (slc s).toArray] w fun e w' => e = .returned (.bool (frm r s)) ∧ Since w w' := by
  by_cases h0 : 0 ≤ s.st
  rotate_left
  · exact rfo0 A n c r w hr hln hn1 s hs h0
  by_cases h1 : s.st ≤ (n : Int) - 1
  rotate_left
  · exact rfo1 A n c r w hr hln hn1 s hs h0 h1
  by_cases h2 : 0 ≤ s.sq
  rotate_left
  · exact rfo2 A n c r w hr hln hn1 s hs h0 h1 h2
  by_cases h3 : s.sq ≤ 3999
  rotate_left
  · exact rfo3 A n c r w hr hln hn1 s hs h0 h1 h2 h3
  by_cases h4 : 0 ≤ s.dy
  rotate_left
  · exact rfo4 A n c r w hr hln hn1 s hs h0 h1 h2 h3 h4
  by_cases h5 : s.dy ≤ 14609
  rotate_left
  · exact rfo5 A n c r w hr hln hn1 s hs h0 h1 h2 h3 h4 h5
  by_cases h6 : 1 ≤ s.kd
  rotate_left
  · exact rfo6 A n c r w hr hln hn1 s hs h0 h1 h2 h3 h4 h5 h6
  by_cases h7 : s.kd ≤ 12
  rotate_left
  · exact rfo7 A n c r w hr hln hn1 s hs h0 h1 h2 h3 h4 h5 h6 h7
  by_cases h8 : s.bd.length ≤ 4096
  rotate_left
  · exact rfo8 A n c r w hr hln hn1 s hs h0 h1 h2 h3 h4 h5 h6 h7 h8
  by_cases h9 : 0 < s.sq
  · exact rfo9 A n c r w hr hln hn1 s hs h0 h1 h2 h3 h4 h5 h6 h7 h8 h9
  · by_cases h10 : s.pv = z16b
    · exact rfo10 A n c r w hr hln hn1 s hs h0 h1 h2 h3 h4 h5 h6 h7 h8 (by omega) h10
    · exact rfo11 A n c r w hr hln hn1 s hs h0 h1 h2 h3 h4 h5 h6 h7 h8 (by omega) h10
end Go.Proofs.YthinopepcmidmaaDoor
