/-
  seal: mark, formed.
-/
import Derived.Test.YthinopepcmidmaaDoorSd48
import Derived.Test.YthinopepcmidmaaDoorWk02p
set_option linter.unusedSimpArgs false
set_option linter.unusedVariables false
set_option maxRecDepth 100000
set_option maxHeartbeats 1600000
namespace Go.Proofs.YthinopepcmidmaaDoor
open Go.RowKit
theorem zeroSl : ∀ w : World, (zeroValue 28).run Tryd.prog w = .ok (.agg (slc sl0).toArray) w := fun _ => by kernel_rfl
theorem exec_bd0 {f : Operand → Value} {o : Oper} (ho : o.op = .build 26 #[]) (X : World) : (execOp f o).run Tryd.prog X = .ok (.value (.agg (z16b.map B8).toArray)) X := by
  have hz := zero16
  unfold execOp
  simp only [ho]
  go_simp
  rfl
theorem exec_bs0 {f : Operand → Value} {o : Oper} (ho : o.op = .build 28 #[]) (X : World) : (execOp f o).run Tryd.prog X = .ok (.value (.agg (slc sl0).toArray)) X := by
  have hz := zeroSl
  unfold execOp
  simp only [ho]
  go_simp
theorem mk_len (k : List UInt8) (s : Sl) : (mk48 k s).length = 16 := by unfold mk48; rw [List.length_take, hmac_len]; rfl
theorem nm_len (s : Sl) : (nm48 s).length = 16 := by unfold nm48; rw [List.length_take, sha_len]; rfl
theorem pts_le {s : Sl} (hs : SlOk s) (hb : s.bd.length ≤ 5000) : ∀ x ∈ pts s, x.length ≤ 5000 := by
  have h9 : ∀ n : Int, (encI n).length ≤ 5000 := fun n => Nat.le_trans (encI_length n).2 (by decide)
  intro x hx
  unfold pts at hx
  simp only [List.mem_cons, List.not_mem_nil, or_false] at hx
  rcases hx with rfl | rfl | rfl | rfl | rfl | rfl | rfl
  · exact h9 _
  · exact h9 _
  · exact h9 _
  · exact h9 _
  · exact h9 _
  · exact hb
  · rw [hs.pv]
    decide
theorem Sts.own {l : List (List UInt8)} {v : Value} {X : World} {B : Nat} (h : X.ownsRow B 9 1 v l.length (l.map tx)) : Sts l v X := by
  have hr := Rd.of_own h
  obtain ⟨A, c, rfl, _, _⟩ := hr.form
  exact ⟨A, c, rfl, hr⟩
theorem macV (key : List UInt8) (ss : List (List UInt8)) (v : Value) (w : World) (hv : Sts ss v w) (hn : ss.length ≤ 12) (hs : ∀ s ∈ ss, s.length ≤ 5000) (hkl : key.length ≤ 1048576) (hK : KK w) : Calls Tryd.prog 39 #[.string ⟨key.toArray⟩, v] w fun e w' => e = .returned (.agg (((hmac key (msg ss)).take 16).map B8).toArray) ∧ Since w w' := by
  obtain ⟨A, c, rfl, hr⟩ := hv
  exact macC key A ss.length c ss w hr hn hs hkl hK
theorem ofV (tag : Int) (ss : List (List UInt8)) (v : Value) (w : World) (hv : Sts ss v w) (hn : ss.length ≤ 12) (hs : ∀ s ∈ ss, s.length ≤ 5000) (hK : KK w) : Calls Tryd.prog 36 #[.int .i64 tag, v] w fun e w' => e = .returned (.agg (((sha (inp tag ss)).take 16).map B8).toArray) ∧ Since w w' := by
  obtain ⟨A, c, rfl, hr⟩ := hv
  exact ofC tag A ss.length c ss w hr hn hs hK
theorem slc_put {s : Sl} (h : SlOk s) {x : List UInt8} (hx : x.length = 16) : (slc s).take 21 ++ x.map B8 ++ (slc s).drop (21 + (x.map B8).length) = slc (s.put x) := by
  have e1 : (slc s).take 21 = [Value.int .i64 s.st, .int .i64 s.sq, .int .i64 s.dy, .int .i64 s.kd, .string ⟨s.bd.toArray⟩] ++ s.pv.map B8 := by
    show [Value.int .i64 s.st, .int .i64 s.sq, .int .i64 s.dy, .int .i64 s.kd, .string ⟨s.bd.toArray⟩] ++ (s.pv.map B8 ++ s.sl.map B8).take 16 = _
    rw [List.take_left' (by rw [List.length_map, h.pv])]
  have e2 : (slc s).drop (21 + (x.map B8).length) = [] := List.drop_eq_nil_of_le (by rw [h.len, List.length_map, hx]; decide)
  rw [e1, e2, List.append_nil, List.append_assoc]
  rfl
theorem SlOk.put {s : Sl} (h : SlOk s) {x : List UInt8} (hx : x.length = 16) : SlOk (s.put x) := ⟨h.st, h.sq, h.dy, h.kd, h.bd, h.pv, hx⟩
theorem ok0 : SlOk sl0 := ⟨by decide, by decide, by decide, by decide, by decide, by decide, by decide⟩
theorem slS_ok {r : List (List UInt8)} {s : Sl} (h : SlOk s) : SlOk (slS mk48 r s) := by
  unfold slS
  split
  · exact h.put (mk_len _ _)
  · exact ok0
theorem smkC (k : List UInt8) (s : Sl) (w : World) (hs : SlOk s) (hsb : s.bd.length ≤ 5000) (hkl : k.length ≤ 1048576) (hK : KK w) : Calls Tryd.prog 31 #[.string ⟨k.toArray⟩, .agg (slc s).toArray] w fun e w' => e = .returned (.agg ((mk48 k s).map B8).toArray) ∧ Since w w' := by
  have hz := zero16
  have HKK : Hid (∀ X, Since w X → KK X) := fun X h => hK.below h hK.1
  clear hK
  go_enter Tryd.func31, Tryd.ntmps31
  go_upto_region 1 with (fail)
  obtain ⟨W0, hW0, hB0, hB1, hb⟩ := start2 w 28 26 (slc s) z16
  rw [← hW0]
  clear hW0
  refine lx_plain_to 4 [none, none, some (Sts (pts s))] (lasts_none (lasts_none (lasts_some (Sts.lasts _) (lasts_nil)))) ?_
  simp only [its, List.take, List.drop, Nat.zero_add, Nat.reduceAdd]
  refine jm (st k) ?_
  refine jg (.agg (slc s).toArray) (fun X hX hF => exec_lda 28 _ (by rfl) w.heap.size (by rfl) Tryd.underlying28 rfl X (hB0.bel hX) (info_slc hs)) ?_
  refine jk (fun X hX hF => (sptC s X hs).mono fun e X' ⟨v, h1, h2, h3⟩ => ⟨v, h1, Sts.own h2, h3⟩) ?_
  intro v7
  refine jc (.agg ((mk48 k s).map B8).toArray) (fun X hX hF => macV k (pts s) v7 X (hF _ _ List.mem_cons_self rfl) (by show 7 ≤ 12; decide) (pts_le hs hsb) hkl (HKK.out X (bel_next hb hX))) ?_
  refine lx_nil ?_
  intro X1 hX1 hF
  have hv7 := hF _ _ List.mem_cons_self
  have hB0 := hB0.bel hX1
  have hB1 := hB1.bel hX1
  have hb := bel_next hb hX1
  clear hF hX1
  refine op_store_blk rfl 26 (.tmp 4) (.tmp 8) rfl (w.heap.size + 1) 26 _ hB1 rfl ((mk48 k s).map B8) rfl (by rw [List.length_map, mk_len]; rfl) (B8s_one _) (info_d16 (mk_len _ _)) ?_
  intro w9 hR9 hO9 hB9 hs9
  have hb9 := hB9 _ _ hb (by omega)
  clear hO9 hB9
  go_wp2
  refine post_cell rfl rfl (by rfl) Tryd.underlying26 rfl hR9 (info_d16 (mk_len _ _)) ⟨rfl, hb9⟩
theorem sfo0 (A : Option Addr) (n c : Nat) (r : List (List UInt8)) (w : World) (hr : Rd w 1 (.slice A n c) n (r.map tx)) (hln : r.length = n) (hn1 : n ≤ 9223372036854775807) (s : Sl) (hs : SlOk s) (h0 : ¬ (0 ≤ s.st ∧ s.st ≤ (n : Int) - 1)) : Calls Tryd.prog 30 #[.agg #[.slice A n c], .agg (slc s).toArray] w fun e w' => e = .returned (.bool (frm r s)) ∧ Since w w' := by
  have hz := zero16
  have HF : Hid (frm r s = false) := by
    unfold frm
    rw [hln]
    refine decide_eq_false ?_
    rintro ⟨a0, a1, a2, a3, a4, a5, a6, a7, a8, a9⟩
    exact h0 ⟨a0, a1⟩
  have HW0 : Hid (wiB s.st 0 ((n : Int) - 1) = false) := by unfold wiB; exact decide_eq_false h0
  go_enter Tryd.func30, Tryd.ntmps30
  go_upto_region 1 with (fail)
  obtain ⟨W0, hW0, hB0, hB1, hb⟩ := start2 w 24 28 [.slice A n c] (slc s)
  rw [← hW0]
  clear hW0
  refine jp ?_
  refine jn (.pointer (some ⟨(w.heap.size + 1), 0, none⟩)) ?_
  refine jf (.int .i64 s.st) hB1 0 load_int ?_
  refine jn (.pointer (some ⟨w.heap.size, 0, none⟩)) ?_
  refine jf (.slice A n c) hB0 0 load_sts ?_
  refine jv (.int .i64 (n : Int)) (exec_lenv Tryd.underlying22 _ (by rfl) A n c (by rfl) _ rfl) ?_
  refine jv (.int .i64 ((n : Int) - 1)) (exec_sub _ _ _ _ (by rfl) (n : Int) 1 ((n : Int) - 1) (by rfl) (by rfl) (by omega) (by omega) (by omega)) ?_
  refine jc (.bool false) (fun X hX hF => mo (wiC s.st 0 ((n : Int) - 1) X) (by rw [HW0.out])) ?_
  refine jm (.bool false) ?_
  refine js ?_
  refine js ?_
  refine js ?_
  refine jm (.bool false) ?_
  refine jm (.bool false) ?_
  refine js ?_
  refine js ?_
  refine js ?_
  refine jm (.bool false) ?_
  refine jm (.bool false) ?_
  refine js ?_
  refine js ?_
  refine js ?_
  refine jm (.bool false) ?_
  refine jm (.bool false) ?_
  refine js ?_
  refine js ?_
  refine js ?_
  refine js ?_
  refine jm (.bool false) ?_
  refine jm (.bool false) ?_
  refine js ?_
  refine js ?_
  refine js ?_
  refine js ?_
  refine js ?_
  refine js ?_
  refine js ?_
  refine js ?_
  refine js ?_
  refine jm (.bool false) ?_
  refine jm (.bool false) ?_
  refine jz fun X1 hX1 => ?_
  have hB0 := hB0.bel hX1
  have hB1 := hB1.bel hX1
  have hb := bel_next hb hX1
  clear hX1
  go_wp2
  go_ret
  exact ⟨by rw [HF.out]; rfl, hb⟩
theorem sfo1 (A : Option Addr) (n c : Nat) (r : List (List UInt8)) (w : World) (hr : Rd w 1 (.slice A n c) n (r.map tx)) (hln : r.length = n) (hn1 : n ≤ 9223372036854775807) (s : Sl) (hs : SlOk s) (h0 : (0 ≤ s.st ∧ s.st ≤ (n : Int) - 1)) (h1 : ¬ (0 ≤ s.sq ∧ s.sq ≤ 3999)) : Calls Tryd.prog 30 #[.agg #[.slice A n c], .agg (slc s).toArray] w fun e w' => e = .returned (.bool (frm r s)) ∧ Since w w' := by
  have hz := zero16
  have HF : Hid (frm r s = false) := by
    unfold frm
    rw [hln]
    refine decide_eq_false ?_
    rintro ⟨a0, a1, a2, a3, a4, a5, a6, a7, a8, a9⟩
    exact h1 ⟨a2, a3⟩
  have HW0 : Hid (wiB s.st 0 ((n : Int) - 1) = true) := by unfold wiB; exact decide_eq_true h0
  have HW1 : Hid (wiB s.sq 0 3999 = false) := by unfold wiB; exact decide_eq_false h1
  go_enter Tryd.func30, Tryd.ntmps30
  go_upto_region 1 with (fail)
  obtain ⟨W0, hW0, hB0, hB1, hb⟩ := start2 w 24 28 [.slice A n c] (slc s)
  rw [← hW0]
  clear hW0
  refine jp ?_
  refine jn (.pointer (some ⟨(w.heap.size + 1), 0, none⟩)) ?_
  refine jf (.int .i64 s.st) hB1 0 load_int ?_
  refine jn (.pointer (some ⟨w.heap.size, 0, none⟩)) ?_
  refine jf (.slice A n c) hB0 0 load_sts ?_
  refine jv (.int .i64 (n : Int)) (exec_lenv Tryd.underlying22 _ (by rfl) A n c (by rfl) _ rfl) ?_
  refine jv (.int .i64 ((n : Int) - 1)) (exec_sub _ _ _ _ (by rfl) (n : Int) 1 ((n : Int) - 1) (by rfl) (by rfl) (by omega) (by omega) (by omega)) ?_
  refine jc (.bool true) (fun X hX hF => mo (wiC s.st 0 ((n : Int) - 1) X) (by rw [HW0.out])) ?_
  refine jm (.bool true) ?_
  refine jn (.pointer (some ⟨(w.heap.size + 1), 1, none⟩)) ?_
  refine jf (.int .i64 s.sq) hB1 1 load_int ?_
  refine jc (.bool false) (fun X hX hF => mo (wiC s.sq 0 3999 X) (by rw [HW1.out])) ?_
  refine jm (.bool false) ?_
  refine jm (.bool false) ?_
  refine js ?_
  refine js ?_
  refine js ?_
  refine jm (.bool false) ?_
  refine jm (.bool false) ?_
  refine js ?_
  refine js ?_
  refine js ?_
  refine jm (.bool false) ?_
  refine jm (.bool false) ?_
  refine js ?_
  refine js ?_
  refine js ?_
  refine js ?_
  refine jm (.bool false) ?_
  refine jm (.bool false) ?_
  refine js ?_
  refine js ?_
  refine js ?_
  refine js ?_
  refine js ?_
  refine js ?_
  refine js ?_
  refine js ?_
  refine js ?_
  refine jm (.bool false) ?_
  refine jm (.bool false) ?_
  refine jz fun X1 hX1 => ?_
  have hB0 := hB0.bel hX1
  have hB1 := hB1.bel hX1
  have hb := bel_next hb hX1
  clear hX1
  go_wp2
  go_ret
  exact ⟨by rw [HF.out]; rfl, hb⟩
theorem sfo2 (A : Option Addr) (n c : Nat) (r : List (List UInt8)) (w : World) (hr : Rd w 1 (.slice A n c) n (r.map tx)) (hln : r.length = n) (hn1 : n ≤ 9223372036854775807) (s : Sl) (hs : SlOk s) (h0 : (0 ≤ s.st ∧ s.st ≤ (n : Int) - 1)) (h1 : (0 ≤ s.sq ∧ s.sq ≤ 3999)) (h2 : ¬ (0 ≤ s.dy ∧ s.dy ≤ 14609)) : Calls Tryd.prog 30 #[.agg #[.slice A n c], .agg (slc s).toArray] w fun e w' => e = .returned (.bool (frm r s)) ∧ Since w w' := by
  have hz := zero16
  have HF : Hid (frm r s = false) := by
    unfold frm
    rw [hln]
    refine decide_eq_false ?_
    rintro ⟨a0, a1, a2, a3, a4, a5, a6, a7, a8, a9⟩
    exact h2 ⟨a4, a5⟩
  have HW0 : Hid (wiB s.st 0 ((n : Int) - 1) = true) := by unfold wiB; exact decide_eq_true h0
  have HW1 : Hid (wiB s.sq 0 3999 = true) := by unfold wiB; exact decide_eq_true h1
  have HW2 : Hid (wiB s.dy 0 14609 = false) := by unfold wiB; exact decide_eq_false h2
  go_enter Tryd.func30, Tryd.ntmps30
  go_upto_region 1 with (fail)
  obtain ⟨W0, hW0, hB0, hB1, hb⟩ := start2 w 24 28 [.slice A n c] (slc s)
  rw [← hW0]
  clear hW0
  refine jp ?_
  refine jn (.pointer (some ⟨(w.heap.size + 1), 0, none⟩)) ?_
  refine jf (.int .i64 s.st) hB1 0 load_int ?_
  refine jn (.pointer (some ⟨w.heap.size, 0, none⟩)) ?_
  refine jf (.slice A n c) hB0 0 load_sts ?_
  refine jv (.int .i64 (n : Int)) (exec_lenv Tryd.underlying22 _ (by rfl) A n c (by rfl) _ rfl) ?_
  refine jv (.int .i64 ((n : Int) - 1)) (exec_sub _ _ _ _ (by rfl) (n : Int) 1 ((n : Int) - 1) (by rfl) (by rfl) (by omega) (by omega) (by omega)) ?_
  refine jc (.bool true) (fun X hX hF => mo (wiC s.st 0 ((n : Int) - 1) X) (by rw [HW0.out])) ?_
  refine jm (.bool true) ?_
  refine jn (.pointer (some ⟨(w.heap.size + 1), 1, none⟩)) ?_
  refine jf (.int .i64 s.sq) hB1 1 load_int ?_
  refine jc (.bool true) (fun X hX hF => mo (wiC s.sq 0 3999 X) (by rw [HW1.out])) ?_
  refine jm (.bool true) ?_
  refine jm (.bool true) ?_
  refine jn (.pointer (some ⟨(w.heap.size + 1), 2, none⟩)) ?_
  refine jf (.int .i64 s.dy) hB1 2 load_int ?_
  refine jc (.bool false) (fun X hX hF => mo (wiC s.dy 0 14609 X) (by rw [HW2.out])) ?_
  refine jm (.bool false) ?_
  refine jm (.bool false) ?_
  refine js ?_
  refine js ?_
  refine js ?_
  refine jm (.bool false) ?_
  refine jm (.bool false) ?_
  refine js ?_
  refine js ?_
  refine js ?_
  refine js ?_
  refine jm (.bool false) ?_
  refine jm (.bool false) ?_
  refine js ?_
  refine js ?_
  refine js ?_
  refine js ?_
  refine js ?_
  refine js ?_
  refine js ?_
  refine js ?_
  refine js ?_
  refine jm (.bool false) ?_
  refine jm (.bool false) ?_
  refine jz fun X1 hX1 => ?_
  have hB0 := hB0.bel hX1
  have hB1 := hB1.bel hX1
  have hb := bel_next hb hX1
  clear hX1
  go_wp2
  go_ret
  exact ⟨by rw [HF.out]; rfl, hb⟩
theorem sfo3 (A : Option Addr) (n c : Nat) (r : List (List UInt8)) (w : World) (hr : Rd w 1 (.slice A n c) n (r.map tx)) (hln : r.length = n) (hn1 : n ≤ 9223372036854775807) (s : Sl) (hs : SlOk s) (h0 : (0 ≤ s.st ∧ s.st ≤ (n : Int) - 1)) (h1 : (0 ≤ s.sq ∧ s.sq ≤ 3999)) (h2 : (0 ≤ s.dy ∧ s.dy ≤ 14609)) (h3 : ¬ (1 ≤ s.kd ∧ s.kd ≤ 12)) : Calls Tryd.prog 30 #[.agg #[.slice A n c], .agg (slc s).toArray] w fun e w' => e = .returned (.bool (frm r s)) ∧ Since w w' := by
  have hz := zero16
  have HF : Hid (frm r s = false) := by
    unfold frm
    rw [hln]
    refine decide_eq_false ?_
    rintro ⟨a0, a1, a2, a3, a4, a5, a6, a7, a8, a9⟩
    exact h3 ⟨a6, a7⟩
  have HW0 : Hid (wiB s.st 0 ((n : Int) - 1) = true) := by unfold wiB; exact decide_eq_true h0
  have HW1 : Hid (wiB s.sq 0 3999 = true) := by unfold wiB; exact decide_eq_true h1
  have HW2 : Hid (wiB s.dy 0 14609 = true) := by unfold wiB; exact decide_eq_true h2
  have HW3 : Hid (wiB s.kd 1 12 = false) := by unfold wiB; exact decide_eq_false h3
  go_enter Tryd.func30, Tryd.ntmps30
  go_upto_region 1 with (fail)
  obtain ⟨W0, hW0, hB0, hB1, hb⟩ := start2 w 24 28 [.slice A n c] (slc s)
  rw [← hW0]
  clear hW0
  refine jp ?_
  refine jn (.pointer (some ⟨(w.heap.size + 1), 0, none⟩)) ?_
  refine jf (.int .i64 s.st) hB1 0 load_int ?_
  refine jn (.pointer (some ⟨w.heap.size, 0, none⟩)) ?_
  refine jf (.slice A n c) hB0 0 load_sts ?_
  refine jv (.int .i64 (n : Int)) (exec_lenv Tryd.underlying22 _ (by rfl) A n c (by rfl) _ rfl) ?_
  refine jv (.int .i64 ((n : Int) - 1)) (exec_sub _ _ _ _ (by rfl) (n : Int) 1 ((n : Int) - 1) (by rfl) (by rfl) (by omega) (by omega) (by omega)) ?_
  refine jc (.bool true) (fun X hX hF => mo (wiC s.st 0 ((n : Int) - 1) X) (by rw [HW0.out])) ?_
  refine jm (.bool true) ?_
  refine jn (.pointer (some ⟨(w.heap.size + 1), 1, none⟩)) ?_
  refine jf (.int .i64 s.sq) hB1 1 load_int ?_
  refine jc (.bool true) (fun X hX hF => mo (wiC s.sq 0 3999 X) (by rw [HW1.out])) ?_
  refine jm (.bool true) ?_
  refine jm (.bool true) ?_
  refine jn (.pointer (some ⟨(w.heap.size + 1), 2, none⟩)) ?_
  refine jf (.int .i64 s.dy) hB1 2 load_int ?_
  refine jc (.bool true) (fun X hX hF => mo (wiC s.dy 0 14609 X) (by rw [HW2.out])) ?_
  refine jm (.bool true) ?_
  refine jm (.bool true) ?_
  refine jn (.pointer (some ⟨(w.heap.size + 1), 3, none⟩)) ?_
  refine jf (.int .i64 s.kd) hB1 3 load_int ?_
  refine jc (.bool false) (fun X hX hF => mo (wiC s.kd 1 12 X) (by rw [HW3.out])) ?_
  refine jm (.bool false) ?_
  refine jm (.bool false) ?_
  refine js ?_
  refine js ?_
  refine js ?_
  refine js ?_
  refine jm (.bool false) ?_
  refine jm (.bool false) ?_
  refine js ?_
  refine js ?_
  refine js ?_
  refine js ?_
  refine js ?_
  refine js ?_
  refine js ?_
  refine js ?_
  refine js ?_
  refine jm (.bool false) ?_
  refine jm (.bool false) ?_
  refine jz fun X1 hX1 => ?_
  have hB0 := hB0.bel hX1
  have hB1 := hB1.bel hX1
  have hb := bel_next hb hX1
  clear hX1
  go_wp2
  go_ret
  exact ⟨by rw [HF.out]; rfl, hb⟩
theorem sfo4 (A : Option Addr) (n c : Nat) (r : List (List UInt8)) (w : World) (hr : Rd w 1 (.slice A n c) n (r.map tx)) (hln : r.length = n) (hn1 : n ≤ 9223372036854775807) (s : Sl) (hs : SlOk s) (h0 : (0 ≤ s.st ∧ s.st ≤ (n : Int) - 1)) (h1 : (0 ≤ s.sq ∧ s.sq ≤ 3999)) (h2 : (0 ≤ s.dy ∧ s.dy ≤ 14609)) (h3 : (1 ≤ s.kd ∧ s.kd ≤ 12)) (h4 : ¬ s.bd.length ≤ 4096) : Calls Tryd.prog 30 #[.agg #[.slice A n c], .agg (slc s).toArray] w fun e w' => e = .returned (.bool (frm r s)) ∧ Since w w' := by
  have hz := zero16
  have HF : Hid (frm r s = false) := by
    unfold frm
    rw [hln]
    refine decide_eq_false ?_
    rintro ⟨a0, a1, a2, a3, a4, a5, a6, a7, a8, a9⟩
    exact h4 a8
  have HW0 : Hid (wiB s.st 0 ((n : Int) - 1) = true) := by unfold wiB; exact decide_eq_true h0
  have HW1 : Hid (wiB s.sq 0 3999 = true) := by unfold wiB; exact decide_eq_true h1
  have HW2 : Hid (wiB s.dy 0 14609 = true) := by unfold wiB; exact decide_eq_true h2
  have HW3 : Hid (wiB s.kd 1 12 = true) := by unfold wiB; exact decide_eq_true h3
  go_enter Tryd.func30, Tryd.ntmps30
  go_upto_region 1 with (fail)
  obtain ⟨W0, hW0, hB0, hB1, hb⟩ := start2 w 24 28 [.slice A n c] (slc s)
  rw [← hW0]
  clear hW0
  refine jp ?_
  refine jn (.pointer (some ⟨(w.heap.size + 1), 0, none⟩)) ?_
  refine jf (.int .i64 s.st) hB1 0 load_int ?_
  refine jn (.pointer (some ⟨w.heap.size, 0, none⟩)) ?_
  refine jf (.slice A n c) hB0 0 load_sts ?_
  refine jv (.int .i64 (n : Int)) (exec_lenv Tryd.underlying22 _ (by rfl) A n c (by rfl) _ rfl) ?_
  refine jv (.int .i64 ((n : Int) - 1)) (exec_sub _ _ _ _ (by rfl) (n : Int) 1 ((n : Int) - 1) (by rfl) (by rfl) (by omega) (by omega) (by omega)) ?_
  refine jc (.bool true) (fun X hX hF => mo (wiC s.st 0 ((n : Int) - 1) X) (by rw [HW0.out])) ?_
  refine jm (.bool true) ?_
  refine jn (.pointer (some ⟨(w.heap.size + 1), 1, none⟩)) ?_
  refine jf (.int .i64 s.sq) hB1 1 load_int ?_
  refine jc (.bool true) (fun X hX hF => mo (wiC s.sq 0 3999 X) (by rw [HW1.out])) ?_
  refine jm (.bool true) ?_
  refine jm (.bool true) ?_
  refine jn (.pointer (some ⟨(w.heap.size + 1), 2, none⟩)) ?_
  refine jf (.int .i64 s.dy) hB1 2 load_int ?_
  refine jc (.bool true) (fun X hX hF => mo (wiC s.dy 0 14609 X) (by rw [HW2.out])) ?_
  refine jm (.bool true) ?_
  refine jm (.bool true) ?_
  refine jn (.pointer (some ⟨(w.heap.size + 1), 3, none⟩)) ?_
  refine jf (.int .i64 s.kd) hB1 3 load_int ?_
  refine jc (.bool true) (fun X hX hF => mo (wiC s.kd 1 12 X) (by rw [HW3.out])) ?_
  refine jm (.bool true) ?_
  refine jm (.bool true) ?_
  refine jn (.pointer (some ⟨(w.heap.size + 1), 4, none⟩)) ?_
  refine jf (st s.bd) hB1 4 load_str ?_
  refine jv (.int .i64 (s.bd.length : Int)) (exec_lens Tryd.underlying9 _ (by rfl) s.bd (by rfl) _ rfl) ?_
  refine jv (.bool false) (exec_leq _ _ _ _ (by rfl) .i64 (s.bd.length : Int) 4096 (by rfl) (by rfl) false (decide_eq_false (by omega))) ?_
  refine jm (.bool false) ?_
  refine jm (.bool false) ?_
  refine js ?_
  refine js ?_
  refine js ?_
  refine js ?_
  refine js ?_
  refine js ?_
  refine js ?_
  refine js ?_
  refine js ?_
  refine jm (.bool false) ?_
  refine jm (.bool false) ?_
  refine jz fun X1 hX1 => ?_
  have hB0 := hB0.bel hX1
  have hB1 := hB1.bel hX1
  have hb := bel_next hb hX1
  clear hX1
  go_wp2
  go_ret
  exact ⟨by rw [HF.out]; rfl, hb⟩
theorem sfo5 (A : Option Addr) (n c : Nat) (r : List (List UInt8)) (w : World) (hr : Rd w 1 (.slice A n c) n (r.map tx)) (hln : r.length = n) (hn1 : n ≤ 9223372036854775807) (s : Sl) (hs : SlOk s) (h0 : (0 ≤ s.st ∧ s.st ≤ (n : Int) - 1)) (h1 : (0 ≤ s.sq ∧ s.sq ≤ 3999)) (h2 : (0 ≤ s.dy ∧ s.dy ≤ 14609)) (h3 : (1 ≤ s.kd ∧ s.kd ≤ 12)) (h4 : s.bd.length ≤ 4096) (h5 : 0 < s.sq) : Calls Tryd.prog 30 #[.agg #[.slice A n c], .agg (slc s).toArray] w fun e w' => e = .returned (.bool (frm r s)) ∧ Since w w' := by
  have hz := zero16
  have HF : Hid (frm r s = true) := by
    unfold frm
    rw [hln]
    refine decide_eq_true ?_
    exact ⟨h0.1, h0.2, h1.1, h1.2, h2.1, h2.2, h3.1, h3.2, h4, .inl h5⟩
  have HW0 : Hid (wiB s.st 0 ((n : Int) - 1) = true) := by unfold wiB; exact decide_eq_true h0
  have HW1 : Hid (wiB s.sq 0 3999 = true) := by unfold wiB; exact decide_eq_true h1
  have HW2 : Hid (wiB s.dy 0 14609 = true) := by unfold wiB; exact decide_eq_true h2
  have HW3 : Hid (wiB s.kd 1 12 = true) := by unfold wiB; exact decide_eq_true h3
  go_enter Tryd.func30, Tryd.ntmps30
  go_upto_region 1 with (fail)
  obtain ⟨W0, hW0, hB0, hB1, hb⟩ := start2 w 24 28 [.slice A n c] (slc s)
  rw [← hW0]
  clear hW0
  refine jp ?_
  refine jn (.pointer (some ⟨(w.heap.size + 1), 0, none⟩)) ?_
  refine jf (.int .i64 s.st) hB1 0 load_int ?_
  refine jn (.pointer (some ⟨w.heap.size, 0, none⟩)) ?_
  refine jf (.slice A n c) hB0 0 load_sts ?_
  refine jv (.int .i64 (n : Int)) (exec_lenv Tryd.underlying22 _ (by rfl) A n c (by rfl) _ rfl) ?_
  refine jv (.int .i64 ((n : Int) - 1)) (exec_sub _ _ _ _ (by rfl) (n : Int) 1 ((n : Int) - 1) (by rfl) (by rfl) (by omega) (by omega) (by omega)) ?_
  refine jc (.bool true) (fun X hX hF => mo (wiC s.st 0 ((n : Int) - 1) X) (by rw [HW0.out])) ?_
  refine jm (.bool true) ?_
  refine jn (.pointer (some ⟨(w.heap.size + 1), 1, none⟩)) ?_
  refine jf (.int .i64 s.sq) hB1 1 load_int ?_
  refine jc (.bool true) (fun X hX hF => mo (wiC s.sq 0 3999 X) (by rw [HW1.out])) ?_
  refine jm (.bool true) ?_
  refine jm (.bool true) ?_
  refine jn (.pointer (some ⟨(w.heap.size + 1), 2, none⟩)) ?_
  refine jf (.int .i64 s.dy) hB1 2 load_int ?_
  refine jc (.bool true) (fun X hX hF => mo (wiC s.dy 0 14609 X) (by rw [HW2.out])) ?_
  refine jm (.bool true) ?_
  refine jm (.bool true) ?_
  refine jn (.pointer (some ⟨(w.heap.size + 1), 3, none⟩)) ?_
  refine jf (.int .i64 s.kd) hB1 3 load_int ?_
  refine jc (.bool true) (fun X hX hF => mo (wiC s.kd 1 12 X) (by rw [HW3.out])) ?_
  refine jm (.bool true) ?_
  refine jm (.bool true) ?_
  refine jn (.pointer (some ⟨(w.heap.size + 1), 4, none⟩)) ?_
  refine jf (st s.bd) hB1 4 load_str ?_
  refine jv (.int .i64 (s.bd.length : Int)) (exec_lens Tryd.underlying9 _ (by rfl) s.bd (by rfl) _ rfl) ?_
  refine jv (.bool true) (exec_leq _ _ _ _ (by rfl) .i64 (s.bd.length : Int) 4096 (by rfl) (by rfl) true (decide_eq_true (by omega))) ?_
  refine jm (.bool true) ?_
  refine jm (.bool true) ?_
  refine jn (.pointer (some ⟨(w.heap.size + 1), 1, none⟩)) ?_
  refine jf (.int .i64 s.sq) hB1 1 load_int ?_
  refine jv (.bool true) (exec_gtr _ _ _ _ (by rfl) .i64 s.sq 0 (by rfl) (by rfl) true (decide_eq_true (by omega))) ?_
  refine jm (.bool true) ?_
  refine js ?_
  refine js ?_
  refine js ?_
  refine js ?_
  refine jm (.bool true) ?_
  refine jm (.bool true) ?_
  refine jm (.bool true) ?_
  refine jz fun X1 hX1 => ?_
  have hB0 := hB0.bel hX1
  have hB1 := hB1.bel hX1
  have hb := bel_next hb hX1
  clear hX1
  go_wp2
  go_ret
  exact ⟨by rw [HF.out]; rfl, hb⟩
theorem sfo6 (A : Option Addr) (n c : Nat) (r : List (List UInt8)) (w : World) (hr : Rd w 1 (.slice A n c) n (r.map tx)) (hln : r.length = n) (hn1 : n ≤ 9223372036854775807) (s : Sl) (hs : SlOk s) (h0 : (0 ≤ s.st ∧ s.st ≤ (n : Int) - 1)) (h1 : (0 ≤ s.sq ∧ s.sq ≤ 3999)) (h2 : (0 ≤ s.dy ∧ s.dy ≤ 14609)) (h3 : (1 ≤ s.kd ∧ s.kd ≤ 12)) (h4 : s.bd.length ≤ 4096) (h5 : s.sq ≤ 0) (h6 : s.pv = z16b) : Calls Tryd.prog 30 #[.agg #[.slice A n c], .agg (slc s).toArray] w fun e w' => e = .returned (.bool (frm r s)) ∧ Since w w' := by
  have hz := zero16
  have HF : Hid (frm r s = true) := by
    unfold frm
    rw [hln]
    refine decide_eq_true ?_
    exact ⟨h0.1, h0.2, h1.1, h1.2, h2.1, h2.2, h3.1, h3.2, h4, .inr h6⟩
  have HW0 : Hid (wiB s.st 0 ((n : Int) - 1) = true) := by unfold wiB; exact decide_eq_true h0
  have HW1 : Hid (wiB s.sq 0 3999 = true) := by unfold wiB; exact decide_eq_true h1
  have HW2 : Hid (wiB s.dy 0 14609 = true) := by unfold wiB; exact decide_eq_true h2
  have HW3 : Hid (wiB s.kd 1 12 = true) := by unfold wiB; exact decide_eq_true h3
  have HP : Hid ((s.pv == z16b) = true) := eqs_t h6
  clear h6
  go_enter Tryd.func30, Tryd.ntmps30
  go_upto_region 1 with (fail)
  obtain ⟨W0, hW0, hB0, hB1, hb⟩ := start2 w 24 28 [.slice A n c] (slc s)
  rw [← hW0]
  clear hW0
  refine jp ?_
  refine jn (.pointer (some ⟨(w.heap.size + 1), 0, none⟩)) ?_
  refine jf (.int .i64 s.st) hB1 0 load_int ?_
  refine jn (.pointer (some ⟨w.heap.size, 0, none⟩)) ?_
  refine jf (.slice A n c) hB0 0 load_sts ?_
  refine jv (.int .i64 (n : Int)) (exec_lenv Tryd.underlying22 _ (by rfl) A n c (by rfl) _ rfl) ?_
  refine jv (.int .i64 ((n : Int) - 1)) (exec_sub _ _ _ _ (by rfl) (n : Int) 1 ((n : Int) - 1) (by rfl) (by rfl) (by omega) (by omega) (by omega)) ?_
  refine jc (.bool true) (fun X hX hF => mo (wiC s.st 0 ((n : Int) - 1) X) (by rw [HW0.out])) ?_
  refine jm (.bool true) ?_
  refine jn (.pointer (some ⟨(w.heap.size + 1), 1, none⟩)) ?_
  refine jf (.int .i64 s.sq) hB1 1 load_int ?_
  refine jc (.bool true) (fun X hX hF => mo (wiC s.sq 0 3999 X) (by rw [HW1.out])) ?_
  refine jm (.bool true) ?_
  refine jm (.bool true) ?_
  refine jn (.pointer (some ⟨(w.heap.size + 1), 2, none⟩)) ?_
  refine jf (.int .i64 s.dy) hB1 2 load_int ?_
  refine jc (.bool true) (fun X hX hF => mo (wiC s.dy 0 14609 X) (by rw [HW2.out])) ?_
  refine jm (.bool true) ?_
  refine jm (.bool true) ?_
  refine jn (.pointer (some ⟨(w.heap.size + 1), 3, none⟩)) ?_
  refine jf (.int .i64 s.kd) hB1 3 load_int ?_
  refine jc (.bool true) (fun X hX hF => mo (wiC s.kd 1 12 X) (by rw [HW3.out])) ?_
  refine jm (.bool true) ?_
  refine jm (.bool true) ?_
  refine jn (.pointer (some ⟨(w.heap.size + 1), 4, none⟩)) ?_
  refine jf (st s.bd) hB1 4 load_str ?_
  refine jv (.int .i64 (s.bd.length : Int)) (exec_lens Tryd.underlying9 _ (by rfl) s.bd (by rfl) _ rfl) ?_
  refine jv (.bool true) (exec_leq _ _ _ _ (by rfl) .i64 (s.bd.length : Int) 4096 (by rfl) (by rfl) true (decide_eq_true (by omega))) ?_
  refine jm (.bool true) ?_
  refine jm (.bool true) ?_
  refine jn (.pointer (some ⟨(w.heap.size + 1), 1, none⟩)) ?_
  refine jf (.int .i64 s.sq) hB1 1 load_int ?_
  refine jv (.bool false) (exec_gtr _ _ _ _ (by rfl) .i64 s.sq 0 (by rfl) (by rfl) false (decide_eq_false (by omega))) ?_
  refine jm (.bool false) ?_
  refine jn (.pointer (some ⟨(w.heap.size + 1), 5, none⟩)) ?_
  refine jg (.agg (s.pv.map B8).toArray) (fun X hX hF => exec_inr 26 _ (by rfl) (w.heap.size + 1) 5 (s.pv.map B8) (by rfl) Tryd.underlying26 rfl X (hB1.bel hX) (slc_pv hs) (info_d16 hs.pv)) ?_
  refine jv (.agg (z16b.map B8).toArray) (exec_bd0 (by rfl)) ?_
  refine jv (.bool true) (exec_eqdg (.tmp 39) (.tmp 40) _ (by rfl) s.pv z16b hs.pv rfl (by rfl) (by rfl) _ HP.out) ?_
  refine jm (.bool true) ?_
  refine jm (.bool true) ?_
  refine jm (.bool true) ?_
  refine jz fun X1 hX1 => ?_
  have hB0 := hB0.bel hX1
  have hB1 := hB1.bel hX1
  have hb := bel_next hb hX1
  clear hX1
  go_wp2
  go_ret
  exact ⟨by rw [HF.out]; rfl, hb⟩
theorem sfo7 (A : Option Addr) (n c : Nat) (r : List (List UInt8)) (w : World) (hr : Rd w 1 (.slice A n c) n (r.map tx)) (hln : r.length = n) (hn1 : n ≤ 9223372036854775807) (s : Sl) (hs : SlOk s) (h0 : (0 ≤ s.st ∧ s.st ≤ (n : Int) - 1)) (h1 : (0 ≤ s.sq ∧ s.sq ≤ 3999)) (h2 : (0 ≤ s.dy ∧ s.dy ≤ 14609)) (h3 : (1 ≤ s.kd ∧ s.kd ≤ 12)) (h4 : s.bd.length ≤ 4096) (h5 : s.sq ≤ 0) (h6 : ¬ s.pv = z16b) : Calls Tryd.prog 30 #[.agg #[.slice A n c], .agg (slc s).toArray] w fun e w' => e = .returned (.bool (frm r s)) ∧ Since w w' := by
  have hz := zero16
  have HF : Hid (frm r s = false) := by
    unfold frm
    rw [hln]
    refine decide_eq_false ?_
    rintro ⟨a0, a1, a2, a3, a4, a5, a6, a7, a8, a9⟩
    rcases a9 with a9 | a9
    · omega
    · exact h6 a9
  have HW0 : Hid (wiB s.st 0 ((n : Int) - 1) = true) := by unfold wiB; exact decide_eq_true h0
  have HW1 : Hid (wiB s.sq 0 3999 = true) := by unfold wiB; exact decide_eq_true h1
  have HW2 : Hid (wiB s.dy 0 14609 = true) := by unfold wiB; exact decide_eq_true h2
  have HW3 : Hid (wiB s.kd 1 12 = true) := by unfold wiB; exact decide_eq_true h3
  have HP : Hid ((s.pv == z16b) = false) := eqs_f h6
  clear h6
  go_enter Tryd.func30, Tryd.ntmps30
  go_upto_region 1 with (fail)
  obtain ⟨W0, hW0, hB0, hB1, hb⟩ := start2 w 24 28 [.slice A n c] (slc s)
  rw [← hW0]
  clear hW0
  refine jp ?_
  refine jn (.pointer (some ⟨(w.heap.size + 1), 0, none⟩)) ?_
  refine jf (.int .i64 s.st) hB1 0 load_int ?_
  refine jn (.pointer (some ⟨w.heap.size, 0, none⟩)) ?_
  refine jf (.slice A n c) hB0 0 load_sts ?_
  refine jv (.int .i64 (n : Int)) (exec_lenv Tryd.underlying22 _ (by rfl) A n c (by rfl) _ rfl) ?_
  refine jv (.int .i64 ((n : Int) - 1)) (exec_sub _ _ _ _ (by rfl) (n : Int) 1 ((n : Int) - 1) (by rfl) (by rfl) (by omega) (by omega) (by omega)) ?_
  refine jc (.bool true) (fun X hX hF => mo (wiC s.st 0 ((n : Int) - 1) X) (by rw [HW0.out])) ?_
  refine jm (.bool true) ?_
  refine jn (.pointer (some ⟨(w.heap.size + 1), 1, none⟩)) ?_
  refine jf (.int .i64 s.sq) hB1 1 load_int ?_
  refine jc (.bool true) (fun X hX hF => mo (wiC s.sq 0 3999 X) (by rw [HW1.out])) ?_
  refine jm (.bool true) ?_
  refine jm (.bool true) ?_
  refine jn (.pointer (some ⟨(w.heap.size + 1), 2, none⟩)) ?_
  refine jf (.int .i64 s.dy) hB1 2 load_int ?_
  refine jc (.bool true) (fun X hX hF => mo (wiC s.dy 0 14609 X) (by rw [HW2.out])) ?_
  refine jm (.bool true) ?_
  refine jm (.bool true) ?_
  refine jn (.pointer (some ⟨(w.heap.size + 1), 3, none⟩)) ?_
  refine jf (.int .i64 s.kd) hB1 3 load_int ?_
  refine jc (.bool true) (fun X hX hF => mo (wiC s.kd 1 12 X) (by rw [HW3.out])) ?_
  refine jm (.bool true) ?_
  refine jm (.bool true) ?_
  refine jn (.pointer (some ⟨(w.heap.size + 1), 4, none⟩)) ?_
  refine jf (st s.bd) hB1 4 load_str ?_
  refine jv (.int .i64 (s.bd.length : Int)) (exec_lens Tryd.underlying9 _ (by rfl) s.bd (by rfl) _ rfl) ?_
  refine jv (.bool true) (exec_leq _ _ _ _ (by rfl) .i64 (s.bd.length : Int) 4096 (by rfl) (by rfl) true (decide_eq_true (by omega))) ?_
  refine jm (.bool true) ?_
  refine jm (.bool true) ?_
  refine jn (.pointer (some ⟨(w.heap.size + 1), 1, none⟩)) ?_
  refine jf (.int .i64 s.sq) hB1 1 load_int ?_
  refine jv (.bool false) (exec_gtr _ _ _ _ (by rfl) .i64 s.sq 0 (by rfl) (by rfl) false (decide_eq_false (by omega))) ?_
  refine jm (.bool false) ?_
  refine jn (.pointer (some ⟨(w.heap.size + 1), 5, none⟩)) ?_
  refine jg (.agg (s.pv.map B8).toArray) (fun X hX hF => exec_inr 26 _ (by rfl) (w.heap.size + 1) 5 (s.pv.map B8) (by rfl) Tryd.underlying26 rfl X (hB1.bel hX) (slc_pv hs) (info_d16 hs.pv)) ?_
  refine jv (.agg (z16b.map B8).toArray) (exec_bd0 (by rfl)) ?_
  refine jv (.bool false) (exec_eqdg (.tmp 39) (.tmp 40) _ (by rfl) s.pv z16b hs.pv rfl (by rfl) (by rfl) _ HP.out) ?_
  refine jm (.bool false) ?_
  refine jm (.bool false) ?_
  refine jm (.bool false) ?_
  refine jz fun X1 hX1 => ?_
  have hB0 := hB0.bel hX1
  have hB1 := hB1.bel hX1
  have hb := bel_next hb hX1
  clear hX1
  go_wp2
  go_ret
  exact ⟨by rw [HF.out]; rfl, hb⟩
theorem sfoC (A : Option Addr) (n c : Nat) (r : List (List UInt8)) (w : World) (hr : Rd w 1 (.slice A n c) n (r.map tx)) (hln : r.length = n) (hn1 : n ≤ 9223372036854775807) (s : Sl) (hs : SlOk s) : Calls Tryd.prog 30 #[.agg #[.slice A n c], .agg (slc s).toArray] w fun e w' => e = .returned (.bool (frm r s)) ∧ Since w w' := by
  by_cases h0 : 0 ≤ s.st ∧ s.st ≤ (n : Int) - 1
  · by_cases h1 : 0 ≤ s.sq ∧ s.sq ≤ 3999
    · by_cases h2 : 0 ≤ s.dy ∧ s.dy ≤ 14609
      · by_cases h3 : 1 ≤ s.kd ∧ s.kd ≤ 12
        · by_cases h4 : s.bd.length ≤ 4096
          · by_cases h5 : 0 < s.sq
            · exact sfo5 A n c r w hr hln hn1 s hs h0 h1 h2 h3 h4 h5
            · by_cases h6 : s.pv = z16b
              · exact sfo6 A n c r w hr hln hn1 s hs h0 h1 h2 h3 h4 (by omega) h6
              · exact sfo7 A n c r w hr hln hn1 s hs h0 h1 h2 h3 h4 (by omega) h6
          · exact sfo4 A n c r w hr hln hn1 s hs h0 h1 h2 h3 h4
        · exact sfo3 A n c r w hr hln hn1 s hs h0 h1 h2 h3
      · exact sfo2 A n c r w hr hln hn1 s hs h0 h1 h2
    · exact sfo1 A n c r w hr hln hn1 s hs h0 h1
  · exact sfo0 A n c r w hr hln hn1 s hs h0
end Go.Proofs.YthinopepcmidmaaDoor
