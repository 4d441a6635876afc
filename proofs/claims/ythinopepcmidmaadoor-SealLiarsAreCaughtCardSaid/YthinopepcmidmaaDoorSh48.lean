/-
  seal: Log.
-/
import Derived.Test.YthinopepcmidmaaDoorSg48
set_option linter.unusedSimpArgs false
set_option linter.unusedVariables false
set_option maxRecDepth 100000
set_option maxHeartbeats 1600000
namespace Go.Proofs.YthinopepcmidmaaDoor
open Go.RowKit
theorem Rd.sls {w : World} {A : Option Addr} {m c : Nat} {l : List Sl} (h : Rd w 37 (.slice A m c) m (fl slc l)) (hok : ∀ s ∈ l, SlOk s) (hl : l.length = m) (hm : 0 < m) : ∃ b off, A = some ⟨b, off, none⟩ ∧ b < w.heap.size ∧ ∀ k, k < m → Cl w b (off + k * 37) (slc (sAt l k)) := by
  obtain ⟨b, off, _, hA, hb, _⟩ := h.atF (m := 37) (fun x hx => (hok x hx).len) (by omega) (k := 0) (by omega)
  refine ⟨b, off, hA, hb, fun k hk => ?_⟩
  obtain ⟨b2, off2, x, hA2, hb2, hc, _, hd⟩ := h.atF (m := 37) (fun x hx => (hok x hx).len) (by omega) (k := k) (by omega)
  rw [hA] at hA2
  injection hA2 with hA2
  injection hA2 with e1 e2
  subst e1 e2
  have e : sAt l k = x := by
    have h9 := hd.out
    rw [sAt_get (by omega)]
    rw [List.drop_eq_getElem_cons (by omega)] at h9
    injection h9
  rw [e]
  exact hc
theorem ok_at {l : List Sl} (h : ∀ s ∈ l, SlOk s) {k : Nat} (hk : k < l.length) : SlOk (sAt l k) := by rw [sAt_get hk]; exact h _ (List.getElem_mem hk)
theorem lgP_a {r : List (List UInt8)} {l : List Sl} {k : Nat} (h : rgt mk48 r (sAt l k) = false) : lgP mk48 nm48 r l k = 16 := if_pos h
theorem lgP_b {r : List (List UInt8)} {l : List Sl} {k : Nat} (h : rgt mk48 r (sAt l k) = true) (h2 : (sAt l k).st ≠ (sAt l 0).st ∨ (sAt l k).sq ≠ (k : Int)) : lgP mk48 nm48 r l k = 1 := by
  unfold lgP
  rw [if_neg (by rw [h]; decide), if_pos h2]
theorem lgP_c {r : List (List UInt8)} {l : List Sl} {k : Nat} (h : rgt mk48 r (sAt l k) = true) (h2 : (sAt l k).st = (sAt l 0).st) (h3 : (sAt l k).sq = (k : Int)) (h4 : (sAt l k).pv ≠ bfr nm48 l k) : lgP mk48 nm48 r l k = 23 := by
  unfold lgP
  rw [if_neg (by rw [h]; decide), if_neg (by rintro (h9 | h9); exact h9 h2; exact h9 h3), if_pos h4]
theorem lgP_d {r : List (List UInt8)} {l : List Sl} {k : Nat} (h : rgt mk48 r (sAt l k) = true) (h2 : (sAt l k).st = (sAt l 0).st) (h3 : (sAt l k).sq = (k : Int)) (h4 : (sAt l k).pv = bfr nm48 l k) (h5 : 0 < k) (h6 : (sAt l k).dy < (sAt l (k - 1)).dy) : lgP mk48 nm48 r l k = 4 := by
  unfold lgP
  rw [if_neg (by rw [h]; decide), if_neg (by rintro (h9 | h9); exact h9 h2; exact h9 h3), if_neg (fun h9 => h9 h4), if_pos ⟨h5, h6⟩]
theorem lg_ck {r : List (List UInt8)} {l : List Sl} (h : ¬ rckE r = 0) : lgE mk48 nm48 r l = rckE r := if_pos h
theorem lg_lim {r : List (List UInt8)} {l : List Sl} (h : rckE r = 0) (h2 : 4000 < l.length) : lgE mk48 nm48 r l = 2 := by
  unfold lgE
  rw [if_neg (by omega), if_pos h2]
theorem lg_ok {r : List (List UInt8)} {l : List Sl} (h : rckE r = 0) (h2 : l.length ≤ 4000) (h3 : ∀ j, j < l.length → lgP mk48 nm48 r l j = 0) : lgE mk48 nm48 r l = 0 := by
  unfold lgE
  rw [if_neg (by omega), if_neg (by omega)]
  exact lgF_ok mk48 nm48 h3
theorem bfr_len (l : List Sl) (k : Nat) : (bfr nm48 l k).length = 16 := by
  unfold bfr
  split
  · rfl
  · exact nm_len _
theorem bfr_next (l : List Sl) (k : Nat) : bfr nm48 l (k + 1) = nm48 (sAt l k) := if_neg (by omega)
theorem slg1 (A : Option Addr) (n c : Nat) (r : List (List UInt8)) (w : World) (hr : Rd w 1 (.slice A n c) n (r.map tx)) (hln : r.length = n) (hn1 : n ≤ 9223372036854775807) (A' : Option Addr) (m c' : Nat) (l : List Sl) (hrl : Rd w 37 (.slice A' m c') m (fl slc l)) (hlm : l.length = m) (hm1 : m ≤ 9223372036854775807) (hok : ∀ s ∈ l, SlOk s) (hK : KK w) (h : ¬ rckE r = 0) : Calls Tryd.prog 24 #[.agg #[.slice A n c], .slice A' m c'] w fun e w' => e = .returned (.int .i64 (lgE mk48 nm48 r l)) ∧ Since w w' := by
  have HC : Hid (¬ rckE r = 0) := h
  have HE : Hid (lgE mk48 nm48 r l = rckE r) := lg_ck h
  clear h
  have hz := zero16
  have hzs := zeroSl
  have HKK : Hid (∀ X, Since w X → KK X) := fun X h => hK.below h hK.1
  have HRX : Hid (∀ X, Since w X → Rd X 1 (.slice A n c) n (r.map tx)) := fun X h => hr.below h
  have HRL : Hid (∀ X, Since w X → Rd X 37 (.slice A' m c') m (fl slc l)) := fun X h => hrl.below h
  have HLN := Lib.hid hln
  have HLM := Lib.hid hlm
  have HOK := Lib.hid hok
  clear hK hr hrl hln hlm hok
  go_enter Tryd.func24, Tryd.ntmps24
  go_upto_region 1 with (fail)
  obtain ⟨W0, hW0, hB0, hb⟩ := start1 w 24 [.slice A n c]
  rw [← hW0]
  clear hW0
  refine jp ?_
  refine ja hB0 Tryd.underlying24 (by rfl) info_rg ?_
  refine jc (.int .i64 (rckE r)) (fun X hX hF => sckC A n c r X (HRX.out X (bel_next hb hX)) HLN.out hn1) ?_
  refine jm (.int .i64 (rckE r)) ?_
  refine jz fun X1 hX1 => ?_
  have hB0 := hB0.bel hX1
  have hb := bel_next hb hX1
  clear hX1
  go_upto_region 2 with (fail)
  refine jp ?_
  refine jm (.int .i64 (rckE r)) ?_
  refine jv (.bool true) (exec_nei _ _ _ _ (by rfl) .i64 (rckE r) 0 (by rfl) (by rfl) true (by rw [decide_eq_false HC.out]; rfl)) ?_
  refine jz fun X2 hX2 => ?_
  have hB0 := hB0.bel hX2
  have hb := bel_next hb hX2
  clear hX2
  go_upto_region 3 with (fail)
  refine jp ?_
  refine jm (.int .i64 (rckE r)) ?_
  refine jm (.int .i64 (rckE r)) ?_
  refine jz fun X3 hX3 => ?_
  have hB0 := hB0.bel hX3
  have hb := bel_next hb hX3
  clear hX3
  go_wp2
  go_ret
  exact ⟨by rw [HE.out]; rfl, hb⟩
theorem slg2 (A : Option Addr) (n c : Nat) (r : List (List UInt8)) (w : World) (hr : Rd w 1 (.slice A n c) n (r.map tx)) (hln : r.length = n) (hn1 : n ≤ 9223372036854775807) (A' : Option Addr) (m c' : Nat) (l : List Sl) (hrl : Rd w 37 (.slice A' m c') m (fl slc l)) (hlm : l.length = m) (hm1 : m ≤ 9223372036854775807) (hok : ∀ s ∈ l, SlOk s) (hK : KK w) (h : rckE r = 0) (h2 : 4000 < m) : Calls Tryd.prog 24 #[.agg #[.slice A n c], .slice A' m c'] w fun e w' => e = .returned (.int .i64 (lgE mk48 nm48 r l)) ∧ Since w w' := by
  have HC := Lib.hid h
  have HE : Hid (lgE mk48 nm48 r l = 2) := lg_lim h (by omega)
  clear h
  have hz := zero16
  have hzs := zeroSl
  have HKK : Hid (∀ X, Since w X → KK X) := fun X h => hK.below h hK.1
  have HRX : Hid (∀ X, Since w X → Rd X 1 (.slice A n c) n (r.map tx)) := fun X h => hr.below h
  have HRL : Hid (∀ X, Since w X → Rd X 37 (.slice A' m c') m (fl slc l)) := fun X h => hrl.below h
  have HLN := Lib.hid hln
  have HLM := Lib.hid hlm
  have HOK := Lib.hid hok
  clear hK hr hrl hln hlm hok
  go_enter Tryd.func24, Tryd.ntmps24
  go_upto_region 1 with (fail)
  obtain ⟨W0, hW0, hB0, hb⟩ := start1 w 24 [.slice A n c]
  rw [← hW0]
  clear hW0
  refine jp ?_
  refine ja hB0 Tryd.underlying24 (by rfl) info_rg ?_
  refine jc (.int .i64 (rckE r)) (fun X hX hF => sckC A n c r X (HRX.out X (bel_next hb hX)) HLN.out hn1) ?_
  refine jm (.int .i64 (rckE r)) ?_
  refine jz fun X1 hX1 => ?_
  have hB0 := hB0.bel hX1
  have hb := bel_next hb hX1
  clear hX1
  go_upto_region 2 with (fail)
  refine jp ?_
  refine jm (.int .i64 (rckE r)) ?_
  refine jv (.bool false) (exec_nei _ _ _ _ (by rfl) .i64 (rckE r) 0 (by rfl) (by rfl) false (by rw [decide_eq_true HC.out]; rfl)) ?_
  refine jz fun X2 hX2 => ?_
  have hB0 := hB0.bel hX2
  have hb := bel_next hb hX2
  clear hX2
  go_upto_region 4 with (fail)
  refine jp ?_
  refine jm (.slice A' m c') ?_
  refine jv (.int .i64 (m : Int)) (exec_lenv Tryd.underlying30 _ (by rfl) A' m c' (by rfl) _ rfl) ?_
  refine jv (.bool true) (exec_gtr _ _ _ _ (by rfl) .i64 (m : Int) 4000 (by rfl) (by rfl) true (decide_eq_true (by omega))) ?_
  refine jz fun X3 hX3 => ?_
  have hB0 := hB0.bel hX3
  have hb := bel_next hb hX3
  clear hX3
  go_upto_region 5 with (fail)
  refine jp ?_
  refine jm (.int .i64 2) ?_
  refine jz fun X4 hX4 => ?_
  have hB0 := hB0.bel hX4
  have hb := bel_next hb hX4
  clear hX4
  go_wp2
  go_ret
  exact ⟨by rw [HE.out]; rfl, hb⟩
theorem slgM (A : Option Addr) (n c : Nat) (r : List (List UInt8)) (w : World) (hr : Rd w 1 (.slice A n c) n (r.map tx)) (hln : r.length = n) (hn1 : n ≤ 9223372036854775807) (A' : Option Addr) (m c' : Nat) (l : List Sl) (hrl : Rd w 37 (.slice A' m c') m (fl slc l)) (hlm : l.length = m) (hm1 : m ≤ 9223372036854775807) (hok : ∀ s ∈ l, SlOk s) (hK : KK w) (h : rckE r = 0) (h2 : m ≤ 4000) : Calls Tryd.prog 24 #[.agg #[.slice A n c], .slice A' m c'] w fun e w' => e = .returned (.int .i64 (lgE mk48 nm48 r l)) ∧ Since w w' := by
  have HC := Lib.hid h
  clear h
  have hz := zero16
  have hzs := zeroSl
  have HKK : Hid (∀ X, Since w X → KK X) := fun X h => hK.below h hK.1
  have HRX : Hid (∀ X, Since w X → Rd X 1 (.slice A n c) n (r.map tx)) := fun X h => hr.below h
  have HRL : Hid (∀ X, Since w X → Rd X 37 (.slice A' m c') m (fl slc l)) := fun X h => hrl.below h
  have HLN := Lib.hid hln
  have HLM := Lib.hid hlm
  have HOK := Lib.hid hok
  clear hK hr hrl hln hlm hok
  go_enter Tryd.func24, Tryd.ntmps24
  go_upto_region 1 with (fail)
  obtain ⟨W0, hW0, hB0, hb⟩ := start1 w 24 [.slice A n c]
  rw [← hW0]
  clear hW0
  refine jp ?_
  refine ja hB0 Tryd.underlying24 (by rfl) info_rg ?_
  refine jc (.int .i64 (rckE r)) (fun X hX hF => sckC A n c r X (HRX.out X (bel_next hb hX)) HLN.out hn1) ?_
  refine jm (.int .i64 (rckE r)) ?_
  refine jz fun X1 hX1 => ?_
  have hB0 := hB0.bel hX1
  have hb := bel_next hb hX1
  clear hX1
  go_upto_region 2 with (fail)
  refine jp ?_
  refine jm (.int .i64 (rckE r)) ?_
  refine jv (.bool false) (exec_nei _ _ _ _ (by rfl) .i64 (rckE r) 0 (by rfl) (by rfl) false (by rw [decide_eq_true HC.out]; rfl)) ?_
  refine jz fun X2 hX2 => ?_
  have hB0 := hB0.bel hX2
  have hb := bel_next hb hX2
  clear hX2
  go_upto_region 4 with (fail)
  refine jp ?_
  refine jm (.slice A' m c') ?_
  refine jv (.int .i64 (m : Int)) (exec_lenv Tryd.underlying30 _ (by rfl) A' m c' (by rfl) _ rfl) ?_
  refine jv (.bool false) (exec_gtr _ _ _ _ (by rfl) .i64 (m : Int) 4000 (by rfl) (by rfl) false (decide_eq_false (by omega))) ?_
  refine jz fun X3 hX3 => ?_
  have hB0 := hB0.bel hX3
  have hb := bel_next hb hX3
  clear hX3
  go_upto_region 7 with (fail)
  obtain ⟨Y3, hY9, hD6, hS9⟩ := start1 X3 26 z16
  rw [← hY9]
  clear hY9
  have hgs6 := hb.size
  have hlt6x0 := hB0.lt
  have hB0 := hB0.bel hS9
  have hb := bel_next hb hS9
  clear hS9
  generalize X3.heap.size = g6 at *
  refine jp ?_
  refine jm (.slice A' m c') ?_
  refine jv (.int .i64 (m : Int)) (exec_lenv Tryd.underlying30 _ (by rfl) A' m c' (by rfl) _ rfl) ?_
  refine jm (.int .i64 0) ?_
  refine jz fun X4 hX4 => ?_
  have hB0 := hB0.bel hX4
  have hD6 := hD6.bel hX4
  have hb := bel_next hb hX4
  clear hX4
  go_wp2
  go_loopw [19] (fun kv wr => ∃ k : Nat, k ≤ m ∧ kv = .int .i64 (k : Int) ∧ Hid (∀ j, j < k → lgP mk48 nm48 r l j = 0) ∧ Blk wr w.heap.size 24 [.slice A n c] ∧ Blk wr g6 26 ((bfr nm48 l k).map B8) ∧ Below w.heap.size w wr) (fun kv _ => m - (intOf kv).toNat)
  case atStart => exact ⟨0, by omega, rfl, (fun j hj => by omega), hB0, hD6, hb⟩
  case round =>
    clear hB0 hD6 hb
    obtain ⟨k, hk, rfl, HZ, hB0, hD6, hb⟩ := hrel
    rcases Nat.lt_or_ge k m with hlt | hlt
    · obtain ⟨b, off, rfl, hbb, hall⟩ := (HRL.out _ hb).sls HOK.out HLM.out (by omega)
      have hcx := hall k hlt
      have hc0 := hall 0 (by omega)
      have hcp := hall (k - 1) (by omega)
      clear hall
      have ox := ok_at HOK.out (k := k) (by rw [HLM.out]; exact hlt)
      obtain ⟨x, hx9⟩ : ∃ x, x = sAt l k := ⟨_, rfl⟩
      obtain ⟨x0, hx0⟩ : ∃ x, x = sAt l 0 := ⟨_, rfl⟩
      obtain ⟨xp, hxp⟩ : ∃ x, x = sAt l (k - 1) := ⟨_, rfl⟩
      rw [← hx9] at hcx ox
      rw [← hx0] at hc0
      rw [← hxp] at hcp
      have HX := Lib.hid hx9
      have HX0 := Lib.hid hx0
      have HXP := Lib.hid hxp
      clear hx9 hx0 hxp
      have HBL := bfr_len l k
      go_upto_region 8 with (fail)
      refine jp ?_
      refine jv (.bool true) (exec_lss _ _ _ _ (by rfl) .i64 (k : Int) (m : Int) (by rfl) (by rfl) true (decide_eq_true (by omega))) ?_
      refine jz fun X1 hX1 => ?_
      have hB0 := hB0.bel hX1
      have hD6 := hD6.bel hX1
      have hcx := hcx.below hX1 hbb
      have hc0 := hc0.below hX1 hbb
      have hcp := hcp.below hX1 hbb
      replace hbb := Nat.lt_of_lt_of_le hbb (hX1).size
      have hb := bel_next hb hX1
      clear hX1
      go_upto_region 9 with (fail)
      refine jq 3 ?_
      refine jm (.int .i64 (k : Int)) ?_
      refine jv (.pointer (some ⟨b, off + k * 37, none⟩)) (exec_ixv Tryd.underlying30 info_sl _ _ (by rfl) b (off) m c' k (by omega) (by rfl) (by rfl) rfl) ?_
      refine jg (.agg (slc x).toArray) (fun X hX hF => exec_ldc 28 _ (by rfl) b (off + k * 37) (by rfl) Tryd.underlying28 rfl (slc x) X (hcx.below hX hbb) (info_slc ox)) ?_
      refine jz fun X2 hX2 => ?_
      have hB0 := hB0.bel hX2
      have hD6 := hD6.bel hX2
      have hcx := hcx.below hX2 hbb
      have hc0 := hc0.below hX2 hbb
      have hcp := hcp.below hX2 hbb
      replace hbb := Nat.lt_of_lt_of_le hbb (hX2).size
      have hb := bel_next hb hX2
      clear hX2
      go_upto_region 10 with (refine op_store_new _ _ _ rfl 28 (.tmp 8) (.tmp 23) (by rfl) (by rfl) (slc x).toArray (by rfl) (by show (slc x).toArray.size = (slc sl0).toArray.size; simp [SlOk.len ox, SlOk.len ok0]) (fun v hv => slc_one v (by simpa using hv)) (by rw [show (slc x).toArray.size = (slc x).length from by simp]; exact info_slc ox) ?_)
      obtain ⟨Y2, hY9, hD8, hS9⟩ := start1 X2 28 (slc x)
      rw [← hY9]
      clear hY9
      have hgs8 := hb.size
      have hlt8x0 := hB0.lt
      have hlt8x1 := hD6.lt
      have hcx := hcx.below hS9 hbb
      have hc0 := hc0.below hS9 hbb
      have hcp := hcp.below hS9 hbb
      replace hbb := Nat.lt_of_lt_of_le hbb (hS9).size
      have hB0 := hB0.bel hS9
      have hD6 := hD6.bel hS9
      have hb := bel_next hb hS9
      clear hS9
      generalize X2.heap.size = g8 at *
      cases hR : rgt mk48 r x
      · have HR := Lib.hid hR
        clear hR
        go_upto_region 10 with (fail)
        refine jp ?_
        refine ja hB0 Tryd.underlying24 (by rfl) info_rg ?_
        refine jg (.agg (slc x).toArray) (fun X hX hF => exec_lda 28 _ (by rfl) g8 (by rfl) Tryd.underlying28 rfl X (hD8.bel hX) (info_slc ox)) ?_
        refine jc (.bool false) (fun X hX hF => mo (srgC A n c r X (HRX.out X (bel_next hb hX)) HLN.out hn1 x ox (HKK.out X (bel_next hb hX))) (by rw [HR.out])) ?_
        refine jm (.bool true) ?_
        refine jm (.bool true) ?_
        refine jz fun X3 hX3 => ?_
        have hB0 := hB0.bel hX3
        have hD6 := hD6.bel hX3
        have hD8 := hD8.bel hX3
        have hcx := hcx.below hX3 hbb
        have hc0 := hc0.below hX3 hbb
        have hcp := hcp.below hX3 hbb
        replace hbb := Nat.lt_of_lt_of_le hbb (hX3).size
        have hb := bel_next hb hX3
        clear hX3
        have HE : Hid (lgE mk48 nm48 r l = 16) := lg_bad mk48 nm48 HC.out (by rw [HLM.out]; exact h2) HZ.out (k := k) (lgP_a (by rw [← HX.out]; exact HR.out)) (by decide) (by rw [HLM.out]; exact hlt)
        go_upto_region 11 with (fail)
        refine jp ?_
        refine jm (.int .i64 16) ?_
        refine jz fun X4 hX4 => ?_
        have hB0 := hB0.bel hX4
        have hD6 := hD6.bel hX4
        have hD8 := hD8.bel hX4
        have hcx := hcx.below hX4 hbb
        have hc0 := hc0.below hX4 hbb
        have hcp := hcp.below hX4 hbb
        replace hbb := Nat.lt_of_lt_of_le hbb (hX4).size
        have hb := bel_next hb hX4
        clear hX4
        go_wp2
        go_ret
        exact ⟨by rw [HE.out]; rfl, hb⟩
      · have HR := Lib.hid hR
        clear hR
        have hbd : x.bd.length ≤ 5000 := by have := frm_of ((rgt_iff mk48).1 HR.out).2.1; omega
        go_upto_region 10 with (fail)
        refine jp ?_
        refine ja hB0 Tryd.underlying24 (by rfl) info_rg ?_
        refine jg (.agg (slc x).toArray) (fun X hX hF => exec_lda 28 _ (by rfl) g8 (by rfl) Tryd.underlying28 rfl X (hD8.bel hX) (info_slc ox)) ?_
        refine jc (.bool true) (fun X hX hF => mo (srgC A n c r X (HRX.out X (bel_next hb hX)) HLN.out hn1 x ox (HKK.out X (bel_next hb hX))) (by rw [HR.out])) ?_
        refine jm (.bool false) ?_
        refine jm (.bool false) ?_
        refine jz fun X3 hX3 => ?_
        have hB0 := hB0.bel hX3
        have hD6 := hD6.bel hX3
        have hD8 := hD8.bel hX3
        have hcx := hcx.below hX3 hbb
        have hc0 := hc0.below hX3 hbb
        have hcp := hcp.below hX3 hbb
        replace hbb := Nat.lt_of_lt_of_le hbb (hX3).size
        have hb := bel_next hb hX3
        clear hX3
        by_cases hS : x.st = x0.st
        · have HS := Lib.hid hS
          clear hS
          by_cases hQ : x.sq = (k : Int)
          · have HQ := Lib.hid hQ
            clear hQ
            go_upto_region 12 with (fail)
            refine jd ?_
            refine jn (.pointer (some ⟨g8, 0, none⟩)) ?_
            refine jf (.int .i64 x.st) hD8 0 load_int ?_
            refine jm (.slice (some ⟨b, off, none⟩) m c') ?_
            refine jv (.pointer (some ⟨b, off + 0 * 37, none⟩)) (exec_ixv Tryd.underlying30 info_sl _ _ (by rfl) b (off) m c' 0 (by omega) (by rfl) (by rfl) rfl) ?_
            refine jn (.pointer (some ⟨b, off + 0 * 37, none⟩)) ?_
            refine jg (.int .i64 x0.st) (fun X hX hF => exec_ld 3 _ (by rfl) b (off + 0 * 37) (by rfl) _ X ((hc0.below hX hbb) 0 _ rfl) (fun X u h => load_int b (off + 0 * 37) X u h)) ?_
            refine jv (.bool false) (exec_nei _ _ _ _ (by rfl) .i64 x.st x0.st (by rfl) (by rfl) false (by rw [decide_eq_true HS.out]; rfl)) ?_
            refine jm (.bool false) ?_
            refine jn (.pointer (some ⟨g8, 1, none⟩)) ?_
            refine jf (.int .i64 x.sq) hD8 1 load_int ?_
            refine jm (.int .i64 (k : Int)) ?_
            refine jv (.bool false) (exec_nei _ _ _ _ (by rfl) .i64 x.sq (k : Int) (by rfl) (by rfl) false (by rw [decide_eq_true HQ.out]; rfl)) ?_
            refine jm (.bool false) ?_
            refine jm (.bool false) ?_
            refine jz fun X4 hX4 => ?_
            have hB0 := hB0.bel hX4
            have hD6 := hD6.bel hX4
            have hD8 := hD8.bel hX4
            have hcx := hcx.below hX4 hbb
            have hc0 := hc0.below hX4 hbb
            have hcp := hcp.below hX4 hbb
            replace hbb := Nat.lt_of_lt_of_le hbb (hX4).size
            have hb := bel_next hb hX4
            clear hX4
            by_cases hP : x.pv = bfr nm48 l k
            · have HP := Lib.hid hP
              clear hP
              go_upto_region 14 with (fail)
              refine jp ?_
              refine jn (.pointer (some ⟨g8, 5, none⟩)) ?_
              refine jg (.agg (x.pv.map B8).toArray) (fun X hX hF => exec_inr 26 _ (by rfl) g8 5 (x.pv.map B8) (by rfl) Tryd.underlying26 rfl X (hD8.bel hX) (slc_pv ox) (info_d16 ox.pv)) ?_
              refine jg (.agg ((bfr nm48 l k).map B8).toArray) (fun X hX hF => exec_lda 26 _ (by rfl) g6 (by rfl) Tryd.underlying26 rfl X (hD6.bel hX) (info_d16 HBL)) ?_
              refine jv (.bool false) (exec_nedg _ _ _ (by rfl) x.pv (bfr nm48 l k) ox.pv HBL (by rfl) (by rfl) _ (nes_f HP.out)) ?_
              refine jm (.bool false) ?_
              refine jz fun X5 hX5 => ?_
              have hB0 := hB0.bel hX5
              have hD6 := hD6.bel hX5
              have hD8 := hD8.bel hX5
              have hcx := hcx.below hX5 hbb
              have hc0 := hc0.below hX5 hbb
              have hcp := hcp.below hX5 hbb
              replace hbb := Nat.lt_of_lt_of_le hbb (hX5).size
              have hb := bel_next hb hX5
              clear hX5
              by_cases hk0 : 0 < k
              · by_cases hdd : x.dy < xp.dy
                · go_upto_region 16 with (fail)
                  refine jd ?_
                  refine jm (.int .i64 (k : Int)) ?_
                  refine jv (.bool true) (exec_gtr _ _ _ _ (by rfl) .i64 (k : Int) 0 (by rfl) (by rfl) true (decide_eq_true (by omega))) ?_
                  refine jm (.bool true) ?_
                  refine jn (.pointer (some ⟨g8, 2, none⟩)) ?_
                  refine jf (.int .i64 x.dy) hD8 2 load_int ?_
                  refine jm (.slice (some ⟨b, off, none⟩) m c') ?_
                  refine jm (.int .i64 (k : Int)) ?_
                  refine jv (.int .i64 ((k : Int) - 1)) (exec_sub _ _ _ _ (by rfl) (k : Int) 1 ((k : Int) - 1) (by rfl) (by rfl) (by omega) (by omega) (by omega)) ?_
                  refine jv (.pointer (some ⟨b, off + (k - 1) * 37, none⟩)) (exec_ixv Tryd.underlying30 info_sl _ _ (by rfl) b (off) m c' (k - 1) (by omega) (by rfl) (by rfl) (by omega)) ?_
                  refine jn (.pointer (some ⟨b, off + (k - 1) * 37 + 2, none⟩)) ?_
                  refine jg (.int .i64 xp.dy) (fun X hX hF => exec_ld 3 _ (by rfl) b (off + (k - 1) * 37 + 2) (by rfl) _ X ((hcp.below hX hbb) 2 _ rfl) (fun X u h => load_int b (off + (k - 1) * 37 + 2) X u h)) ?_
                  refine jv (.bool true) (exec_lss _ _ _ _ (by rfl) .i64 x.dy xp.dy (by rfl) (by rfl) true (decide_eq_true (by omega))) ?_
                  refine jm (.bool true) ?_
                  refine jm (.bool true) ?_
                  refine jz fun X6 hX6 => ?_
                  have hB0 := hB0.bel hX6
                  have hD6 := hD6.bel hX6
                  have hD8 := hD8.bel hX6
                  have hcx := hcx.below hX6 hbb
                  have hc0 := hc0.below hX6 hbb
                  have hcp := hcp.below hX6 hbb
                  replace hbb := Nat.lt_of_lt_of_le hbb (hX6).size
                  have hb := bel_next hb hX6
                  clear hX6
                  have HE : Hid (lgE mk48 nm48 r l = 4) := lg_bad mk48 nm48 HC.out (by rw [HLM.out]; exact h2) HZ.out (k := k) (lgP_d (by rw [← HX.out]; exact HR.out) (by rw [← HX.out, ← HX0.out]; exact HS.out) (by rw [← HX.out]; exact HQ.out) (by rw [← HX.out]; exact HP.out) hk0 (by rw [← HX.out, ← HXP.out]; exact hdd)) (by decide) (by rw [HLM.out]; exact hlt)
                  go_upto_region 17 with (fail)
                  refine jp ?_
                  refine jm (.int .i64 4) ?_
                  refine jz fun X7 hX7 => ?_
                  have hB0 := hB0.bel hX7
                  have hD6 := hD6.bel hX7
                  have hD8 := hD8.bel hX7
                  have hcx := hcx.below hX7 hbb
                  have hc0 := hc0.below hX7 hbb
                  have hcp := hcp.below hX7 hbb
                  replace hbb := Nat.lt_of_lt_of_le hbb (hX7).size
                  have hb := bel_next hb hX7
                  clear hX7
                  go_wp2
                  go_ret
                  exact ⟨by rw [HE.out]; rfl, hb⟩
                · have hD : 0 < k → xp.dy ≤ x.dy := fun h9 => by omega
                  go_upto_region 16 with (fail)
                  refine jd ?_
                  refine jm (.int .i64 (k : Int)) ?_
                  refine jv (.bool true) (exec_gtr _ _ _ _ (by rfl) .i64 (k : Int) 0 (by rfl) (by rfl) true (decide_eq_true (by omega))) ?_
                  refine jm (.bool true) ?_
                  refine jn (.pointer (some ⟨g8, 2, none⟩)) ?_
                  refine jf (.int .i64 x.dy) hD8 2 load_int ?_
                  refine jm (.slice (some ⟨b, off, none⟩) m c') ?_
                  refine jm (.int .i64 (k : Int)) ?_
                  refine jv (.int .i64 ((k : Int) - 1)) (exec_sub _ _ _ _ (by rfl) (k : Int) 1 ((k : Int) - 1) (by rfl) (by rfl) (by omega) (by omega) (by omega)) ?_
                  refine jv (.pointer (some ⟨b, off + (k - 1) * 37, none⟩)) (exec_ixv Tryd.underlying30 info_sl _ _ (by rfl) b (off) m c' (k - 1) (by omega) (by rfl) (by rfl) (by omega)) ?_
                  refine jn (.pointer (some ⟨b, off + (k - 1) * 37 + 2, none⟩)) ?_
                  refine jg (.int .i64 xp.dy) (fun X hX hF => exec_ld 3 _ (by rfl) b (off + (k - 1) * 37 + 2) (by rfl) _ X ((hcp.below hX hbb) 2 _ rfl) (fun X u h => load_int b (off + (k - 1) * 37 + 2) X u h)) ?_
                  refine jv (.bool false) (exec_lss _ _ _ _ (by rfl) .i64 x.dy xp.dy (by rfl) (by rfl) false (decide_eq_false (by omega))) ?_
                  refine jm (.bool false) ?_
                  refine jm (.bool false) ?_
                  refine jz fun X6 hX6 => ?_
                  have hB0 := hB0.bel hX6
                  have hD6 := hD6.bel hX6
                  have hD8 := hD8.bel hX6
                  have hcx := hcx.below hX6 hbb
                  have hc0 := hc0.below hX6 hbb
                  have hcp := hcp.below hX6 hbb
                  replace hbb := Nat.lt_of_lt_of_le hbb (hX6).size
                  have hb := bel_next hb hX6
                  clear hX6
                  go_upto_region 18 with (fail)
                  refine jq 2 ?_
                  refine jg (.agg (slc x).toArray) (fun X hX hF => exec_lda 28 _ (by rfl) g8 (by rfl) Tryd.underlying28 rfl X (hD8.bel hX) (info_slc ox)) ?_
                  refine jc (.agg ((nm48 x).map B8).toArray) (fun X hX hF => snmC x X ox hbd (HKK.out X (bel_next hb hX))) ?_
                  refine jz fun X7 hX7 => ?_
                  have hB0 := hB0.bel hX7
                  have hD6 := hD6.bel hX7
                  have hD8 := hD8.bel hX7
                  have hcx := hcx.below hX7 hbb
                  have hc0 := hc0.below hX7 hbb
                  have hcp := hcp.below hX7 hbb
                  replace hbb := Nat.lt_of_lt_of_le hbb (hX7).size
                  have hb := bel_next hb hX7
                  clear hX7
                  refine op_store_blk rfl 26 (.tmp 6) (.tmp 63) rfl g6 26 _ hD6 rfl ((nm48 x).map B8) rfl (by rw [List.length_map, List.length_map, nm_len, HBL]) (B8s_one _) (info_d16 (nm_len _)) ?_
                  intro w9 hR9 hO9 hB9 hs9
                  have hB0 := hO9 _ _ _ (by omega) hB0
                  have hb := hB9 _ _ hb (by omega)
                  clear hO9 hB9 hD6 hD8 hcx hc0 hcp
                  go_upto_region 19 with (fail)
                  refine jp ?_
                  refine jv (.int .i64 ((k + 1 : Nat) : Int)) (exec_add _ _ _ _ (by rfl) (k : Int) 1 ((k + 1 : Nat) : Int) (by rfl) (by rfl) (by omega) (by omega) (by omega)) ?_
                  refine jm (.int .i64 ((k + 1 : Nat) : Int)) ?_
                  refine jz fun X8 hX8 => ?_
                  have hB0 := hB0.bel hX8
                  have hR9 := hR9.bel hX8
                  have hb := bel_next hb hX8
                  clear hX8
                  have HZ2 : Hid (∀ j, j < k + 1 → lgP mk48 nm48 r l j = 0) := fun j hj => by
                    rcases Nat.lt_or_ge j k with h9 | h9
                    · exact HZ.out j h9
                    · rw [show j = k by omega]
                      exact (lgP_zero mk48 nm48).2 ⟨(by rw [← HX.out]; exact HR.out), (by rw [← HX.out, ← HX0.out]; exact HS.out), (by rw [← HX.out]; exact HQ.out), (by rw [← HX.out]; exact HP.out), fun h8 => by rw [← HX.out, ← HXP.out]; exact hD h8⟩
                  rw [HX.out, ← bfr_next] at hR9
                  go_wp2
                  go_roundw
                  case rel => exact ⟨k + 1, by omega, rfl, HZ2, hB0, hR9, hb⟩
                  case measure => simp [intOf]; omega
              · have hD : 0 < k → xp.dy ≤ x.dy := fun h9 => by omega
                go_upto_region 16 with (fail)
                refine jd ?_
                refine jm (.int .i64 (k : Int)) ?_
                refine jv (.bool false) (exec_gtr _ _ _ _ (by rfl) .i64 (k : Int) 0 (by rfl) (by rfl) false (decide_eq_false (by omega))) ?_
                refine jm (.bool false) ?_
                refine js ?_
                refine js ?_
                refine js ?_
                refine js ?_
                refine js ?_
                refine js ?_
                refine js ?_
                refine js ?_
                refine js ?_
                refine jm (.bool false) ?_
                refine jm (.bool false) ?_
                refine jz fun X6 hX6 => ?_
                have hB0 := hB0.bel hX6
                have hD6 := hD6.bel hX6
                have hD8 := hD8.bel hX6
                have hcx := hcx.below hX6 hbb
                have hc0 := hc0.below hX6 hbb
                have hcp := hcp.below hX6 hbb
                replace hbb := Nat.lt_of_lt_of_le hbb (hX6).size
                have hb := bel_next hb hX6
                clear hX6
                go_upto_region 18 with (fail)
                refine jq 2 ?_
                refine jg (.agg (slc x).toArray) (fun X hX hF => exec_lda 28 _ (by rfl) g8 (by rfl) Tryd.underlying28 rfl X (hD8.bel hX) (info_slc ox)) ?_
                refine jc (.agg ((nm48 x).map B8).toArray) (fun X hX hF => snmC x X ox hbd (HKK.out X (bel_next hb hX))) ?_
                refine jz fun X7 hX7 => ?_
                have hB0 := hB0.bel hX7
                have hD6 := hD6.bel hX7
                have hD8 := hD8.bel hX7
                have hcx := hcx.below hX7 hbb
                have hc0 := hc0.below hX7 hbb
                have hcp := hcp.below hX7 hbb
                replace hbb := Nat.lt_of_lt_of_le hbb (hX7).size
                have hb := bel_next hb hX7
                clear hX7
                refine op_store_blk rfl 26 (.tmp 6) (.tmp 63) rfl g6 26 _ hD6 rfl ((nm48 x).map B8) rfl (by rw [List.length_map, List.length_map, nm_len, HBL]) (B8s_one _) (info_d16 (nm_len _)) ?_
                intro w9 hR9 hO9 hB9 hs9
                have hB0 := hO9 _ _ _ (by omega) hB0
                have hb := hB9 _ _ hb (by omega)
                clear hO9 hB9 hD6 hD8 hcx hc0 hcp
                go_upto_region 19 with (fail)
                refine jp ?_
                refine jv (.int .i64 ((k + 1 : Nat) : Int)) (exec_add _ _ _ _ (by rfl) (k : Int) 1 ((k + 1 : Nat) : Int) (by rfl) (by rfl) (by omega) (by omega) (by omega)) ?_
                refine jm (.int .i64 ((k + 1 : Nat) : Int)) ?_
                refine jz fun X8 hX8 => ?_
                have hB0 := hB0.bel hX8
                have hR9 := hR9.bel hX8
                have hb := bel_next hb hX8
                clear hX8
                have HZ2 : Hid (∀ j, j < k + 1 → lgP mk48 nm48 r l j = 0) := fun j hj => by
                  rcases Nat.lt_or_ge j k with h9 | h9
                  · exact HZ.out j h9
                  · rw [show j = k by omega]
                    exact (lgP_zero mk48 nm48).2 ⟨(by rw [← HX.out]; exact HR.out), (by rw [← HX.out, ← HX0.out]; exact HS.out), (by rw [← HX.out]; exact HQ.out), (by rw [← HX.out]; exact HP.out), fun h8 => by rw [← HX.out, ← HXP.out]; exact hD h8⟩
                rw [HX.out, ← bfr_next] at hR9
                go_wp2
                go_roundw
                case rel => exact ⟨k + 1, by omega, rfl, HZ2, hB0, hR9, hb⟩
                case measure => simp [intOf]; omega
            · have HP : Hid (x.pv ≠ bfr nm48 l k) := hP
              clear hP
              go_upto_region 14 with (fail)
              refine jp ?_
              refine jn (.pointer (some ⟨g8, 5, none⟩)) ?_
              refine jg (.agg (x.pv.map B8).toArray) (fun X hX hF => exec_inr 26 _ (by rfl) g8 5 (x.pv.map B8) (by rfl) Tryd.underlying26 rfl X (hD8.bel hX) (slc_pv ox) (info_d16 ox.pv)) ?_
              refine jg (.agg ((bfr nm48 l k).map B8).toArray) (fun X hX hF => exec_lda 26 _ (by rfl) g6 (by rfl) Tryd.underlying26 rfl X (hD6.bel hX) (info_d16 HBL)) ?_
              refine jv (.bool true) (exec_nedg _ _ _ (by rfl) x.pv (bfr nm48 l k) ox.pv HBL (by rfl) (by rfl) _ (nes_t HP.out)) ?_
              refine jm (.bool true) ?_
              refine jz fun X5 hX5 => ?_
              have hB0 := hB0.bel hX5
              have hD6 := hD6.bel hX5
              have hD8 := hD8.bel hX5
              have hcx := hcx.below hX5 hbb
              have hc0 := hc0.below hX5 hbb
              have hcp := hcp.below hX5 hbb
              replace hbb := Nat.lt_of_lt_of_le hbb (hX5).size
              have hb := bel_next hb hX5
              clear hX5
              have HE : Hid (lgE mk48 nm48 r l = 23) := lg_bad mk48 nm48 HC.out (by rw [HLM.out]; exact h2) HZ.out (k := k) (lgP_c (by rw [← HX.out]; exact HR.out) (by rw [← HX.out, ← HX0.out]; exact HS.out) (by rw [← HX.out]; exact HQ.out) (by rw [← HX.out]; exact HP.out)) (by decide) (by rw [HLM.out]; exact hlt)
              go_upto_region 15 with (fail)
              refine jp ?_
              refine jm (.int .i64 23) ?_
              refine jz fun X6 hX6 => ?_
              have hB0 := hB0.bel hX6
              have hD6 := hD6.bel hX6
              have hD8 := hD8.bel hX6
              have hcx := hcx.below hX6 hbb
              have hc0 := hc0.below hX6 hbb
              have hcp := hcp.below hX6 hbb
              replace hbb := Nat.lt_of_lt_of_le hbb (hX6).size
              have hb := bel_next hb hX6
              clear hX6
              go_wp2
              go_ret
              exact ⟨by rw [HE.out]; rfl, hb⟩
          · have HQ : Hid (x.sq ≠ (k : Int)) := hQ
            clear hQ
            go_upto_region 12 with (fail)
            refine jd ?_
            refine jn (.pointer (some ⟨g8, 0, none⟩)) ?_
            refine jf (.int .i64 x.st) hD8 0 load_int ?_
            refine jm (.slice (some ⟨b, off, none⟩) m c') ?_
            refine jv (.pointer (some ⟨b, off + 0 * 37, none⟩)) (exec_ixv Tryd.underlying30 info_sl _ _ (by rfl) b (off) m c' 0 (by omega) (by rfl) (by rfl) rfl) ?_
            refine jn (.pointer (some ⟨b, off + 0 * 37, none⟩)) ?_
            refine jg (.int .i64 x0.st) (fun X hX hF => exec_ld 3 _ (by rfl) b (off + 0 * 37) (by rfl) _ X ((hc0.below hX hbb) 0 _ rfl) (fun X u h => load_int b (off + 0 * 37) X u h)) ?_
            refine jv (.bool false) (exec_nei _ _ _ _ (by rfl) .i64 x.st x0.st (by rfl) (by rfl) false (by rw [decide_eq_true HS.out]; rfl)) ?_
            refine jm (.bool false) ?_
            refine jn (.pointer (some ⟨g8, 1, none⟩)) ?_
            refine jf (.int .i64 x.sq) hD8 1 load_int ?_
            refine jm (.int .i64 (k : Int)) ?_
            refine jv (.bool true) (exec_nei _ _ _ _ (by rfl) .i64 x.sq (k : Int) (by rfl) (by rfl) true (by rw [decide_eq_false HQ.out]; rfl)) ?_
            refine jm (.bool true) ?_
            refine jm (.bool true) ?_
            refine jz fun X4 hX4 => ?_
            have hB0 := hB0.bel hX4
            have hD6 := hD6.bel hX4
            have hD8 := hD8.bel hX4
            have hcx := hcx.below hX4 hbb
            have hc0 := hc0.below hX4 hbb
            have hcp := hcp.below hX4 hbb
            replace hbb := Nat.lt_of_lt_of_le hbb (hX4).size
            have hb := bel_next hb hX4
            clear hX4
            have HE : Hid (lgE mk48 nm48 r l = 1) := lg_bad mk48 nm48 HC.out (by rw [HLM.out]; exact h2) HZ.out (k := k) (lgP_b (by rw [← HX.out]; exact HR.out) (.inr (by rw [← HX.out]; exact HQ.out))) (by decide) (by rw [HLM.out]; exact hlt)
            go_upto_region 13 with (fail)
            refine jp ?_
            refine jm (.int .i64 1) ?_
            refine jz fun X5 hX5 => ?_
            have hB0 := hB0.bel hX5
            have hD6 := hD6.bel hX5
            have hD8 := hD8.bel hX5
            have hcx := hcx.below hX5 hbb
            have hc0 := hc0.below hX5 hbb
            have hcp := hcp.below hX5 hbb
            replace hbb := Nat.lt_of_lt_of_le hbb (hX5).size
            have hb := bel_next hb hX5
            clear hX5
            go_wp2
            go_ret
            exact ⟨by rw [HE.out]; rfl, hb⟩
        · have HS : Hid (x.st ≠ x0.st) := hS
          clear hS
          go_upto_region 12 with (fail)
          refine jd ?_
          refine jn (.pointer (some ⟨g8, 0, none⟩)) ?_
          refine jf (.int .i64 x.st) hD8 0 load_int ?_
          refine jm (.slice (some ⟨b, off, none⟩) m c') ?_
          refine jv (.pointer (some ⟨b, off + 0 * 37, none⟩)) (exec_ixv Tryd.underlying30 info_sl _ _ (by rfl) b (off) m c' 0 (by omega) (by rfl) (by rfl) rfl) ?_
          refine jn (.pointer (some ⟨b, off + 0 * 37, none⟩)) ?_
          refine jg (.int .i64 x0.st) (fun X hX hF => exec_ld 3 _ (by rfl) b (off + 0 * 37) (by rfl) _ X ((hc0.below hX hbb) 0 _ rfl) (fun X u h => load_int b (off + 0 * 37) X u h)) ?_
          refine jv (.bool true) (exec_nei _ _ _ _ (by rfl) .i64 x.st x0.st (by rfl) (by rfl) true (by rw [decide_eq_false HS.out]; rfl)) ?_
          refine jm (.bool true) ?_
          refine js ?_
          refine js ?_
          refine js ?_
          refine js ?_
          refine jm (.bool true) ?_
          refine jm (.bool true) ?_
          refine jz fun X4 hX4 => ?_
          have hB0 := hB0.bel hX4
          have hD6 := hD6.bel hX4
          have hD8 := hD8.bel hX4
          have hcx := hcx.below hX4 hbb
          have hc0 := hc0.below hX4 hbb
          have hcp := hcp.below hX4 hbb
          replace hbb := Nat.lt_of_lt_of_le hbb (hX4).size
          have hb := bel_next hb hX4
          clear hX4
          have HE : Hid (lgE mk48 nm48 r l = 1) := lg_bad mk48 nm48 HC.out (by rw [HLM.out]; exact h2) HZ.out (k := k) (lgP_b (by rw [← HX.out]; exact HR.out) (.inl (by rw [← HX.out, ← HX0.out]; exact HS.out))) (by decide) (by rw [HLM.out]; exact hlt)
          go_upto_region 13 with (fail)
          refine jp ?_
          refine jm (.int .i64 1) ?_
          refine jz fun X5 hX5 => ?_
          have hB0 := hB0.bel hX5
          have hD6 := hD6.bel hX5
          have hD8 := hD8.bel hX5
          have hcx := hcx.below hX5 hbb
          have hc0 := hc0.below hX5 hbb
          have hcp := hcp.below hX5 hbb
          replace hbb := Nat.lt_of_lt_of_le hbb (hX5).size
          have hb := bel_next hb hX5
          clear hX5
          go_wp2
          go_ret
          exact ⟨by rw [HE.out]; rfl, hb⟩
    · obtain rfl : k = m := by omega
      have HE : Hid (lgE mk48 nm48 r l = 0) := lg_ok HC.out (by rw [HLM.out]; exact h2) (fun j hj => HZ.out j (by rw [HLM.out] at hj; exact hj))
      go_upto_region 8 with (fail)
      refine jp ?_
      refine jv (.bool false) (exec_lss _ _ _ _ (by rfl) .i64 (k : Int) (k : Int) (by rfl) (by rfl) false (decide_eq_false (by omega))) ?_
      refine jz fun X1 hX1 => ?_
      have hB0 := hB0.bel hX1
      have hD6 := hD6.bel hX1
      have hb := bel_next hb hX1
      clear hX1
      go_upto_region 20 with (fail)
      refine jp ?_
      refine jm (.int .i64 0) ?_
      refine jz fun X2 hX2 => ?_
      have hB0 := hB0.bel hX2
      have hD6 := hD6.bel hX2
      have hb := bel_next hb hX2
      clear hX2
      go_wp2
      go_ret
      exact ⟨by rw [HE.out]; rfl, hb⟩
theorem slgC (A : Option Addr) (n c : Nat) (r : List (List UInt8)) (w : World) (hr : Rd w 1 (.slice A n c) n (r.map tx)) (hln : r.length = n) (hn1 : n ≤ 9223372036854775807) (A' : Option Addr) (m c' : Nat) (l : List Sl) (hrl : Rd w 37 (.slice A' m c') m (fl slc l)) (hlm : l.length = m) (hm1 : m ≤ 9223372036854775807) (hok : ∀ s ∈ l, SlOk s) (hK : KK w) : Calls Tryd.prog 24 #[.agg #[.slice A n c], .slice A' m c'] w fun e w' => e = .returned (.int .i64 (lgE mk48 nm48 r l)) ∧ Since w w' := by
  by_cases h : rckE r = 0
  · by_cases h2 : m ≤ 4000
    · exact slgM A n c r w hr hln hn1 A' m c' l hrl hlm hm1 hok hK h h2
    · exact slg2 A n c r w hr hln hn1 A' m c' l hrl hlm hm1 hok hK h (by omega)
  · exact slg1 A n c r w hr hln hn1 A' m c' l hrl hlm hm1 hok hK h
end Go.Proofs.YthinopepcmidmaaDoor
