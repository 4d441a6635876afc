/-
  Reference of layer 48: Log.
-/
import Derived.Test.YthinopepcmidmaaDoorRd48
set_option linter.unusedSimpArgs false
set_option linter.unusedVariables false
set_option maxRecDepth 100000
set_option maxHeartbeats 1600000
namespace Go.Proofs.YthinopepcmidmaaDoor
open Go.RowKit
theorem bfr_zero (l : List Sl) {k : Nat} (h : k = 0) : bfr nm48 l k = z16b := if_pos h
theorem bfr_prev (l : List Sl) {k : Nat} (h : 0 < k) : bfr nm48 l k = nm48 (sAt l (k - 1)) := if_neg (by omega)
theorem rlg1 (A : Option Addr) (n c : Nat) (r : List (List UInt8)) (w : World) (hr : Rd w 1 (.slice A n c) n (r.map tx)) (hln : r.length = n) (hn1 : n ≤ 9223372036854775807) (A' : Option Addr) (m c' : Nat) (l : List Sl) (hrl : Rd w 37 (.slice A' m c') m (fl slc l)) (hlm : l.length = m) (hm1 : m ≤ 9223372036854775807) (hok : ∀ s ∈ l, SlOk s) (hK : KK0 w) (h : ¬ rckE r = 0) : Calls Tryd.prog 25 #[.agg #[.slice A n c], .slice A' m c'] w fun e w' => e = .returned (.int .i64 (lgE mk48 nm48 r l)) ∧ Since w w' := by
  have HC : Hid (¬ rckE r = 0) := h
  have HE : Hid (lgE mk48 nm48 r l = rckE r) := lg_ck h
  clear h
  have hz := zero16
  have hzs := zeroSl
  have hzm := zeroMd
  have HKK : Hid (∀ X, Since w X → KK0 X) := fun X h => KK0.since hK h
  have HRX : Hid (∀ X, Since w X → Rd X 1 (.slice A n c) n (r.map tx)) := fun X h => hr.below h
  have HLN := Lib.hid hln
  have HRL : Hid (∀ X, Since w X → Rd X 37 (.slice A' m c') m (fl slc l)) := fun X h => hrl.below h
  have HLM := Lib.hid hlm
  have HOK := Lib.hid hok
  clear hK hr hrl hln hlm hok
  go_enter Tryd.func25, Tryd.ntmps25
  go_upto_region 1 with (fail)
  obtain ⟨W0, hW0, hB0, hb⟩ := start1 w 24 [.slice A n c]
  rw [← hW0]
  clear hW0
  refine jp ?_
  refine ja hB0 Tryd.underlying24 (by rfl) info_rg ?_
  refine jc (.int .i64 (rckE r)) (fun X hX hF => rckC A n c r X (HRX.out X (bel_next hb hX)) HLN.out hn1) ?_
  refine jm (.int .i64 (rckE r)) ?_
  refine jz fun X1 hX1 => ?_
  have hB0 := hB0.bel hX1
  have hb := bel_next hb hX1
  clear hX1
  go_upto_region 2 with (fail)
  refine jp ?_
  refine jm (.int .i64 (rckE r)) ?_
  refine jv (.bool true) (exec_nei _ _ _ _ (by rfl) .i64 (rckE r) 0 (by rfl) (by rfl) true (by rw [decide_eq_false HC.out]; rfl)) ?_
  refine jz fun X2 hX2 => ?_
  have hB0 := hB0.bel hX2
  have hb := bel_next hb hX2
  clear hX2
  go_upto_region 3 with (fail)
  refine jp ?_
  refine jm (.int .i64 (rckE r)) ?_
  refine jm (.int .i64 (rckE r)) ?_
  refine jz fun X3 hX3 => ?_
  have hB0 := hB0.bel hX3
  have hb := bel_next hb hX3
  clear hX3
  go_wp2
  go_ret
  exact ⟨by rw [HE.out]; rfl, hb⟩
theorem rlg2 (A : Option Addr) (n c : Nat) (r : List (List UInt8)) (w : World) (hr : Rd w 1 (.slice A n c) n (r.map tx)) (hln : r.length = n) (hn1 : n ≤ 9223372036854775807) (A' : Option Addr) (m c' : Nat) (l : List Sl) (hrl : Rd w 37 (.slice A' m c') m (fl slc l)) (hlm : l.length = m) (hm1 : m ≤ 9223372036854775807) (hok : ∀ s ∈ l, SlOk s) (hK : KK0 w) (h : rckE r = 0) (h2 : 4000 < m) : Calls Tryd.prog 25 #[.agg #[.slice A n c], .slice A' m c'] w fun e w' => e = .returned (.int .i64 (lgE mk48 nm48 r l)) ∧ Since w w' := by
  have HC := Lib.hid h
  have HE : Hid (lgE mk48 nm48 r l = 2) := lg_lim h (by omega)
  clear h
  have hz := zero16
  have hzs := zeroSl
  have hzm := zeroMd
  have HKK : Hid (∀ X, Since w X → KK0 X) := fun X h => KK0.since hK h
  have HRX : Hid (∀ X, Since w X → Rd X 1 (.slice A n c) n (r.map tx)) := fun X h => hr.below h
  have HLN := Lib.hid hln
  have HRL : Hid (∀ X, Since w X → Rd X 37 (.slice A' m c') m (fl slc l)) := fun X h => hrl.below h
  have HLM := Lib.hid hlm
  have HOK := Lib.hid hok
  clear hK hr hrl hln hlm hok
  go_enter Tryd.func25, Tryd.ntmps25
  go_upto_region 1 with (fail)
  obtain ⟨W0, hW0, hB0, hb⟩ := start1 w 24 [.slice A n c]
  rw [← hW0]
  clear hW0
  refine jp ?_
  refine ja hB0 Tryd.underlying24 (by rfl) info_rg ?_
  refine jc (.int .i64 (rckE r)) (fun X hX hF => rckC A n c r X (HRX.out X (bel_next hb hX)) HLN.out hn1) ?_
  refine jm (.int .i64 (rckE r)) ?_
  refine jz fun X1 hX1 => ?_
  have hB0 := hB0.bel hX1
  have hb := bel_next hb hX1
  clear hX1
  go_upto_region 2 with (fail)
  refine jp ?_
  refine jm (.int .i64 (rckE r)) ?_
  refine jv (.bool false) (exec_nei _ _ _ _ (by rfl) .i64 (rckE r) 0 (by rfl) (by rfl) false (by rw [decide_eq_true HC.out]; rfl)) ?_
  refine jz fun X2 hX2 => ?_
  have hB0 := hB0.bel hX2
  have hb := bel_next hb hX2
  clear hX2
  go_upto_region 4 with (fail)
  refine jp ?_
  refine jm (.slice A' m c') ?_
  refine jv (.int .i64 (m : Int)) (exec_lenv Tryd.underlying30 _ (by rfl) A' m c' (by rfl) _ rfl) ?_
  refine jv (.bool true) (exec_gtr _ _ _ _ (by rfl) .i64 (m : Int) 4000 (by rfl) (by rfl) true (decide_eq_true (by omega))) ?_
  refine jz fun X3 hX3 => ?_
  have hB0 := hB0.bel hX3
  have hb := bel_next hb hX3
  clear hX3
  go_upto_region 5 with (fail)
  refine jp ?_
  refine jm (.int .i64 2) ?_
  refine jz fun X4 hX4 => ?_
  have hB0 := hB0.bel hX4
  have hb := bel_next hb hX4
  clear hX4
  go_wp2
  go_ret
  exact ⟨by rw [HE.out]; rfl, hb⟩
theorem rlgM (A : Option Addr) (n c : Nat) (r : List (List UInt8)) (w : World) (hr : Rd w 1 (.slice A n c) n (r.map tx)) (hln : r.length = n) (hn1 : n ≤ 9223372036854775807) (A' : Option Addr) (m c' : Nat) (l : List Sl) (hrl : Rd w 37 (.slice A' m c') m (fl slc l)) (hlm : l.length = m) (hm1 : m ≤ 9223372036854775807) (hok : ∀ s ∈ l, SlOk s) (hK : KK0 w) (h : rckE r = 0) (h2 : m ≤ 4000) : Calls Tryd.prog 25 #[.agg #[.slice A n c], .slice A' m c'] w fun e w' => e = .returned (.int .i64 (lgE mk48 nm48 r l)) ∧ Since w w' := by
  have HC := Lib.hid h
  clear h
  have hz := zero16
  have hzs := zeroSl
  have hzm := zeroMd
  have HKK : Hid (∀ X, Since w X → KK0 X) := fun X h => KK0.since hK h
  have HRX : Hid (∀ X, Since w X → Rd X 1 (.slice A n c) n (r.map tx)) := fun X h => hr.below h
  have HLN := Lib.hid hln
  have HRL : Hid (∀ X, Since w X → Rd X 37 (.slice A' m c') m (fl slc l)) := fun X h => hrl.below h
  have HLM := Lib.hid hlm
  have HOK := Lib.hid hok
  clear hK hr hrl hln hlm hok
  go_enter Tryd.func25, Tryd.ntmps25
  go_upto_region 1 with (fail)
  obtain ⟨W0, hW0, hB0, hb⟩ := start1 w 24 [.slice A n c]
  rw [← hW0]
  clear hW0
  refine jp ?_
  refine ja hB0 Tryd.underlying24 (by rfl) info_rg ?_
  refine jc (.int .i64 (rckE r)) (fun X hX hF => rckC A n c r X (HRX.out X (bel_next hb hX)) HLN.out hn1) ?_
  refine jm (.int .i64 (rckE r)) ?_
  refine jz fun X1 hX1 => ?_
  have hB0 := hB0.bel hX1
  have hb := bel_next hb hX1
  clear hX1
  go_upto_region 2 with (fail)
  refine jp ?_
  refine jm (.int .i64 (rckE r)) ?_
  refine jv (.bool false) (exec_nei _ _ _ _ (by rfl) .i64 (rckE r) 0 (by rfl) (by rfl) false (by rw [decide_eq_true HC.out]; rfl)) ?_
  refine jz fun X2 hX2 => ?_
  have hB0 := hB0.bel hX2
  have hb := bel_next hb hX2
  clear hX2
  go_upto_region 4 with (fail)
  refine jp ?_
  refine jm (.slice A' m c') ?_
  refine jv (.int .i64 (m : Int)) (exec_lenv Tryd.underlying30 _ (by rfl) A' m c' (by rfl) _ rfl) ?_
  refine jv (.bool false) (exec_gtr _ _ _ _ (by rfl) .i64 (m : Int) 4000 (by rfl) (by rfl) false (decide_eq_false (by omega))) ?_
  refine jz fun X3 hX3 => ?_
  have hB0 := hB0.bel hX3
  have hb := bel_next hb hX3
  clear hX3
  go_upto_region 6 with (fail)
  refine jp ?_
  refine jm (.int .i64 0) ?_
  refine jz fun X4 hX4 => ?_
  have hB0 := hB0.bel hX4
  have hb := bel_next hb hX4
  clear hX4
  go_wp2
  go_loopw [6] (fun kv wr => ∃ k : Nat, k ≤ m ∧ kv = .int .i64 (k : Int) ∧ Hid (∀ j, j < k → lgP mk48 nm48 r l j = 0) ∧ Blk wr w.heap.size 24 [.slice A n c] ∧ Below w.heap.size w wr) (fun kv _ => m - (intOf kv).toNat)
  case atStart => exact ⟨0, by omega, rfl, (fun j hj => by omega), hB0, hb⟩
  case round =>
    clear hB0 hb
    obtain ⟨k, hk, rfl, HZ, hB0, hb⟩ := hrel
    rcases Nat.lt_or_ge k m with hlt | hlt
    · obtain ⟨b, off, rfl, hbb, hall⟩ := (HRL.out _ hb).sls HOK.out HLM.out (by omega)
      have hcx := hall k hlt
      have hc0 := hall 0 (by omega)
      have hcp := hall (k - 1) (by omega)
      clear hall
      have ox := ok_at HOK.out (k := k) (by rw [HLM.out]; exact hlt)
      have oxp := ok_at HOK.out (k := k - 1) (by rw [HLM.out]; omega)
      obtain ⟨x, hx9⟩ : ∃ x, x = sAt l k := ⟨_, rfl⟩
      obtain ⟨x0, hx0⟩ : ∃ x, x = sAt l 0 := ⟨_, rfl⟩
      obtain ⟨xp, hxp⟩ : ∃ x, x = sAt l (k - 1) := ⟨_, rfl⟩
      rw [← hx9] at hcx ox
      rw [← hx0] at hc0
      rw [← hxp] at hcp oxp
      have HX := Lib.hid hx9
      have HX0 := Lib.hid hx0
      have HXP := Lib.hid hxp
      clear hx9 hx0 hxp
      go_upto_region 7 with (fail)
      refine jp ?_
      refine jm (.int .i64 (k : Int)) ?_
      refine jm (.slice (some ⟨b, off, none⟩) m c') ?_
      refine jv (.int .i64 (m : Int)) (exec_lenv Tryd.underlying30 _ (by rfl) (some ⟨b, off, none⟩) m c' (by rfl) _ rfl) ?_
      refine jv (.bool true) (exec_lss _ _ _ _ (by rfl) .i64 (k : Int) (m : Int) (by rfl) (by rfl) true (decide_eq_true (by omega))) ?_
      refine jz fun X1 hX1 => ?_
      have hB0 := hB0.bel hX1
      have hcx := hcx.below hX1 hbb
      have hc0 := hc0.below hX1 hbb
      have hcp := hcp.below hX1 hbb
      replace hbb := Nat.lt_of_lt_of_le hbb (hX1).size
      have hb := bel_next hb hX1
      clear hX1
      cases hR : rgt mk48 r x
      · have HR := Lib.hid hR
        clear hR
        go_upto_region 9 with (fail)
        refine jd ?_
        refine ja hB0 Tryd.underlying24 (by rfl) info_rg ?_
        refine jm (.slice (some ⟨b, off, none⟩) m c') ?_
        refine jm (.int .i64 (k : Int)) ?_
        refine jv (.pointer (some ⟨b, off + k * 37, none⟩)) (exec_ixv Tryd.underlying30 info_sl _ _ (by rfl) b (off) m c' k (by omega) (by rfl) (by rfl) rfl) ?_
        refine jg (.agg (slc x).toArray) (fun X hX hF => exec_ldc 28 _ (by rfl) b (off + k * 37) (by rfl) Tryd.underlying28 rfl (slc x) X (hcx.below hX hbb) (info_slc ox)) ?_
        refine jc (.bool false) (fun X hX hF => mo (rrgC A n c r X (HRX.out X (bel_next hb hX)) HLN.out hn1 x ox (HKK.out X (bel_next hb hX))) (by rw [HR.out])) ?_
        refine jm (.bool false) ?_
        refine jz fun X2 hX2 => ?_
        have hB0 := hB0.bel hX2
        have hcx := hcx.below hX2 hbb
        have hc0 := hc0.below hX2 hbb
        have hcp := hcp.below hX2 hbb
        replace hbb := Nat.lt_of_lt_of_le hbb (hX2).size
        have hb := bel_next hb hX2
        clear hX2
        go_upto_region 10 with (fail)
        refine jp ?_
        refine jm (.bool false) ?_
        refine jm (.bool true) ?_
        refine jz fun X3 hX3 => ?_
        have hB0 := hB0.bel hX3
        have hcx := hcx.below hX3 hbb
        have hc0 := hc0.below hX3 hbb
        have hcp := hcp.below hX3 hbb
        replace hbb := Nat.lt_of_lt_of_le hbb (hX3).size
        have hb := bel_next hb hX3
        clear hX3
        have HE : Hid (lgE mk48 nm48 r l = 16) := lg_bad mk48 nm48 HC.out (by rw [HLM.out]; exact h2) HZ.out (k := k) (lgP_a (by rw [← HX.out]; exact HR.out)) (by decide) (by rw [HLM.out]; exact hlt)
        go_upto_region 11 with (fail)
        refine jp ?_
        refine jm (.int .i64 16) ?_
        refine jz fun X4 hX4 => ?_
        have hB0 := hB0.bel hX4
        have hcx := hcx.below hX4 hbb
        have hc0 := hc0.below hX4 hbb
        have hcp := hcp.below hX4 hbb
        replace hbb := Nat.lt_of_lt_of_le hbb (hX4).size
        have hb := bel_next hb hX4
        clear hX4
        go_wp2
        go_ret
        exact ⟨by rw [HE.out]; rfl, hb⟩
      · have HR := Lib.hid hR
        clear hR
        go_upto_region 9 with (fail)
        refine jd ?_
        refine ja hB0 Tryd.underlying24 (by rfl) info_rg ?_
        refine jm (.slice (some ⟨b, off, none⟩) m c') ?_
        refine jm (.int .i64 (k : Int)) ?_
        refine jv (.pointer (some ⟨b, off + k * 37, none⟩)) (exec_ixv Tryd.underlying30 info_sl _ _ (by rfl) b (off) m c' k (by omega) (by rfl) (by rfl) rfl) ?_
        refine jg (.agg (slc x).toArray) (fun X hX hF => exec_ldc 28 _ (by rfl) b (off + k * 37) (by rfl) Tryd.underlying28 rfl (slc x) X (hcx.below hX hbb) (info_slc ox)) ?_
        refine jc (.bool true) (fun X hX hF => mo (rrgC A n c r X (HRX.out X (bel_next hb hX)) HLN.out hn1 x ox (HKK.out X (bel_next hb hX))) (by rw [HR.out])) ?_
        refine jm (.bool true) ?_
        refine jz fun X2 hX2 => ?_
        have hB0 := hB0.bel hX2
        have hcx := hcx.below hX2 hbb
        have hc0 := hc0.below hX2 hbb
        have hcp := hcp.below hX2 hbb
        replace hbb := Nat.lt_of_lt_of_le hbb (hX2).size
        have hb := bel_next hb hX2
        clear hX2
        go_upto_region 10 with (fail)
        refine jp ?_
        refine jm (.bool true) ?_
        refine jm (.bool false) ?_
        refine jz fun X3 hX3 => ?_
        have hB0 := hB0.bel hX3
        have hcx := hcx.below hX3 hbb
        have hc0 := hc0.below hX3 hbb
        have hcp := hcp.below hX3 hbb
        replace hbb := Nat.lt_of_lt_of_le hbb (hX3).size
        have hb := bel_next hb hX3
        clear hX3
        by_cases hS : x.st = x0.st
        · have HS := Lib.hid hS
          clear hS
          by_cases hQ : x.sq = (k : Int)
          · have HQ := Lib.hid hQ
            clear hQ
            go_upto_region 12 with (fail)
            refine jd ?_
            refine jm (.slice (some ⟨b, off, none⟩) m c') ?_
            refine jm (.int .i64 (k : Int)) ?_
            refine jv (.pointer (some ⟨b, off + k * 37, none⟩)) (exec_ixv Tryd.underlying30 info_sl _ _ (by rfl) b (off) m c' k (by omega) (by rfl) (by rfl) rfl) ?_
            refine jn (.pointer (some ⟨b, off + k * 37, none⟩)) ?_
            refine jg (.int .i64 x.st) (fun X hX hF => exec_ld 3 _ (by rfl) b (off + k * 37) (by rfl) _ X ((hcx.below hX hbb) 0 _ rfl) (fun X u h => load_int b (off + k * 37) X u h)) ?_
            refine jm (.slice (some ⟨b, off, none⟩) m c') ?_
            refine jv (.pointer (some ⟨b, off + 0 * 37, none⟩)) (exec_ixv Tryd.underlying30 info_sl _ _ (by rfl) b (off) m c' 0 (by omega) (by rfl) (by rfl) rfl) ?_
            refine jn (.pointer (some ⟨b, off + 0 * 37, none⟩)) ?_
            refine jg (.int .i64 x0.st) (fun X hX hF => exec_ld 3 _ (by rfl) b (off + 0 * 37) (by rfl) _ X ((hc0.below hX hbb) 0 _ rfl) (fun X u h => load_int b (off + 0 * 37) X u h)) ?_
            refine jv (.bool false) (exec_nei _ _ _ _ (by rfl) .i64 x.st x0.st (by rfl) (by rfl) false (by rw [decide_eq_true HS.out]; rfl)) ?_
            refine jm (.bool false) ?_
            refine jm (.slice (some ⟨b, off, none⟩) m c') ?_
            refine jm (.int .i64 (k : Int)) ?_
            refine jv (.pointer (some ⟨b, off + k * 37, none⟩)) (exec_ixv Tryd.underlying30 info_sl _ _ (by rfl) b (off) m c' k (by omega) (by rfl) (by rfl) rfl) ?_
            refine jn (.pointer (some ⟨b, off + k * 37 + 1, none⟩)) ?_
            refine jg (.int .i64 x.sq) (fun X hX hF => exec_ld 3 _ (by rfl) b (off + k * 37 + 1) (by rfl) _ X ((hcx.below hX hbb) 1 _ rfl) (fun X u h => load_int b (off + k * 37 + 1) X u h)) ?_
            refine jm (.int .i64 (k : Int)) ?_
            refine jv (.bool false) (exec_nei _ _ _ _ (by rfl) .i64 x.sq (k : Int) (by rfl) (by rfl) false (by rw [decide_eq_true HQ.out]; rfl)) ?_
            refine jm (.bool false) ?_
            refine jz fun X4 hX4 => ?_
            have hB0 := hB0.bel hX4
            have hcx := hcx.below hX4 hbb
            have hc0 := hc0.below hX4 hbb
            have hcp := hcp.below hX4 hbb
            replace hbb := Nat.lt_of_lt_of_le hbb (hX4).size
            have hb := bel_next hb hX4
            clear hX4
            go_upto_region 14 with (fail)
            refine jq 1 ?_
            refine jv (.agg (z16b.map B8).toArray) (exec_bd0 (by rfl)) ?_
            refine jz fun X5 hX5 => ?_
            have hB0 := hB0.bel hX5
            have hcx := hcx.below hX5 hbb
            have hc0 := hc0.below hX5 hbb
            have hcp := hcp.below hX5 hbb
            replace hbb := Nat.lt_of_lt_of_le hbb (hX5).size
            have hb := bel_next hb hX5
            clear hX5
            go_upto_region 15 with (refine op_store_new _ _ _ rfl 26 (.tmp 8) (.tmp 50) (by rfl) (by rfl) (z16b.map B8).toArray (by rfl) (by rfl) (fun v hv => B8s_one _ v (by simpa using hv)) (by rw [show (z16b.map B8).toArray.size = (z16b.map B8).length from by simp]; exact info_d16 rfl) ?_)
            obtain ⟨Y5, hY9, hD8, hS9⟩ := start1 X5 26 (z16b.map B8)
            rw [← hY9]
            clear hY9
            have hgs8 := hb.size
            have hlt8x0 := hB0.lt
            have hcx := hcx.below hS9 hbb
            have hc0 := hc0.below hS9 hbb
            have hcp := hcp.below hS9 hbb
            replace hbb := Nat.lt_of_lt_of_le hbb (hS9).size
            have hB0 := hB0.bel hS9
            have hb := bel_next hb hS9
            clear hS9
            generalize X5.heap.size = g8 at *
            by_cases hk0 : 0 < k
            · have HBF : Hid (bfr nm48 l k = nm48 xp) := by rw [HXP.out]; exact bfr_prev l hk0
              have HBL : Hid ((nm48 xp).length = 16) := nm_len _
              have hbd : xp.bd.length ≤ 5000 := by
                have h9 := ((lgP_zero mk48 nm48).1 (HZ.out (k - 1) (by omega))).1
                rw [← HXP.out] at h9
                have h8 := frm_of ((rgt_iff mk48).1 h9).2.1
                omega
              refine jp ?_
              refine jm (.int .i64 (k : Int)) ?_
              refine jv (.bool true) (exec_gtr _ _ _ _ (by rfl) .i64 (k : Int) 0 (by rfl) (by rfl) true (decide_eq_true (by omega))) ?_
              refine jz fun X6 hX6 => ?_
              have hB0 := hB0.bel hX6
              have hD8 := hD8.bel hX6
              have hcx := hcx.below hX6 hbb
              have hc0 := hc0.below hX6 hbb
              have hcp := hcp.below hX6 hbb
              replace hbb := Nat.lt_of_lt_of_le hbb (hX6).size
              have hb := bel_next hb hX6
              clear hX6
              go_upto_region 16 with (fail)
              refine jq 6 ?_
              refine jm (.slice (some ⟨b, off, none⟩) m c') ?_
              refine jm (.int .i64 (k : Int)) ?_
              refine jv (.int .i64 ((k : Int) - 1)) (exec_sub _ _ _ _ (by rfl) (k : Int) 1 ((k : Int) - 1) (by rfl) (by rfl) (by omega) (by omega) (by omega)) ?_
              refine jv (.pointer (some ⟨b, off + (k - 1) * 37, none⟩)) (exec_ixv Tryd.underlying30 info_sl _ _ (by rfl) b (off) m c' (k - 1) (by omega) (by rfl) (by rfl) (by omega)) ?_
              refine jg (.agg (slc xp).toArray) (fun X hX hF => exec_ldc 28 _ (by rfl) b (off + (k - 1) * 37) (by rfl) Tryd.underlying28 rfl (slc xp) X (hcp.below hX hbb) (info_slc oxp)) ?_
              refine jc (.agg ((nm48 xp).map B8).toArray) (fun X hX hF => rnmC xp X oxp hbd (HKK.out X (bel_next hb hX))) ?_
              refine jz fun X7 hX7 => ?_
              have hB0 := hB0.bel hX7
              have hD8 := hD8.bel hX7
              have hcx := hcx.below hX7 hbb
              have hc0 := hc0.below hX7 hbb
              have hcp := hcp.below hX7 hbb
              replace hbb := Nat.lt_of_lt_of_le hbb (hX7).size
              have hb := bel_next hb hX7
              clear hX7
              refine op_store_blk rfl 26 (.tmp 8) (.tmp 58) rfl g8 26 _ hD8 rfl ((nm48 xp).map B8) rfl (by rw [List.length_map, List.length_map, nm_len]; rfl) (B8s_one _) (info_d16 (nm_len _)) ?_
              intro w9 hR9 hO9 hB9 hs9
              have hB0 := hO9 _ _ _ (by omega) hB0
              have hb := hB9 _ _ hb (by omega)
              have hbb : b < w9.heap.size := by obtain ⟨b9, off9, h8, h9, _⟩ := (HRL.out _ hb).sls HOK.out HLM.out (by omega); injection h8 with h8; injection h8 with h7 _; rw [h7]; exact h9
              have hall : ∀ j, j < m → Cl w9 b (off + j * 37) (slc (sAt l j)) := by obtain ⟨b9, off9, h8, _, h9⟩ := (HRL.out _ hb).sls HOK.out HLM.out (by omega); injection h8 with h8; injection h8 with h7 h6; rw [h7, h6]; exact h9
              have hcx : Cl w9 b (off + k * 37) (slc x) := by rw [HX.out]; exact hall k hlt
              have hc0 : Cl w9 b (off + 0 * 37) (slc x0) := by rw [HX0.out]; exact hall 0 (by omega)
              have hcp : Cl w9 b (off + (k - 1) * 37) (slc xp) := by rw [HXP.out]; exact hall (k - 1) (by omega)
              have hD8 := hR9
              clear hO9 hB9 hR9 hall
              by_cases hP : x.pv = (nm48 xp)
              · have HP := Lib.hid hP
                clear hP
                go_upto_region 17 with (fail)
                refine jd ?_
                refine jm (.slice (some ⟨b, off, none⟩) m c') ?_
                refine jm (.int .i64 (k : Int)) ?_
                refine jv (.pointer (some ⟨b, off + k * 37, none⟩)) (exec_ixv Tryd.underlying30 info_sl _ _ (by rfl) b (off) m c' k (by omega) (by rfl) (by rfl) rfl) ?_
                refine jn (.pointer (some ⟨b, off + k * 37 + 5, none⟩)) ?_
                refine jg (.agg (x.pv.map B8).toArray) (fun X hX hF => exec_ldc 26 _ (by rfl) b (off + k * 37 + 5) (by rfl) Tryd.underlying26 rfl (x.pv.map B8) X (Cl.part (hcx.below hX hbb) 5 _ (slc_pv ox)) (info_d16 ox.pv)) ?_
                refine jg (.agg ((nm48 xp).map B8).toArray) (fun X hX hF => exec_lda 26 _ (by rfl) g8 (by rfl) Tryd.underlying26 rfl X (hD8.bel hX) (info_d16 HBL.out)) ?_
                refine jv (.bool false) (exec_nedg _ _ _ (by rfl) x.pv (nm48 xp) ox.pv HBL.out (by rfl) (by rfl) _ (nes_f HP.out)) ?_
                refine jz fun X8 hX8 => ?_
                have hB0 := hB0.bel hX8
                have hD8 := hD8.bel hX8
                have hcx := hcx.below hX8 hbb
                have hc0 := hc0.below hX8 hbb
                have hcp := hcp.below hX8 hbb
                replace hbb := Nat.lt_of_lt_of_le hbb (hX8).size
                have hb := bel_next hb hX8
                clear hX8
                by_cases hdd : x.dy < xp.dy
                · go_upto_region 19 with (fail)
                  refine jd ?_
                  refine jm (.int .i64 (k : Int)) ?_
                  refine jv (.bool true) (exec_gtr _ _ _ _ (by rfl) .i64 (k : Int) 0 (by rfl) (by rfl) true (decide_eq_true (by omega))) ?_
                  refine jm (.bool true) ?_
                  refine jm (.slice (some ⟨b, off, none⟩) m c') ?_
                  refine jm (.int .i64 (k : Int)) ?_
                  refine jv (.pointer (some ⟨b, off + k * 37, none⟩)) (exec_ixv Tryd.underlying30 info_sl _ _ (by rfl) b (off) m c' k (by omega) (by rfl) (by rfl) rfl) ?_
                  refine jn (.pointer (some ⟨b, off + k * 37 + 2, none⟩)) ?_
                  refine jg (.int .i64 x.dy) (fun X hX hF => exec_ld 3 _ (by rfl) b (off + k * 37 + 2) (by rfl) _ X ((hcx.below hX hbb) 2 _ rfl) (fun X u h => load_int b (off + k * 37 + 2) X u h)) ?_
                  refine jm (.slice (some ⟨b, off, none⟩) m c') ?_
                  refine jm (.int .i64 (k : Int)) ?_
                  refine jv (.int .i64 ((k : Int) - 1)) (exec_sub _ _ _ _ (by rfl) (k : Int) 1 ((k : Int) - 1) (by rfl) (by rfl) (by omega) (by omega) (by omega)) ?_
                  refine jv (.pointer (some ⟨b, off + (k - 1) * 37, none⟩)) (exec_ixv Tryd.underlying30 info_sl _ _ (by rfl) b (off) m c' (k - 1) (by omega) (by rfl) (by rfl) (by omega)) ?_
                  refine jn (.pointer (some ⟨b, off + (k - 1) * 37 + 2, none⟩)) ?_
                  refine jg (.int .i64 xp.dy) (fun X hX hF => exec_ld 3 _ (by rfl) b (off + (k - 1) * 37 + 2) (by rfl) _ X ((hcp.below hX hbb) 2 _ rfl) (fun X u h => load_int b (off + (k - 1) * 37 + 2) X u h)) ?_
                  refine jv (.bool true) (exec_lss _ _ _ _ (by rfl) .i64 x.dy xp.dy (by rfl) (by rfl) true (decide_eq_true (by omega))) ?_
                  refine jm (.bool true) ?_
                  refine jz fun X9 hX9 => ?_
                  have hB0 := hB0.bel hX9
                  have hD8 := hD8.bel hX9
                  have hcx := hcx.below hX9 hbb
                  have hc0 := hc0.below hX9 hbb
                  have hcp := hcp.below hX9 hbb
                  replace hbb := Nat.lt_of_lt_of_le hbb (hX9).size
                  have hb := bel_next hb hX9
                  clear hX9
                  have HE : Hid (lgE mk48 nm48 r l = 4) := lg_bad mk48 nm48 HC.out (by rw [HLM.out]; exact h2) HZ.out (k := k) (lgP_d (by rw [← HX.out]; exact HR.out) (by rw [← HX.out, ← HX0.out]; exact HS.out) (by rw [← HX.out]; exact HQ.out) (by rw [← HX.out, HBF.out]; exact HP.out) hk0 (by rw [← HX.out, ← HXP.out]; exact hdd)) (by decide) (by rw [HLM.out]; exact hlt)
                  go_upto_region 20 with (fail)
                  refine jp ?_
                  refine jm (.int .i64 4) ?_
                  refine jz fun X10 hX10 => ?_
                  have hB0 := hB0.bel hX10
                  have hD8 := hD8.bel hX10
                  have hcx := hcx.below hX10 hbb
                  have hc0 := hc0.below hX10 hbb
                  have hcp := hcp.below hX10 hbb
                  replace hbb := Nat.lt_of_lt_of_le hbb (hX10).size
                  have hb := bel_next hb hX10
                  clear hX10
                  go_wp2
                  go_ret
                  exact ⟨by rw [HE.out]; rfl, hb⟩
                · have hD : 0 < k → xp.dy ≤ x.dy := fun h9 => by omega
                  go_upto_region 19 with (fail)
                  refine jd ?_
                  refine jm (.int .i64 (k : Int)) ?_
                  refine jv (.bool true) (exec_gtr _ _ _ _ (by rfl) .i64 (k : Int) 0 (by rfl) (by rfl) true (decide_eq_true (by omega))) ?_
                  refine jm (.bool true) ?_
                  refine jm (.slice (some ⟨b, off, none⟩) m c') ?_
                  refine jm (.int .i64 (k : Int)) ?_
                  refine jv (.pointer (some ⟨b, off + k * 37, none⟩)) (exec_ixv Tryd.underlying30 info_sl _ _ (by rfl) b (off) m c' k (by omega) (by rfl) (by rfl) rfl) ?_
                  refine jn (.pointer (some ⟨b, off + k * 37 + 2, none⟩)) ?_
                  refine jg (.int .i64 x.dy) (fun X hX hF => exec_ld 3 _ (by rfl) b (off + k * 37 + 2) (by rfl) _ X ((hcx.below hX hbb) 2 _ rfl) (fun X u h => load_int b (off + k * 37 + 2) X u h)) ?_
                  refine jm (.slice (some ⟨b, off, none⟩) m c') ?_
                  refine jm (.int .i64 (k : Int)) ?_
                  refine jv (.int .i64 ((k : Int) - 1)) (exec_sub _ _ _ _ (by rfl) (k : Int) 1 ((k : Int) - 1) (by rfl) (by rfl) (by omega) (by omega) (by omega)) ?_
                  refine jv (.pointer (some ⟨b, off + (k - 1) * 37, none⟩)) (exec_ixv Tryd.underlying30 info_sl _ _ (by rfl) b (off) m c' (k - 1) (by omega) (by rfl) (by rfl) (by omega)) ?_
                  refine jn (.pointer (some ⟨b, off + (k - 1) * 37 + 2, none⟩)) ?_
                  refine jg (.int .i64 xp.dy) (fun X hX hF => exec_ld 3 _ (by rfl) b (off + (k - 1) * 37 + 2) (by rfl) _ X ((hcp.below hX hbb) 2 _ rfl) (fun X u h => load_int b (off + (k - 1) * 37 + 2) X u h)) ?_
                  refine jv (.bool false) (exec_lss _ _ _ _ (by rfl) .i64 x.dy xp.dy (by rfl) (by rfl) false (decide_eq_false (by omega))) ?_
                  refine jm (.bool false) ?_
                  refine jz fun X9 hX9 => ?_
                  have hB0 := hB0.bel hX9
                  have hD8 := hD8.bel hX9
                  have hcx := hcx.below hX9 hbb
                  have hc0 := hc0.below hX9 hbb
                  have hcp := hcp.below hX9 hbb
                  replace hbb := Nat.lt_of_lt_of_le hbb (hX9).size
                  have hb := bel_next hb hX9
                  clear hX9
                  go_upto_region 8 with (fail)
                  refine jp ?_
                  refine jm (.int .i64 (k : Int)) ?_
                  refine jv (.int .i64 ((k + 1 : Nat) : Int)) (exec_add _ _ _ _ (by rfl) (k : Int) 1 ((k + 1 : Nat) : Int) (by rfl) (by rfl) (by omega) (by omega) (by omega)) ?_
                  refine jm (.int .i64 ((k + 1 : Nat) : Int)) ?_
                  refine jz fun X10 hX10 => ?_
                  have hB0 := hB0.bel hX10
                  have hb := bel_next hb hX10
                  clear hX10
                  have HZ2 : Hid (∀ j, j < k + 1 → lgP mk48 nm48 r l j = 0) := fun j hj => by
                    rcases Nat.lt_or_ge j k with h9 | h9
                    · exact HZ.out j h9
                    · rw [show j = k by omega]
                      exact (lgP_zero mk48 nm48).2 ⟨(by rw [← HX.out]; exact HR.out), (by rw [← HX.out, ← HX0.out]; exact HS.out), (by rw [← HX.out]; exact HQ.out), (by rw [← HX.out, HBF.out]; exact HP.out), fun h8 => by rw [← HX.out, ← HXP.out]; exact hD h8⟩
                  go_wp2
                  go_roundw
                  case rel => exact ⟨k + 1, by omega, rfl, HZ2, hB0, hb⟩
                  case measure => simp [intOf]; omega
              · have HP : Hid (x.pv ≠ (nm48 xp)) := hP
                clear hP
                go_upto_region 17 with (fail)
                refine jd ?_
                refine jm (.slice (some ⟨b, off, none⟩) m c') ?_
                refine jm (.int .i64 (k : Int)) ?_
                refine jv (.pointer (some ⟨b, off + k * 37, none⟩)) (exec_ixv Tryd.underlying30 info_sl _ _ (by rfl) b (off) m c' k (by omega) (by rfl) (by rfl) rfl) ?_
                refine jn (.pointer (some ⟨b, off + k * 37 + 5, none⟩)) ?_
                refine jg (.agg (x.pv.map B8).toArray) (fun X hX hF => exec_ldc 26 _ (by rfl) b (off + k * 37 + 5) (by rfl) Tryd.underlying26 rfl (x.pv.map B8) X (Cl.part (hcx.below hX hbb) 5 _ (slc_pv ox)) (info_d16 ox.pv)) ?_
                refine jg (.agg ((nm48 xp).map B8).toArray) (fun X hX hF => exec_lda 26 _ (by rfl) g8 (by rfl) Tryd.underlying26 rfl X (hD8.bel hX) (info_d16 HBL.out)) ?_
                refine jv (.bool true) (exec_nedg _ _ _ (by rfl) x.pv (nm48 xp) ox.pv HBL.out (by rfl) (by rfl) _ (nes_t HP.out)) ?_
                refine jz fun X8 hX8 => ?_
                have hB0 := hB0.bel hX8
                have hD8 := hD8.bel hX8
                have hcx := hcx.below hX8 hbb
                have hc0 := hc0.below hX8 hbb
                have hcp := hcp.below hX8 hbb
                replace hbb := Nat.lt_of_lt_of_le hbb (hX8).size
                have hb := bel_next hb hX8
                clear hX8
                have HE : Hid (lgE mk48 nm48 r l = 23) := lg_bad mk48 nm48 HC.out (by rw [HLM.out]; exact h2) HZ.out (k := k) (lgP_c (by rw [← HX.out]; exact HR.out) (by rw [← HX.out, ← HX0.out]; exact HS.out) (by rw [← HX.out]; exact HQ.out) (by rw [← HX.out, HBF.out]; exact HP.out)) (by decide) (by rw [HLM.out]; exact hlt)
                go_upto_region 18 with (fail)
                refine jp ?_
                refine jm (.int .i64 23) ?_
                refine jz fun X9 hX9 => ?_
                have hB0 := hB0.bel hX9
                have hD8 := hD8.bel hX9
                have hcx := hcx.below hX9 hbb
                have hc0 := hc0.below hX9 hbb
                have hcp := hcp.below hX9 hbb
                replace hbb := Nat.lt_of_lt_of_le hbb (hX9).size
                have hb := bel_next hb hX9
                clear hX9
                go_wp2
                go_ret
                exact ⟨by rw [HE.out]; rfl, hb⟩
            · have HBF : Hid (bfr nm48 l k = z16b) := bfr_zero l (by omega)
              have HBL : Hid (z16b.length = 16) := rfl
              refine jp ?_
              refine jm (.int .i64 (k : Int)) ?_
              refine jv (.bool false) (exec_gtr _ _ _ _ (by rfl) .i64 (k : Int) 0 (by rfl) (by rfl) false (decide_eq_false (by omega))) ?_
              refine jz fun X6 hX6 => ?_
              have hB0 := hB0.bel hX6
              have hD8 := hD8.bel hX6
              have hcx := hcx.below hX6 hbb
              have hc0 := hc0.below hX6 hbb
              have hcp := hcp.below hX6 hbb
              replace hbb := Nat.lt_of_lt_of_le hbb (hX6).size
              have hb := bel_next hb hX6
              clear hX6
              by_cases hP : x.pv = z16b
              · have HP := Lib.hid hP
                clear hP
                go_upto_region 17 with (fail)
                refine jd ?_
                refine jm (.slice (some ⟨b, off, none⟩) m c') ?_
                refine jm (.int .i64 (k : Int)) ?_
                refine jv (.pointer (some ⟨b, off + k * 37, none⟩)) (exec_ixv Tryd.underlying30 info_sl _ _ (by rfl) b (off) m c' k (by omega) (by rfl) (by rfl) rfl) ?_
                refine jn (.pointer (some ⟨b, off + k * 37 + 5, none⟩)) ?_
                refine jg (.agg (x.pv.map B8).toArray) (fun X hX hF => exec_ldc 26 _ (by rfl) b (off + k * 37 + 5) (by rfl) Tryd.underlying26 rfl (x.pv.map B8) X (Cl.part (hcx.below hX hbb) 5 _ (slc_pv ox)) (info_d16 ox.pv)) ?_
                refine jg (.agg (z16b.map B8).toArray) (fun X hX hF => exec_lda 26 _ (by rfl) g8 (by rfl) Tryd.underlying26 rfl X (hD8.bel hX) (info_d16 HBL.out)) ?_
                refine jv (.bool false) (exec_nedg _ _ _ (by rfl) x.pv z16b ox.pv HBL.out (by rfl) (by rfl) _ (nes_f HP.out)) ?_
                refine jz fun X7 hX7 => ?_
                have hB0 := hB0.bel hX7
                have hD8 := hD8.bel hX7
                have hcx := hcx.below hX7 hbb
                have hc0 := hc0.below hX7 hbb
                have hcp := hcp.below hX7 hbb
                replace hbb := Nat.lt_of_lt_of_le hbb (hX7).size
                have hb := bel_next hb hX7
                clear hX7
                have hD : 0 < k → xp.dy ≤ x.dy := fun h9 => by omega
                go_upto_region 19 with (fail)
                refine jd ?_
                refine jm (.int .i64 (k : Int)) ?_
                refine jv (.bool false) (exec_gtr _ _ _ _ (by rfl) .i64 (k : Int) 0 (by rfl) (by rfl) false (decide_eq_false (by omega))) ?_
                refine jm (.bool false) ?_
                refine js ?_
                refine js ?_
                refine js ?_
                refine js ?_
                refine js ?_
                refine js ?_
                refine js ?_
                refine js ?_
                refine js ?_
                refine js ?_
                refine js ?_
                refine js ?_
                refine jm (.bool false) ?_
                refine jz fun X8 hX8 => ?_
                have hB0 := hB0.bel hX8
                have hD8 := hD8.bel hX8
                have hcx := hcx.below hX8 hbb
                have hc0 := hc0.below hX8 hbb
                have hcp := hcp.below hX8 hbb
                replace hbb := Nat.lt_of_lt_of_le hbb (hX8).size
                have hb := bel_next hb hX8
                clear hX8
                go_upto_region 8 with (fail)
                refine jp ?_
                refine jm (.int .i64 (k : Int)) ?_
                refine jv (.int .i64 ((k + 1 : Nat) : Int)) (exec_add _ _ _ _ (by rfl) (k : Int) 1 ((k + 1 : Nat) : Int) (by rfl) (by rfl) (by omega) (by omega) (by omega)) ?_
                refine jm (.int .i64 ((k + 1 : Nat) : Int)) ?_
                refine jz fun X9 hX9 => ?_
                have hB0 := hB0.bel hX9
                have hb := bel_next hb hX9
                clear hX9
                have HZ2 : Hid (∀ j, j < k + 1 → lgP mk48 nm48 r l j = 0) := fun j hj => by
                  rcases Nat.lt_or_ge j k with h9 | h9
                  · exact HZ.out j h9
                  · rw [show j = k by omega]
                    exact (lgP_zero mk48 nm48).2 ⟨(by rw [← HX.out]; exact HR.out), (by rw [← HX.out, ← HX0.out]; exact HS.out), (by rw [← HX.out]; exact HQ.out), (by rw [← HX.out, HBF.out]; exact HP.out), fun h8 => by rw [← HX.out, ← HXP.out]; exact hD h8⟩
                go_wp2
                go_roundw
                case rel => exact ⟨k + 1, by omega, rfl, HZ2, hB0, hb⟩
                case measure => simp [intOf]; omega
              · have HP : Hid (x.pv ≠ z16b) := hP
                clear hP
                go_upto_region 17 with (fail)
                refine jd ?_
                refine jm (.slice (some ⟨b, off, none⟩) m c') ?_
                refine jm (.int .i64 (k : Int)) ?_
                refine jv (.pointer (some ⟨b, off + k * 37, none⟩)) (exec_ixv Tryd.underlying30 info_sl _ _ (by rfl) b (off) m c' k (by omega) (by rfl) (by rfl) rfl) ?_
                refine jn (.pointer (some ⟨b, off + k * 37 + 5, none⟩)) ?_
                refine jg (.agg (x.pv.map B8).toArray) (fun X hX hF => exec_ldc 26 _ (by rfl) b (off + k * 37 + 5) (by rfl) Tryd.underlying26 rfl (x.pv.map B8) X (Cl.part (hcx.below hX hbb) 5 _ (slc_pv ox)) (info_d16 ox.pv)) ?_
                refine jg (.agg (z16b.map B8).toArray) (fun X hX hF => exec_lda 26 _ (by rfl) g8 (by rfl) Tryd.underlying26 rfl X (hD8.bel hX) (info_d16 HBL.out)) ?_
                refine jv (.bool true) (exec_nedg _ _ _ (by rfl) x.pv z16b ox.pv HBL.out (by rfl) (by rfl) _ (nes_t HP.out)) ?_
                refine jz fun X7 hX7 => ?_
                have hB0 := hB0.bel hX7
                have hD8 := hD8.bel hX7
                have hcx := hcx.below hX7 hbb
                have hc0 := hc0.below hX7 hbb
                have hcp := hcp.below hX7 hbb
                replace hbb := Nat.lt_of_lt_of_le hbb (hX7).size
                have hb := bel_next hb hX7
                clear hX7
                have HE : Hid (lgE mk48 nm48 r l = 23) := lg_bad mk48 nm48 HC.out (by rw [HLM.out]; exact h2) HZ.out (k := k) (lgP_c (by rw [← HX.out]; exact HR.out) (by rw [← HX.out, ← HX0.out]; exact HS.out) (by rw [← HX.out]; exact HQ.out) (by rw [← HX.out, HBF.out]; exact HP.out)) (by decide) (by rw [HLM.out]; exact hlt)
                go_upto_region 18 with (fail)
                refine jp ?_
                refine jm (.int .i64 23) ?_
                refine jz fun X8 hX8 => ?_
                have hB0 := hB0.bel hX8
                have hD8 := hD8.bel hX8
                have hcx := hcx.below hX8 hbb
                have hc0 := hc0.below hX8 hbb
                have hcp := hcp.below hX8 hbb
                replace hbb := Nat.lt_of_lt_of_le hbb (hX8).size
                have hb := bel_next hb hX8
                clear hX8
                go_wp2
                go_ret
                exact ⟨by rw [HE.out]; rfl, hb⟩
          · have HQ : Hid (x.sq ≠ (k : Int)) := hQ
            clear hQ
            go_upto_region 12 with (fail)
            refine jd ?_
            refine jm (.slice (some ⟨b, off, none⟩) m c') ?_
            refine jm (.int .i64 (k : Int)) ?_
            refine jv (.pointer (some ⟨b, off + k * 37, none⟩)) (exec_ixv Tryd.underlying30 info_sl _ _ (by rfl) b (off) m c' k (by omega) (by rfl) (by rfl) rfl) ?_
            refine jn (.pointer (some ⟨b, off + k * 37, none⟩)) ?_
            refine jg (.int .i64 x.st) (fun X hX hF => exec_ld 3 _ (by rfl) b (off + k * 37) (by rfl) _ X ((hcx.below hX hbb) 0 _ rfl) (fun X u h => load_int b (off + k * 37) X u h)) ?_
            refine jm (.slice (some ⟨b, off, none⟩) m c') ?_
            refine jv (.pointer (some ⟨b, off + 0 * 37, none⟩)) (exec_ixv Tryd.underlying30 info_sl _ _ (by rfl) b (off) m c' 0 (by omega) (by rfl) (by rfl) rfl) ?_
            refine jn (.pointer (some ⟨b, off + 0 * 37, none⟩)) ?_
            refine jg (.int .i64 x0.st) (fun X hX hF => exec_ld 3 _ (by rfl) b (off + 0 * 37) (by rfl) _ X ((hc0.below hX hbb) 0 _ rfl) (fun X u h => load_int b (off + 0 * 37) X u h)) ?_
            refine jv (.bool false) (exec_nei _ _ _ _ (by rfl) .i64 x.st x0.st (by rfl) (by rfl) false (by rw [decide_eq_true HS.out]; rfl)) ?_
            refine jm (.bool false) ?_
            refine jm (.slice (some ⟨b, off, none⟩) m c') ?_
            refine jm (.int .i64 (k : Int)) ?_
            refine jv (.pointer (some ⟨b, off + k * 37, none⟩)) (exec_ixv Tryd.underlying30 info_sl _ _ (by rfl) b (off) m c' k (by omega) (by rfl) (by rfl) rfl) ?_
            refine jn (.pointer (some ⟨b, off + k * 37 + 1, none⟩)) ?_
            refine jg (.int .i64 x.sq) (fun X hX hF => exec_ld 3 _ (by rfl) b (off + k * 37 + 1) (by rfl) _ X ((hcx.below hX hbb) 1 _ rfl) (fun X u h => load_int b (off + k * 37 + 1) X u h)) ?_
            refine jm (.int .i64 (k : Int)) ?_
            refine jv (.bool true) (exec_nei _ _ _ _ (by rfl) .i64 x.sq (k : Int) (by rfl) (by rfl) true (by rw [decide_eq_false HQ.out]; rfl)) ?_
            refine jm (.bool true) ?_
            refine jz fun X4 hX4 => ?_
            have hB0 := hB0.bel hX4
            have hcx := hcx.below hX4 hbb
            have hc0 := hc0.below hX4 hbb
            have hcp := hcp.below hX4 hbb
            replace hbb := Nat.lt_of_lt_of_le hbb (hX4).size
            have hb := bel_next hb hX4
            clear hX4
            have HE : Hid (lgE mk48 nm48 r l = 1) := lg_bad mk48 nm48 HC.out (by rw [HLM.out]; exact h2) HZ.out (k := k) (lgP_b (by rw [← HX.out]; exact HR.out) (.inr (by rw [← HX.out]; exact HQ.out))) (by decide) (by rw [HLM.out]; exact hlt)
            go_upto_region 13 with (fail)
            refine jp ?_
            refine jm (.int .i64 1) ?_
            refine jz fun X5 hX5 => ?_
            have hB0 := hB0.bel hX5
            have hcx := hcx.below hX5 hbb
            have hc0 := hc0.below hX5 hbb
            have hcp := hcp.below hX5 hbb
            replace hbb := Nat.lt_of_lt_of_le hbb (hX5).size
            have hb := bel_next hb hX5
            clear hX5
            go_wp2
            go_ret
            exact ⟨by rw [HE.out]; rfl, hb⟩
        · have HS : Hid (x.st ≠ x0.st) := hS
          clear hS
          go_upto_region 12 with (fail)
          refine jd ?_
          refine jm (.slice (some ⟨b, off, none⟩) m c') ?_
          refine jm (.int .i64 (k : Int)) ?_
          refine jv (.pointer (some ⟨b, off + k * 37, none⟩)) (exec_ixv Tryd.underlying30 info_sl _ _ (by rfl) b (off) m c' k (by omega) (by rfl) (by rfl) rfl) ?_
          refine jn (.pointer (some ⟨b, off + k * 37, none⟩)) ?_
          refine jg (.int .i64 x.st) (fun X hX hF => exec_ld 3 _ (by rfl) b (off + k * 37) (by rfl) _ X ((hcx.below hX hbb) 0 _ rfl) (fun X u h => load_int b (off + k * 37) X u h)) ?_
          refine jm (.slice (some ⟨b, off, none⟩) m c') ?_
          refine jv (.pointer (some ⟨b, off + 0 * 37, none⟩)) (exec_ixv Tryd.underlying30 info_sl _ _ (by rfl) b (off) m c' 0 (by omega) (by rfl) (by rfl) rfl) ?_
          refine jn (.pointer (some ⟨b, off + 0 * 37, none⟩)) ?_
          refine jg (.int .i64 x0.st) (fun X hX hF => exec_ld 3 _ (by rfl) b (off + 0 * 37) (by rfl) _ X ((hc0.below hX hbb) 0 _ rfl) (fun X u h => load_int b (off + 0 * 37) X u h)) ?_
          refine jv (.bool true) (exec_nei _ _ _ _ (by rfl) .i64 x.st x0.st (by rfl) (by rfl) true (by rw [decide_eq_false HS.out]; rfl)) ?_
          refine jm (.bool true) ?_
          refine js ?_
          refine js ?_
          refine js ?_
          refine js ?_
          refine js ?_
          refine js ?_
          refine js ?_
          refine jm (.bool true) ?_
          refine jz fun X4 hX4 => ?_
          have hB0 := hB0.bel hX4
          have hcx := hcx.below hX4 hbb
          have hc0 := hc0.below hX4 hbb
          have hcp := hcp.below hX4 hbb
          replace hbb := Nat.lt_of_lt_of_le hbb (hX4).size
          have hb := bel_next hb hX4
          clear hX4
          have HE : Hid (lgE mk48 nm48 r l = 1) := lg_bad mk48 nm48 HC.out (by rw [HLM.out]; exact h2) HZ.out (k := k) (lgP_b (by rw [← HX.out]; exact HR.out) (.inl (by rw [← HX.out, ← HX0.out]; exact HS.out))) (by decide) (by rw [HLM.out]; exact hlt)
          go_upto_region 13 with (fail)
          refine jp ?_
          refine jm (.int .i64 1) ?_
          refine jz fun X5 hX5 => ?_
          have hB0 := hB0.bel hX5
          have hcx := hcx.below hX5 hbb
          have hc0 := hc0.below hX5 hbb
          have hcp := hcp.below hX5 hbb
          replace hbb := Nat.lt_of_lt_of_le hbb (hX5).size
          have hb := bel_next hb hX5
          clear hX5
          go_wp2
          go_ret
          exact ⟨by rw [HE.out]; rfl, hb⟩
    · have HE : Hid (lgE mk48 nm48 r l = 0) := lg_ok HC.out (by rw [HLM.out]; exact h2) (fun j hj => HZ.out j (by have := HLM.out; omega))
      go_upto_region 7 with (fail)
      refine jp ?_
      refine jm (.int .i64 (k : Int)) ?_
      refine jm (.slice A' m c') ?_
      refine jv (.int .i64 (m : Int)) (exec_lenv Tryd.underlying30 _ (by rfl) A' m c' (by rfl) _ rfl) ?_
      refine jv (.bool false) (exec_lss _ _ _ _ (by rfl) .i64 (k : Int) (m : Int) (by rfl) (by rfl) false (decide_eq_false (by omega))) ?_
      refine jz fun X1 hX1 => ?_
      have hB0 := hB0.bel hX1
      have hb := bel_next hb hX1
      clear hX1
      go_upto_region 21 with (fail)
      refine jp ?_
      refine jm (.int .i64 0) ?_
      refine jz fun X2 hX2 => ?_
      have hB0 := hB0.bel hX2
      have hb := bel_next hb hX2
      clear hX2
      go_wp2
      go_ret
      exact ⟨by rw [HE.out]; rfl, hb⟩
theorem rlgC (A : Option Addr) (n c : Nat) (r : List (List UInt8)) (w : World) (hr : Rd w 1 (.slice A n c) n (r.map tx)) (hln : r.length = n) (hn1 : n ≤ 9223372036854775807) (A' : Option Addr) (m c' : Nat) (l : List Sl) (hrl : Rd w 37 (.slice A' m c') m (fl slc l)) (hlm : l.length = m) (hm1 : m ≤ 9223372036854775807) (hok : ∀ s ∈ l, SlOk s) (hK : KK0 w) : Calls Tryd.prog 25 #[.agg #[.slice A n c], .slice A' m c'] w fun e w' => e = .returned (.int .i64 (lgE mk48 nm48 r l)) ∧ Since w w' := by
  by_cases h : rckE r = 0
  · by_cases h2 : m ≤ 4000
    · exact rlgM A n c r w hr hln hn1 A' m c' l hrl hlm hm1 hok hK h h2
    · exact rlg2 A n c r w hr hln hn1 A' m c' l hrl hlm hm1 hok hK h (by omega)
  · exact rlg1 A n c r w hr hln hn1 A' m c' l hrl hlm hm1 hok hK h
end Go.Proofs.YthinopepcmidmaaDoor
