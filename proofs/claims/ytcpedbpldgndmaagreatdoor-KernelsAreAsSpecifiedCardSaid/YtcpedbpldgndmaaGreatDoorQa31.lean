/-
  The reference of layer 31: Sum, Check, Total.
-/
import Derived.Test.YtcpedbpldgndmaaGreatDoorS31
import Derived.Test.YtcpedbpldgndmaaGreatDoorR5b
import Derived.Test.YtcpedbpldgndmaaGreatDoorLap
set_option linter.unusedSimpArgs false
set_option linter.unusedVariables false
set_option maxRecDepth 100000
set_option maxHeartbeats 1600000
namespace Go.Proofs.YtcpedbpldgndmaaGreatDoor
open Go.RowKit
theorem info_cn31 : (Tryz.prog.info? 38).map (·.size) = some 2 := by kernel_rfl
theorem info_md31 : (Tryz.prog.info? 41).map (·.size) = some 2 := by kernel_rfl
theorem info_vl31 : (Tryz.prog.info? 45).map (·.size) = some 4 := by kernel_rfl
theorem info_i1z : (Tryz.prog.info? 3).map (fun i => (i.zero, i.size, i.bytes)) = some (some (.int .i64 0), 1, 8) := by kernel_rfl
/-- A row of integers of the call's own. -/
def Ko (l : List Int) (B : Nat) (v : Value) (X : World) : Prop := X.ownsRow B 3 1 v l.length (l.map I64)
theorem Ko.lasts (l : List Int) (B : Nat) : Lasts (Ko l B) := fun _ _ _ h hS => own_since h hS
theorem Ko.ks {l : List Int} {B : Nat} {v : Value} {X : World} (h : Ko l B v X) : Ks l v X := by
 have h1 := Rd.of_own (show X.ownsRow B 3 1 v l.length (l.map I64) from h);obtain ⟨A, c, rfl, _, _⟩ := h1.form;exact ⟨A, c, rfl, h1⟩
theorem Ko.low {l : List Int} {B C : Nat} {v : Value} {X : World} (h : Ko l B v X) (hC : C ≤ B) : Ko l C v X := ownsRow_mono (show X.ownsRow B 3 1 v l.length (l.map I64) from h) hC
theorem take_snocK {α : Type} {l : List α} {k : Nat} (h : k < l.length) : l.take (k + 1) = l.take k ++ [l[k]] := by
 rw [List.take_succ_eq_append_getElem h]
/-- What each function hands back, errors and all. -/
def totE (l : List Int) : Int := if kcE l = 0 then tot l else 0
def redE (l : List Int) : List Int := if kcE l = 0 then red l else []
def meanE (l : List Int) : Rat := if kcE l = 0 then mean l else 0
theorem rsmC (v : Value) (l : List Int) (w : World) (hv : Ks l v w) (hl : l.length ≤ 400) (hok : ∀ k, k < l.length → okk l k) : Calls Tryz.prog 35 #[v] w fun e w' => e = .returned (.int .i64 (tot l)) ∧ Since w w' := by
 obtain ⟨A, n, c, rfl, hln, hn1, hr⟩ := hv.at;clear hv
 have HRX : Hid (∀ X, Since w X → Rd X 1 (.slice A n c) n (l.map I64)) := fun X h => hr.below h
 have HLN := Lib.hid hln;have HOK := Lib.hid hok;clear hok;clear hr
 go_enter Tryz.func35, Tryz.ntmps35
 go_upto_region 1 with fail;refine jp ?_;refine jm (.int .i64 0) ?_;refine jz fun X1 hX1 => ?_;have hb : Below w.heap.size w X1 := hX1;clear hX1;go_upto_region 2 with fail;refine jp ?_;refine jm (.int .i64 0) ?_;refine jzb hb fun X2 _ hb => ?_
 have hn4 : n ≤ 400 := by rw [← HLN.out]; exact hl
 go_wp2
 go_loopw [3, 4] (fun sv kv wr => ∃ (k : Nat) (s : Int), k ≤ n ∧ sv = .int .i64 s ∧ kv = .int .i64 (k : Int) ∧ Hid (s = tk l k) ∧ 0 ≤ s ∧ s ≤ (k : Int) * 999999999999999 ∧ Below w.heap.size w wr) (fun _ kv _ => n - (intOf kv).toNat)
 case atStart => exact ⟨0, 0, by omega, rfl, rfl, rfl, by omega, by omega, hb⟩
 case round =>
  clear hb;obtain ⟨k, s, hk, rfl, rfl, HS, hs0, hs1, hb⟩ := hrel
  rcases Nat.lt_or_ge k n with hlt | hlt
  ·obtain ⟨b, off, rfl, hbb, hcx⟩ := wtIn (HRX.out _ hb) HLN.out hlt
   obtain ⟨x, x9⟩ : ∃ x, x = wt l k := ⟨_, rfl⟩;have HX := Lib.hid x9;clear x9;rw [← HX.out] at hcx;have hx := HOK.out k (by rw [HLN.out]; exact hlt)
   unfold okk at hx
   rw [← HX.out] at hx;obtain ⟨hx0, hx1⟩ := hx;obtain ⟨s', hs'⟩ : ∃ s', s' = s + x := ⟨_, rfl⟩
   have HS2 : Hid (s' = tk l (k + 1)) := by
    show _ = _
    rw [tk_succ, ← HS.out, ← HX.out, hs']
   have hb2 : s' ≤ ((k + 1 : Nat) : Int) * 999999999999999 := by unfold far at hx1; omega
   have hk9 : (k : Int) * 999999999999999 ≤ 399999999999999600 := by omega
   unfold far at hx1
   go_upto_region 3 with fail;refine jp ?_;refine jm (.int .i64 (k : Int)) ?_;refine jm (.slice (some ⟨b, off, none⟩) n c) ?_;refine jv (.int .i64 (n : Int)) (exec_lenv Tryz.underlying22 _ (by rfl) (some ⟨b, off, none⟩) n c (by rfl) _ rfl) ?_;refine jv (.bool true) (exec_lss _ _ _ _ (by rfl) .i64 (k : Int) (n : Int) (by rfl) (by rfl) true (decide_eq_true (by omega))) ?_;refine jzb hb fun X1 hX1 hb => ?_;have hcx := hcx.below hX1 hbb;replace hbb := Nat.lt_of_lt_of_le hbb (hX1).size;clear hX1;go_upto_region 5 with fail;refine jp ?_;refine jm (.int .i64 s) ?_;refine jm (.slice (some ⟨b, off, none⟩) n c) ?_;refine jm (.int .i64 (k : Int)) ?_;refine jv (.pointer (some ⟨b, off + k * 1, none⟩)) (exec_ixv Tryz.underlying22 info_i1 _ _ (by rfl) b (off) n c k (by omega) (by rfl) (by rfl) rfl) ?_;refine jg (.int .i64 x) (fun X hX hF => exec_ld 3 _ (by rfl) b (off + k * 1) (by rfl) _ X ((hcx.below hX hbb) 0 _ rfl) (fun X u h => load_int b (off + k * 1) X u h)) ?_;refine jv (.int .i64 s') (exec_add _ _ _ _ (by rfl) s x s' (by rfl) (by rfl) (by omega) (by omega) (by omega)) ?_;refine jm (.int .i64 s') ?_;refine jzb hb fun X2 hX2 hb => ?_;have hcx := hcx.below hX2 hbb;replace hbb := Nat.lt_of_lt_of_le hbb (hX2).size;clear hX2;go_upto_region 4 with fail;refine jp ?_;refine jm (.int .i64 (k : Int)) ?_;refine jv (.int .i64 ((k + 1 : Nat) : Int)) (exec_add _ _ _ _ (by rfl) (k : Int) 1 ((k + 1 : Nat) : Int) (by rfl) (by rfl) (by omega) (by omega) (by omega)) ?_;refine jm (.int .i64 ((k + 1 : Nat) : Int)) ?_
   refine jzb hb fun X3 _ hb => ?_
   go_wp2
   go_roundw
   case rel => exact ⟨k + 1, s', by omega, rfl, rfl, HS2, by omega, hb2, hb⟩
   case measure => simp [intOf]; omega
  ·obtain rfl : k = n := by omega
   have HT : Hid (s = tot l) := by
    show _ = _
    unfold tot
    rw [HLN.out]; exact HS.out
   go_upto_region 3 with fail;refine jp ?_;refine jm (.int .i64 (k : Int)) ?_;refine jm (.slice A k c) ?_;refine jv (.int .i64 (k : Int)) (exec_lenv Tryz.underlying22 _ (by rfl) A k c (by rfl) _ rfl) ?_;refine jv (.bool false) (exec_lss _ _ _ _ (by rfl) .i64 (k : Int) (k : Int) (by rfl) (by rfl) false (decide_eq_false (by omega))) ?_;refine jzb hb fun X1 _ hb => ?_;go_upto_region 6 with fail;refine jp ?_;refine jm (.int .i64 s) ?_;refine jm (.int .i64 s) ?_;refine jzb hb fun X2 _ hb => ?_
   go_wp2
   go_ret
   exact ⟨by rw [HT.out]; rfl, hb⟩
theorem rsmK (v : Value) (l : List Int) (w : World) (hv : Ks l v w) (h : Kok l) : Calls Tryz.prog 35 #[v] w fun e w' => e = .returned (.int .i64 (tot l)) ∧ Since w w' := rsmC v l w hv h.len2 h.all
theorem rck0 (v : Value) (l : List Int) (w : World) (hv : Ks l v w) (h : l.length < 1) : Calls Tryz.prog 16 #[.agg #[v]] w fun e w' => e = .returned (.int .i64 (kcE l)) ∧ Since w w' := by
 have HC : Hid (kcE l = 2) := kcE_lim (by omega);obtain ⟨A, n, c, rfl, hln, hn1, hr⟩ := hv.at;clear hv
 have HRX : Hid (∀ X, Since w X → Rd X 1 (.slice A n c) n (l.map I64)) := fun X h => hr.below h
 have HLN := Lib.hid hln;clear hr;rw [hln] at h
 go_enter Tryz.func16, Tryz.ntmps16
 go_upto_region 1 with fail;obtain ⟨W0, hW0, hB0, hb⟩ := start1 w 24 [.slice A n c];rw [← hW0];clear hW0;refine jp ?_;refine jn (.pointer (some ⟨w.heap.size, 0, none⟩)) ?_;refine jf (.slice A n c) hB0 0 load_ints ?_;refine jv (.int .i64 (n : Int)) (exec_lenv Tryz.underlying22 _ (by rfl) A n c (by rfl) _ rfl) ?_;refine jv (.bool true) (exec_lss _ _ _ _ (by rfl) .i64 (n : Int) 1 (by rfl) (by rfl) true (decide_eq_true (by omega))) ?_;refine jm (.bool true) ?_;refine js ?_;refine js ?_;refine js ?_;refine js ?_;refine jm (.bool true) ?_;refine jzb hb fun X1 hX1 hb => ?_;replace hB0 := hB0.bel hX1;clear hX1;go_upto_region 2 with fail;refine jp ?_;refine jm (.int .i64 2) ?_;refine jzb hb fun X2 hX2 hb => ?_;replace hB0 := hB0.bel hX2;clear hX2
 go_wp2
 go_ret
 exact ⟨by rw [HC.out]; rfl, hb⟩
theorem rck1 (v : Value) (l : List Int) (w : World) (hv : Ks l v w) (h : 400 < l.length) : Calls Tryz.prog 16 #[.agg #[v]] w fun e w' => e = .returned (.int .i64 (kcE l)) ∧ Since w w' := by
 have HC : Hid (kcE l = 2) := kcE_lim (by omega);obtain ⟨A, n, c, rfl, hln, hn1, hr⟩ := hv.at;clear hv
 have HRX : Hid (∀ X, Since w X → Rd X 1 (.slice A n c) n (l.map I64)) := fun X h => hr.below h
 have HLN := Lib.hid hln;clear hr;rw [hln] at h
 go_enter Tryz.func16, Tryz.ntmps16
 go_upto_region 1 with fail;obtain ⟨W0, hW0, hB0, hb⟩ := start1 w 24 [.slice A n c];rw [← hW0];clear hW0;refine jp ?_;refine jn (.pointer (some ⟨w.heap.size, 0, none⟩)) ?_;refine jf (.slice A n c) hB0 0 load_ints ?_;refine jv (.int .i64 (n : Int)) (exec_lenv Tryz.underlying22 _ (by rfl) A n c (by rfl) _ rfl) ?_;refine jv (.bool false) (exec_lss _ _ _ _ (by rfl) .i64 (n : Int) 1 (by rfl) (by rfl) false (decide_eq_false (by omega))) ?_;refine jm (.bool false) ?_;refine jn (.pointer (some ⟨w.heap.size, 0, none⟩)) ?_;refine jf (.slice A n c) hB0 0 load_ints ?_;refine jv (.int .i64 (n : Int)) (exec_lenv Tryz.underlying22 _ (by rfl) A n c (by rfl) _ rfl) ?_;refine jv (.bool true) (exec_gtr _ _ _ _ (by rfl) .i64 (n : Int) 400 (by rfl) (by rfl) true (decide_eq_true (by omega))) ?_;refine jm (.bool true) ?_;refine jzb hb fun X1 hX1 hb => ?_;replace hB0 := hB0.bel hX1;clear hX1;go_upto_region 2 with fail;refine jp ?_;refine jm (.int .i64 2) ?_;refine jzb hb fun X2 hX2 hb => ?_;replace hB0 := hB0.bel hX2;clear hX2
 go_wp2
 go_ret
 exact ⟨by rw [HC.out]; rfl, hb⟩
theorem rckM (v : Value) (l : List Int) (w : World) (hv : Ks l v w) (h1 : 1 ≤ l.length) (h4 : l.length ≤ 400) : Calls Tryz.prog 16 #[.agg #[v]] w fun e w' => e = .returned (.int .i64 (kcE l)) ∧ Since w w' := by
 have hv' := hv;obtain ⟨A, n, c, rfl, hln, hn1, hr⟩ := hv.at;clear hv
 have HRX : Hid (∀ X, Since w X → Rd X 1 (.slice A n c) n (l.map I64)) := fun X h => hr.below h
 have HLN := Lib.hid hln;clear hr;rw [hln] at h1 h4
 go_enter Tryz.func16, Tryz.ntmps16
 go_upto_region 1 with fail;obtain ⟨W0, hW0, hB0, hb⟩ := start1 w 24 [.slice A n c];rw [← hW0];clear hW0;refine jp ?_;refine jn (.pointer (some ⟨w.heap.size, 0, none⟩)) ?_;refine jf (.slice A n c) hB0 0 load_ints ?_;refine jv (.int .i64 (n : Int)) (exec_lenv Tryz.underlying22 _ (by rfl) A n c (by rfl) _ rfl) ?_;refine jv (.bool false) (exec_lss _ _ _ _ (by rfl) .i64 (n : Int) 1 (by rfl) (by rfl) false (decide_eq_false (by omega))) ?_;refine jm (.bool false) ?_;refine jn (.pointer (some ⟨w.heap.size, 0, none⟩)) ?_;refine jf (.slice A n c) hB0 0 load_ints ?_;refine jv (.int .i64 (n : Int)) (exec_lenv Tryz.underlying22 _ (by rfl) A n c (by rfl) _ rfl) ?_;refine jv (.bool false) (exec_gtr _ _ _ _ (by rfl) .i64 (n : Int) 400 (by rfl) (by rfl) false (decide_eq_false (by omega))) ?_;refine jm (.bool false) ?_;refine jzb hb fun X1 hX1 hb => ?_;replace hB0 := hB0.bel hX1;clear hX1;go_upto_region 3 with fail;refine jp ?_;refine jm (.int .i64 0) ?_;refine jzb hb fun X2 hX2 hb => ?_;replace hB0 := hB0.bel hX2;clear hX2
 have HV : Hid (∀ X, Since w X → Ks l (.slice A n c) X) := fun X h => Ks.lasts l _ _ _ hv' h
 clear hv'
 go_wp2
 go_loopw [3] (fun kv wr => ∃ k : Nat, k ≤ n ∧ kv = .int .i64 (k : Int) ∧ Hid (∀ j, j < k → okk l j) ∧ Blk wr w.heap.size 24 [.slice A n c] ∧ Below w.heap.size w wr) (fun kv _ => n - (intOf kv).toNat)
 case atStart => exact ⟨0, by omega, rfl, (fun j hj => by omega), hB0, hb⟩
 case round =>
  clear hB0 hb;obtain ⟨k, hk, rfl, HZ, hB0, hb⟩ := hrel
  rcases Nat.lt_or_ge k n with hlt | hlt
  ·obtain ⟨b, off, rfl, hbb, hcx⟩ := wtIn (HRX.out _ hb) HLN.out hlt
   obtain ⟨x, x9⟩ : ∃ x, x = wt l k := ⟨_, rfl⟩;have HX := Lib.hid x9;clear x9;rw [← HX.out] at hcx;go_upto_region 4 with fail;refine jp ?_;refine jm (.int .i64 (k : Int)) ?_;refine jn (.pointer (some ⟨w.heap.size, 0, none⟩)) ?_;refine jf (.slice (some ⟨b, off, none⟩) n c) hB0 0 load_ints ?_;refine jv (.int .i64 (n : Int)) (exec_lenv Tryz.underlying22 _ (by rfl) (some ⟨b, off, none⟩) n c (by rfl) _ rfl) ?_;refine jv (.bool true) (exec_lss _ _ _ _ (by rfl) .i64 (k : Int) (n : Int) (by rfl) (by rfl) true (decide_eq_true (by omega))) ?_;refine jzb hb fun X1 hX1 hb => ?_;replace hB0 := hB0.bel hX1;have hcx := hcx.below hX1 hbb;replace hbb := Nat.lt_of_lt_of_le hbb (hX1).size;clear hX1
   rcases (show x < 0 ∨ 999999999999999 < x ∨ (0 ≤ x ∧ x ≤ 999999999999999) by omega) with hx | hx | hx
   ·have HC : Hid (kcE l = 3) := kcE_bad (by rw [HLN.out]; exact h1) (by rw [HLN.out]; exact h4) (k := k) (by rw [HLN.out]; exact hlt) (by unfold okk far; rw [← HX.out]; omega)
    go_upto_region 6 with fail;refine jp ?_;refine jn (.pointer (some ⟨w.heap.size, 0, none⟩)) ?_;refine jf (.slice (some ⟨b, off, none⟩) n c) hB0 0 load_ints ?_;refine jm (.int .i64 (k : Int)) ?_;refine jv (.pointer (some ⟨b, off + k * 1, none⟩)) (exec_ixv Tryz.underlying22 info_i1 _ _ (by rfl) b (off) n c k (by omega) (by rfl) (by rfl) rfl) ?_;refine jg (.int .i64 x) (fun X hX hF => exec_ld 3 _ (by rfl) b (off + k * 1) (by rfl) _ X ((hcx.below hX hbb) 0 _ rfl) (fun X u h => load_int b (off + k * 1) X u h)) ?_;refine jv (.bool true) (exec_lss _ _ _ _ (by rfl) .i64 x 0 (by rfl) (by rfl) true (decide_eq_true (by omega))) ?_;refine jm (.bool true) ?_;refine js ?_;refine js ?_;refine js ?_;refine js ?_;refine js ?_;refine js ?_;refine jm (.bool true) ?_;refine jzb hb fun X2 hX2 hb => ?_;replace hB0 := hB0.bel hX2;have hcx := hcx.below hX2 hbb;replace hbb := Nat.lt_of_lt_of_le hbb (hX2).size;clear hX2;go_upto_region 7 with fail;refine jp ?_;refine jm (.int .i64 3) ?_;refine jzb hb fun X3 hX3 hb => ?_;replace hB0 := hB0.bel hX3;clear hX3
    go_wp2
    go_ret
    exact ⟨by rw [HC.out]; rfl, hb⟩
   ·have HC : Hid (kcE l = 3) := kcE_bad (by rw [HLN.out]; exact h1) (by rw [HLN.out]; exact h4) (k := k) (by rw [HLN.out]; exact hlt) (by unfold okk far; rw [← HX.out]; omega)
    go_upto_region 6 with fail;refine jp ?_;refine jn (.pointer (some ⟨w.heap.size, 0, none⟩)) ?_;refine jf (.slice (some ⟨b, off, none⟩) n c) hB0 0 load_ints ?_;refine jm (.int .i64 (k : Int)) ?_;refine jv (.pointer (some ⟨b, off + k * 1, none⟩)) (exec_ixv Tryz.underlying22 info_i1 _ _ (by rfl) b (off) n c k (by omega) (by rfl) (by rfl) rfl) ?_;refine jg (.int .i64 x) (fun X hX hF => exec_ld 3 _ (by rfl) b (off + k * 1) (by rfl) _ X ((hcx.below hX hbb) 0 _ rfl) (fun X u h => load_int b (off + k * 1) X u h)) ?_;refine jv (.bool false) (exec_lss _ _ _ _ (by rfl) .i64 x 0 (by rfl) (by rfl) false (decide_eq_false (by omega))) ?_;refine jm (.bool false) ?_;refine jn (.pointer (some ⟨w.heap.size, 0, none⟩)) ?_;refine jf (.slice (some ⟨b, off, none⟩) n c) hB0 0 load_ints ?_;refine jm (.int .i64 (k : Int)) ?_;refine jv (.pointer (some ⟨b, off + k * 1, none⟩)) (exec_ixv Tryz.underlying22 info_i1 _ _ (by rfl) b (off) n c k (by omega) (by rfl) (by rfl) rfl) ?_;refine jg (.int .i64 x) (fun X hX hF => exec_ld 3 _ (by rfl) b (off + k * 1) (by rfl) _ X ((hcx.below hX hbb) 0 _ rfl) (fun X u h => load_int b (off + k * 1) X u h)) ?_;refine jv (.bool true) (exec_gtr _ _ _ _ (by rfl) .i64 x 999999999999999 (by rfl) (by rfl) true (decide_eq_true (by omega))) ?_;refine jm (.bool true) ?_;refine jzb hb fun X2 hX2 hb => ?_;replace hB0 := hB0.bel hX2;have hcx := hcx.below hX2 hbb;replace hbb := Nat.lt_of_lt_of_le hbb (hX2).size;clear hX2;go_upto_region 7 with fail;refine jp ?_;refine jm (.int .i64 3) ?_
    refine jzb hb fun X3 hX3 hb => ?_;replace hB0 := hB0.bel hX3;clear hX3
    go_wp2
    go_ret
    exact ⟨by rw [HC.out]; rfl, hb⟩
   ·have HZ2 : Hid (∀ j, j < k + 1 → okk l j) := fun j hj => by
     rcases Nat.lt_or_ge j k with h9 | h9
     ·exact HZ.out j h9
     ·rw [show j = k by omega]
      unfold okk
      rw [← HX.out];exact ⟨by omega, by unfold far; omega⟩
    go_upto_region 6 with fail;refine jp ?_;refine jn (.pointer (some ⟨w.heap.size, 0, none⟩)) ?_;refine jf (.slice (some ⟨b, off, none⟩) n c) hB0 0 load_ints ?_;refine jm (.int .i64 (k : Int)) ?_;refine jv (.pointer (some ⟨b, off + k * 1, none⟩)) (exec_ixv Tryz.underlying22 info_i1 _ _ (by rfl) b (off) n c k (by omega) (by rfl) (by rfl) rfl) ?_;refine jg (.int .i64 x) (fun X hX hF => exec_ld 3 _ (by rfl) b (off + k * 1) (by rfl) _ X ((hcx.below hX hbb) 0 _ rfl) (fun X u h => load_int b (off + k * 1) X u h)) ?_;refine jv (.bool false) (exec_lss _ _ _ _ (by rfl) .i64 x 0 (by rfl) (by rfl) false (decide_eq_false (by omega))) ?_;refine jm (.bool false) ?_;refine jn (.pointer (some ⟨w.heap.size, 0, none⟩)) ?_;refine jf (.slice (some ⟨b, off, none⟩) n c) hB0 0 load_ints ?_;refine jm (.int .i64 (k : Int)) ?_;refine jv (.pointer (some ⟨b, off + k * 1, none⟩)) (exec_ixv Tryz.underlying22 info_i1 _ _ (by rfl) b (off) n c k (by omega) (by rfl) (by rfl) rfl) ?_;refine jg (.int .i64 x) (fun X hX hF => exec_ld 3 _ (by rfl) b (off + k * 1) (by rfl) _ X ((hcx.below hX hbb) 0 _ rfl) (fun X u h => load_int b (off + k * 1) X u h)) ?_;refine jv (.bool false) (exec_gtr _ _ _ _ (by rfl) .i64 x 999999999999999 (by rfl) (by rfl) false (decide_eq_false (by omega))) ?_;refine jm (.bool false) ?_;refine jzb hb fun X2 hX2 hb => ?_;replace hB0 := hB0.bel hX2;have hcx := hcx.below hX2 hbb;replace hbb := Nat.lt_of_lt_of_le hbb (hX2).size;clear hX2;go_upto_region 5 with fail;refine jp ?_;refine jm (.int .i64 (k : Int)) ?_
    refine jv (.int .i64 ((k + 1 : Nat) : Int)) (exec_add _ _ _ _ (by rfl) (k : Int) 1 ((k + 1 : Nat) : Int) (by rfl) (by rfl) (by omega) (by omega) (by omega)) ?_;refine jm (.int .i64 ((k + 1 : Nat) : Int)) ?_;refine jzb hb fun X3 hX3 hb => ?_;replace hB0 := hB0.bel hX3;clear hX3
    go_wp2
    go_roundw
    case rel => exact ⟨k + 1, by omega, rfl, HZ2, hB0, hb⟩
    case measure => simp [intOf]; omega
  ·obtain rfl : k = n := by omega
   have HA : Hid (∀ j, j < l.length → okk l j) := fun j hj => HZ.out j (by rw [← HLN.out]; exact hj)
   have HE := Lib.hid (kcE_all (by rw [HLN.out]; exact h1) (by rw [HLN.out]; exact h4) HA.out);obtain ⟨s, s9⟩ : ∃ s, s = tot l := ⟨_, rfl⟩;have HS := Lib.hid s9;clear s9;go_upto_region 4 with fail;refine jp ?_;refine jm (.int .i64 (k : Int)) ?_;refine jn (.pointer (some ⟨w.heap.size, 0, none⟩)) ?_;refine jf (.slice A k c) hB0 0 load_ints ?_;refine jv (.int .i64 (k : Int)) (exec_lenv Tryz.underlying22 _ (by rfl) A k c (by rfl) _ rfl) ?_;refine jv (.bool false) (exec_lss _ _ _ _ (by rfl) .i64 (k : Int) (k : Int) (by rfl) (by rfl) false (decide_eq_false (by omega))) ?_;refine jzb hb fun X1 hX1 hb => ?_;replace hB0 := hB0.bel hX1;clear hX1
   rcases (show 999999999999999 < s ∨ s = 0 ∨ (s ≤ 999999999999999 ∧ s ≠ 0) by omega) with h9 | h9 | h9
   ·have HC : Hid (kcE l = 3) := by
     show _ = _
     rw [HE.out, if_pos (by rw [← HS.out]; exact h9)]
    go_upto_region 8 with fail;refine jp ?_;refine jn (.pointer (some ⟨w.heap.size, 0, none⟩)) ?_;refine jf (.slice A k c) hB0 0 load_ints ?_;refine jc (.int .i64 s) (fun X hX hF => mo (rsmC _ l X (HV.out X (Since.next hb hX)) (by rw [HLN.out]; exact h4) HA.out) (by rw [HS.out])) ?_;refine jv (.bool true) (exec_gtr _ _ _ _ (by rfl) .i64 s 999999999999999 (by rfl) (by rfl) true (decide_eq_true (by omega))) ?_;refine jzb hb fun X2 hX2 hb => ?_;replace hB0 := hB0.bel hX2;clear hX2;go_upto_region 9 with fail;refine jp ?_;refine jm (.int .i64 3) ?_;refine jzb hb fun X3 hX3 hb => ?_;replace hB0 := hB0.bel hX3;clear hX3
    go_wp2
    go_ret
    exact ⟨by rw [HC.out]; rfl, hb⟩
   ·have HC : Hid (kcE l = 1) := by
     show _ = _
     rw [HE.out, if_neg (by rw [← HS.out]; unfold far; omega), if_pos (by rw [← HS.out]; exact h9)]
    go_upto_region 8 with fail;refine jp ?_;refine jn (.pointer (some ⟨w.heap.size, 0, none⟩)) ?_;refine jf (.slice A k c) hB0 0 load_ints ?_;refine jc (.int .i64 s) (fun X hX hF => mo (rsmC _ l X (HV.out X (Since.next hb hX)) (by rw [HLN.out]; exact h4) HA.out) (by rw [HS.out])) ?_;refine jv (.bool false) (exec_gtr _ _ _ _ (by rfl) .i64 s 999999999999999 (by rfl) (by rfl) false (decide_eq_false (by omega))) ?_;refine jzb hb fun X2 hX2 hb => ?_;replace hB0 := hB0.bel hX2;clear hX2;go_upto_region 10 with fail;refine jp ?_;refine jn (.pointer (some ⟨w.heap.size, 0, none⟩)) ?_;refine jf (.slice A k c) hB0 0 load_ints ?_;refine jc (.int .i64 s) (fun X hX hF => mo (rsmC _ l X (HV.out X (Since.next hb hX)) (by rw [HLN.out]; exact h4) HA.out) (by rw [HS.out])) ?_;refine jv (.bool true) (exec_eqi _ _ _ _ (by rfl) .i64 s 0 (by rfl) (by rfl) true (decide_eq_true (by omega))) ?_;refine jzb hb fun X3 hX3 hb => ?_;replace hB0 := hB0.bel hX3;clear hX3;go_upto_region 11 with fail;refine jp ?_;refine jm (.int .i64 1) ?_;refine jzb hb fun X4 hX4 hb => ?_;replace hB0 := hB0.bel hX4;clear hX4
    go_wp2
    go_ret
    exact ⟨by rw [HC.out]; rfl, hb⟩
   ·have HC : Hid (kcE l = 0) := by
     show _ = _
     rw [HE.out, if_neg (by rw [← HS.out]; unfold far; omega), if_neg (by rw [← HS.out]; omega)]
    go_upto_region 8 with fail;refine jp ?_;refine jn (.pointer (some ⟨w.heap.size, 0, none⟩)) ?_;refine jf (.slice A k c) hB0 0 load_ints ?_;refine jc (.int .i64 s) (fun X hX hF => mo (rsmC _ l X (HV.out X (Since.next hb hX)) (by rw [HLN.out]; exact h4) HA.out) (by rw [HS.out])) ?_;refine jv (.bool false) (exec_gtr _ _ _ _ (by rfl) .i64 s 999999999999999 (by rfl) (by rfl) false (decide_eq_false (by omega))) ?_;refine jzb hb fun X2 hX2 hb => ?_;replace hB0 := hB0.bel hX2;clear hX2;go_upto_region 10 with fail;refine jp ?_;refine jn (.pointer (some ⟨w.heap.size, 0, none⟩)) ?_;refine jf (.slice A k c) hB0 0 load_ints ?_;refine jc (.int .i64 s) (fun X hX hF => mo (rsmC _ l X (HV.out X (Since.next hb hX)) (by rw [HLN.out]; exact h4) HA.out) (by rw [HS.out])) ?_;refine jv (.bool false) (exec_eqi _ _ _ _ (by rfl) .i64 s 0 (by rfl) (by rfl) false (decide_eq_false (by omega))) ?_;refine jzb hb fun X3 hX3 hb => ?_;replace hB0 := hB0.bel hX3;clear hX3;go_upto_region 12 with fail;refine jp ?_;refine jm (.int .i64 0) ?_;refine jzb hb fun X4 hX4 hb => ?_;replace hB0 := hB0.bel hX4;clear hX4
    go_wp2
    go_ret
    exact ⟨by rw [HC.out]; rfl, hb⟩
theorem rckC (v : Value) (l : List Int) (w : World) (hv : Ks l v w) : Calls Tryz.prog 16 #[.agg #[v]] w fun e w' => e = .returned (.int .i64 (kcE l)) ∧ Since w w' := by
 rcases (show l.length < 1 ∨ 400 < l.length ∨ (1 ≤ l.length ∧ l.length ≤ 400) by omega) with h | h | h
 ·exact rck0 v l w hv h
 ·exact rck1 v l w hv h
 ·exact rckM v l w hv h.1 h.2
theorem rtt0 (v : Value) (l : List Int) (w : World) (hv : Ks l v w) (HE : Hid (kcE l ≠ 0)) : Calls Tryz.prog 11 #[.agg #[v]] w fun e w' => e = .returned (.agg #[.int .i64 0, .int .i64 (kcE l)]) ∧ Since w w' := by
 have HV : Hid (∀ X, Since w X → Ks l v X) := fun X h => Ks.lasts l _ _ _ hv h
 clear hv;obtain ⟨z, z9⟩ : ∃ z, z = kcE l := ⟨_, rfl⟩;have HZ := Lib.hid z9
 have hz0 : z ≠ 0 := by rw [z9]; exact HE.out
 clear z9
 go_enter Tryz.func11, Tryz.ntmps11
 go_upto_region 1 with fail;obtain ⟨W0, hW0, hB0, hB1, hb⟩ := start2 w 24 38 [v] [.int .i64 0, .int .i64 0];rw [← hW0];clear hW0;refine jp ?_;refine ja hB0 Tryz.underlying24 (by rfl) info_kn ?_;refine jc (.int .i64 z) (fun X hX hF => mo (rckC _ l X (HV.out X (Since.next hb hX))) (by rw [HZ.out])) ?_;refine jm (.int .i64 z) ?_;refine jzb hb fun X1 hX1 hb => ?_;replace hB0 := hB0.bel hX1;replace hB1 := hB1.bel hX1;clear hX1;go_upto_region 2 with fail;refine jp ?_;refine jm (.int .i64 z) ?_;refine jv (.bool true) (exec_nei _ _ _ _ (by rfl) .i64 z 0 (by rfl) (by rfl) true (by rw [decide_eq_false (by omega)]; rfl)) ?_;refine jzb hb fun X2 hX2 hb => ?_;replace hB0 := hB0.bel hX2;replace hB1 := hB1.bel hX2;clear hX2;go_upto_region 3 with fail;refine jq 2 ?_;refine jm (.int .i64 z) ?_;refine jn (.agg #[.int .i64 0, .int .i64 z]) ?_;refine jzb hb fun X3 hX3 hb => ?_;replace hB0 := hB0.bel hX3;replace hB1 := hB1.bel hX3;clear hX3;refine osb 38 2 9 (w.heap.size + 1) 38 hB1 [.int .i64 0, .int .i64 z] info_cn31 ?_;intro w9 hR9 hO9 hB9 hs9;have hb9 := hB9 _ _ hb (by omega);have hB0 := hO9 _ _ _ (by omega) hB0;clear hO9 hB9
 go_wp2
 refine post_cell rfl rfl (by rfl) Tryz.underlying38 rfl hR9 info_cn31 ⟨by rw [← HZ.out], hb9⟩
theorem rtt1 (v : Value) (l : List Int) (w : World) (hv : Ks l v w) (HK : Hid (Kok l)) : Calls Tryz.prog 11 #[.agg #[v]] w fun e w' => e = .returned (.agg #[.int .i64 (tot l), .int .i64 0]) ∧ Since w w' := by
 have HV : Hid (∀ X, Since w X → Ks l v X) := fun X h => Ks.lasts l _ _ _ hv h
 clear hv;have HC : Hid (kcE l = 0) := kcE_ok.2 HK.out
 go_enter Tryz.func11, Tryz.ntmps11
 go_upto_region 1 with fail;obtain ⟨W0, hW0, hB0, hB1, hb⟩ := start2 w 24 38 [v] [.int .i64 0, .int .i64 0];rw [← hW0];clear hW0;refine jp ?_;refine ja hB0 Tryz.underlying24 (by rfl) info_kn ?_;refine jc (.int .i64 0) (fun X hX hF => mo (rckC _ l X (HV.out X (Since.next hb hX))) (by rw [HC.out])) ?_;refine jm (.int .i64 0) ?_;refine jzb hb fun X1 hX1 hb => ?_;replace hB0 := hB0.bel hX1;replace hB1 := hB1.bel hX1;clear hX1;go_upto_region 2 with fail;refine jp ?_;refine jm (.int .i64 0) ?_;refine jv (.bool false) (exec_nei _ _ _ _ (by rfl) .i64 0 0 (by rfl) (by rfl) false (by rw [decide_eq_true (by omega)]; rfl)) ?_;refine jzb hb fun X2 hX2 hb => ?_;replace hB0 := hB0.bel hX2;replace hB1 := hB1.bel hX2;clear hX2;go_upto_region 4 with fail;refine jq 4 ?_;refine jn (.pointer (some ⟨w.heap.size, 0, none⟩)) ?_;refine jf (v) hB0 0 load_ints ?_;refine jc (.int .i64 (tot l)) (fun X hX hF => rsmK _ l X (HV.out X (Since.next hb hX)) HK.out) ?_;refine jn (.agg #[.int .i64 (tot l), .int .i64 0]) ?_;refine jzb hb fun X3 hX3 hb => ?_;replace hB0 := hB0.bel hX3;replace hB1 := hB1.bel hX3;clear hX3;refine osb 38 2 13 (w.heap.size + 1) 38 hB1 [.int .i64 (tot l), .int .i64 0] info_cn31 ?_;intro w9 hR9 hO9 hB9 hs9;have hb9 := hB9 _ _ hb (by omega);have hB0 := hO9 _ _ _ (by omega) hB0;clear hO9 hB9
 go_wp2
 refine post_cell rfl rfl (by rfl) Tryz.underlying38 rfl hR9 info_cn31 ⟨rfl, hb9⟩
end Go.Proofs.YtcpedbpldgndmaaGreatDoor
