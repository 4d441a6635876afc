/-
  The reference of layer 13: At, Flow.
-/
import Derived.Test.YtchhlgcakjjncaaGreatDoorRc1
set_option linter.unusedSimpArgs false
set_option linter.unusedVariables false
set_option maxRecDepth 100000
set_option maxHeartbeats 1600000
namespace Go.Proofs.YtchhlgcakjjncaaGreatDoor
open Go.RowKit
/-- The flow after so many points. -/
def atR (L : List Kn) (s : Int) (k : Nat) : Rat := if k = 0 then 0 else if k < L.length ∧ s < stg L k then lin (stg L (k - 1)) (flw L (k - 1)) (stg L k) (flw L k) s else flw L (k - 1)
theorem atR_end (L : List Kn) (s : Int) : atR L s (cnt L s) = flowAt L s := by
  have hc := cnt_le L s
  unfold atR flowAt
  by_cases h0 : cnt L s = 0
  · rw [if_pos h0, if_pos h0]
  · rw [if_neg h0, if_neg h0]
    by_cases h1 : cnt L s = L.length
    · rw [if_neg (by omega), if_pos h1]
    · rw [if_pos ⟨by omega, cnt_at L s (by omega)⟩, if_neg h1]
theorem cells_lit {n : Bool} {p q : List UInt8} {x : Rat} (hv : vd n p q = true) (hx : rq n p q = x) : [Value.bool n, .string ⟨p.toArray⟩, .string ⟨q.toArray⟩] = [.bool (rN x), .string ⟨(rP x).toArray⟩, .string ⟨(rD x).toArray⟩] := by
  obtain ⟨h1, h2, h3, _⟩ := vd_eq hv
  rw [← hx, h1, h2, h3]
theorem ratC (b off n c : Nat) (l : List Pt) (s : Int) (w : World) (hr : Rd w 4 (.slice (some ⟨b, off, none⟩) n c) n (fl ptc l)) (hln : l.length = n) (hok : OkC l) (hf : fewP l 1000) : Calls Tryz.prog 87 #[.agg #[.slice (some ⟨b, off, none⟩) n c], .int .i64 s] w fun e w' => e = .returned (rbv (flowAt (l.map kp) s)) ∧ Since w w' := by
  have HRX : Hid (∀ X, Since w X → Rd X 4 (.slice (some ⟨b, off, none⟩) n c) n (fl ptc l)) := fun X h => hr.below h
  have HLN := Lib.hid hln
  have hcr := hok.crv
  have hn16 : n ≤ 16 := by rw [← hln, ← List.length_map kp]; exact hcr.few
  have hcn : cnt (l.map kp) s ≤ n := by rw [← hln, ← List.length_map kp]; exact cnt_le _ _
  obtain ⟨cc, hcc⟩ : ∃ cc, cnt (l.map kp) s = cc := ⟨_, rfl⟩
  rw [hcc] at hcn
  have HCC := Lib.hid hcc
  clear hr hcc
  go_enter Tryz.func87, Tryz.ntmps87
  go_upto_region 1 with (fail)
  obtain ⟨W0, hW0, hB0, hB1, hb⟩ := start2 w 48 23 [.slice (some ⟨b, off, none⟩) n c] [.bool false, .string ⟨#[]⟩, .string ⟨#[]⟩]
  rw [← hW0]
  clear hW0
  refine jq 1 ?_
  refine jn (rz) ?_
  refine jz fun X1 hX1 => ?_
  have hB0 := hB0.bel hX1
  have hB1 := hB1.bel hX1
  have hb := bel_next hb hX1
  clear hX1
  go_upto_region 2 with (refine osn 23 5 10 #[.bool false, .string ⟨#[]⟩, .string ⟨#[]⟩] info_rat ?_)
  obtain ⟨Y1, hY9, hD5, hS9⟩ := start1 X1 23 [.bool false, .string ⟨#[]⟩, .string ⟨#[]⟩]
  rw [← hY9]
  clear hY9
  have hgs5 := hb.size
  have hlt5x0 := hB0.lt
  have hlt5x1 := hB1.lt
  have hB0 := hB0.bel hS9
  have hB1 := hB1.bel hS9
  have hb := bel_next hb hS9
  clear hS9
  generalize X1.heap.size = g5 at *
  refine jp ?_
  refine jm (.int .i64 0) ?_
  refine jz fun X2 hX2 => ?_
  have hB0 := hB0.bel hX2
  have hB1 := hB1.bel hX2
  have hD5 := hD5.bel hX2
  have hb := bel_next hb hX2
  clear hX2
  have hg50 : w.heap.size + 1 < g5 := by omega
  go_wp2
  go_loopw [6] (fun kv wr => ∃ (k : Nat) (v : Rat), k ≤ cc ∧ kv = .int .i64 (k : Int) ∧ Hid (atR (l.map kp) s k = v) ∧ Blk wr w.heap.size 48 [.slice (some ⟨b, off, none⟩) n c] ∧ Blk wr (w.heap.size + 1) 23 [.bool false, .string ⟨#[]⟩, .string ⟨#[]⟩] ∧ Blk wr g5 23 [.bool (rN v), .string ⟨(rP v).toArray⟩, .string ⟨(rD v).toArray⟩] ∧ Below w.heap.size w wr) (fun kv _ => n - (intOf kv).toNat)
  case atStart => exact ⟨0, 0, by omega, rfl, rfl, hB0, hB1, hD5, hb⟩
  case round =>
    clear hB0 hB1 hD5 hb
    obtain ⟨k, v, hk, rfl, HV9, hB0, hB1, hD5, hb⟩ := hrel
    have HFIN : Hid (k = cc → flowAt (l.map kp) s = v) := fun h9 => by rw [← HV9.out, h9, ← HCC.out, atR_end]
    rcases Nat.lt_or_ge k n with hlt | hlt
    · obtain ⟨hbb, hcx⟩ := (HRX.out _ hb).ptIn HLN.out hlt
      obtain ⟨x, hx9⟩ : ∃ x, x = pt l k := ⟨_, rfl⟩
      have HX := Lib.hid hx9
      clear hx9
      rw [← HX.out] at hcx
      have hkl : k < l.length := by rw [HLN.out]; exact hlt
      have tx : tz x.2.2.1 x.2.2.2 1000 := by rw [HX.out]; exact hf k hkl
      have HVX : Hid (vd x.2.1 x.2.2.1 x.2.2.2 = true) := by show _ = _; rw [HX.out]; exact hok.vd k hkl
      obtain ⟨fx, hfx⟩ : ∃ fx, rq x.2.1 x.2.2.1 x.2.2.2 = fx := ⟨_, rfl⟩
      have HFX := Lib.hid hfx
      clear hfx
      have HSX : Hid (stg (l.map kp) k = x.1 ∧ flw (l.map kp) k = fx) := by
        have h9 := kn_at hkl
        refine ⟨by rw [HX.out]; exact h9.1, ?_⟩
        rw [← HFX.out, HX.out]
        exact h9.2
      have hxr : -1000 ≤ x.1 ∧ x.1 ≤ 2000 := by
        have h9 := hcr.rng k (by rw [List.length_map]; exact hkl)
        rw [HSX.out.1] at h9
        exact h9
      go_upto_region 3 with (fail)
      refine jp ?_
      refine jm (.int .i64 (k : Int)) ?_
      refine jn (.pointer (some ⟨w.heap.size, 0, none⟩)) ?_
      refine jf (.slice (some ⟨b, off, none⟩) n c) hB0 0 load_pts ?_
      refine jv (.int .i64 (n : Int)) (exec_lenv Tryz.underlying46 _ (by rfl) (some ⟨b, off, none⟩) n c (by rfl) _ rfl) ?_
      refine jv (.bool true) (exec_lss _ _ _ _ (by rfl) .i64 (k : Int) (n : Int) (by rfl) (by rfl) true (decide_eq_true (by omega))) ?_
      refine jz fun X1 hX1 => ?_
      have hB0 := hB0.bel hX1
      have hB1 := hB1.bel hX1
      have hD5 := hD5.bel hX1
      have hcx := hcx.below hX1 hbb
      replace hbb := Nat.lt_of_lt_of_le hbb (hX1).size
      have hb := bel_next hb hX1
      clear hX1
      go_upto_region 5 with (fail)
      refine jq 5 ?_
      refine jn (.pointer (some ⟨w.heap.size, 0, none⟩)) ?_
      refine jf (.slice (some ⟨b, off, none⟩) n c) hB0 0 load_pts ?_
      refine jm (.int .i64 (k : Int)) ?_
      refine jv (.pointer (some ⟨b, off + k * 4, none⟩)) (exec_ixv Tryz.underlying46 info_pt _ _ (by rfl) b (off) n c k (by omega) (by rfl) (by rfl) rfl) ?_
      refine jg (.agg #[.int .i64 x.1, .bool x.2.1, st x.2.2.1, st x.2.2.2]) (fun X hX hF => exec_ldc 110 _ (by rfl) b (off + k * 4) (by rfl) Tryz.underlying110 rfl [.int .i64 x.1, .bool x.2.1, .string ⟨x.2.2.1.toArray⟩, .string ⟨x.2.2.2.toArray⟩] X (Cl.part (hcx.below hX hbb) 0 _ (by rfl)) info_pt) ?_
      refine jz fun X2 hX2 => ?_
      have hB0 := hB0.bel hX2
      have hB1 := hB1.bel hX2
      have hD5 := hD5.bel hX2
      have hcx := hcx.below hX2 hbb
      replace hbb := Nat.lt_of_lt_of_le hbb (hX2).size
      have hb := bel_next hb hX2
      clear hX2
      go_upto_region 6 with (refine osn 110 7 22 #[.int .i64 x.1, .bool x.2.1, .string ⟨x.2.2.1.toArray⟩, .string ⟨x.2.2.2.toArray⟩] info_pt ?_)
      obtain ⟨Y2, hY9, hD7, hS9⟩ := start1 X2 110 [.int .i64 x.1, .bool x.2.1, .string ⟨x.2.2.1.toArray⟩, .string ⟨x.2.2.2.toArray⟩]
      rw [← hY9]
      clear hY9
      have hgs7 := hb.size
      have hlt7x0 := hB0.lt
      have hlt7x1 := hB1.lt
      have hlt7x2 := hD5.lt
      have hcx := hcx.below hS9 hbb
      replace hbb := Nat.lt_of_lt_of_le hbb (hS9).size
      have hB0 := hB0.bel hS9
      have hB1 := hB1.bel hS9
      have hD5 := hD5.bel hS9
      have hb := bel_next hb hS9
      clear hS9
      generalize X2.heap.size = g7 at *
      rcases Int.lt_or_le s x.1 with hxs | hxs
      · have HK9 : Hid (flowAt (l.map kp) s = v) := HFIN.out (by
          rcases Nat.lt_or_ge k cc with h9 | h9
          · have h8 := cnt_low (l.map kp) s k (by rw [HCC.out]; exact h9)
            rw [HSX.out.1] at h8
            omega
          · omega)
        refine jp ?_
        refine jn (.pointer (some ⟨g7, 0, none⟩)) ?_
        refine jf (.int .i64 x.1) hD7 0 load_int ?_
        refine jm (.int .i64 s) ?_
        refine jv (.bool true) (exec_gtr _ _ _ _ (by rfl) .i64 x.1 s (by rfl) (by rfl) true (decide_eq_true (by omega))) ?_
        refine jz fun X3 hX3 => ?_
        have hB0 := hB0.bel hX3
        have hB1 := hB1.bel hX3
        have hD5 := hD5.bel hX3
        have hD7 := hD7.bel hX3
        have hb := bel_next hb hX3
        clear hX3
        go_upto_region 12 with (fail)
        refine jq 1 ?_
        refine ja hD5 Tryz.underlying23 (by rfl) info_rat ?_
        refine jz fun X4 hX4 => ?_
        have hB0 := hB0.bel hX4
        have hB1 := hB1.bel hX4
        have hD5 := hD5.bel hX4
        have hD7 := hD7.bel hX4
        have hb := bel_next hb hX4
        clear hX4
        refine osb 23 4 73 (w.heap.size + 1) 23 hB1 [.bool (rN v), .string ⟨(rP v).toArray⟩, .string ⟨(rD v).toArray⟩] info_rat ?_
        intro w9 hR9 hO9 hB9 hs9
        have hb9 := hB9 _ _ hb (by omega)
        clear hO9 hB9
        go_wp2
        refine post_cell rfl rfl (by rfl) Tryz.underlying23 rfl hR9 info_rat ⟨by rw [HK9.out], hb9⟩
      · have hkc : k + 1 ≤ cc := by
          rcases Nat.lt_or_ge k cc with h9 | h9
          · exact h9
          · have h8 := cnt_high hcr (s := s) (k := k) (by rw [HCC.out]; exact h9) (by rw [List.length_map]; exact hkl)
            rw [HSX.out.1] at h8
            omega
        refine jp ?_
        refine jn (.pointer (some ⟨g7, 0, none⟩)) ?_
        refine jf (.int .i64 x.1) hD7 0 load_int ?_
        refine jm (.int .i64 s) ?_
        refine jv (.bool false) (exec_gtr _ _ _ _ (by rfl) .i64 x.1 s (by rfl) (by rfl) false (decide_eq_false (by omega))) ?_
        refine jz fun X3 hX3 => ?_
        have hB0 := hB0.bel hX3
        have hB1 := hB1.bel hX3
        have hD5 := hD5.bel hX3
        have hD7 := hD7.bel hX3
        have hb := bel_next hb hX3
        clear hX3
        go_upto_region 7 with (fail)
        refine jq 2 ?_
        refine jn (.pointer (some ⟨g7, 1, none⟩)) ?_
        refine jg (.agg #[.bool x.2.1, st x.2.2.1, st x.2.2.2]) (fun X hX hF => exec_inr 23 _ (by rfl) g7 1 [.bool x.2.1, .string ⟨x.2.2.1.toArray⟩, .string ⟨x.2.2.2.toArray⟩] (by rfl) Tryz.underlying23 rfl X (hD7.bel hX) (by rfl) info_rat) ?_
        refine jz fun X4 hX4 => ?_
        have hB0 := hB0.bel hX4
        have hB1 := hB1.bel hX4
        have hD5 := hD5.bel hX4
        have hD7 := hD7.bel hX4
        have hb := bel_next hb hX4
        clear hX4
        refine osb 23 5 28 g5 23 hD5 [.bool x.2.1, .string ⟨x.2.2.1.toArray⟩, .string ⟨x.2.2.2.toArray⟩] info_rat ?_
        intro w7s hR9 hO9 hB9 hs9
        have hb := hB9 _ _ hb (by omega)
        have hB0 := hO9 _ _ _ (by omega) hB0
        have hB1 := hO9 _ _ _ (by omega) hB1
        have hD7 := hO9 _ _ _ (by omega) hD7
        rw [cells_lit HVX.out HFX.out] at hR9
        have hD5 := hR9
        clear hR9 hO9 hB9 hs9
        go_upto_region 8 with (fail)
        rcases Nat.lt_or_ge (k + 1) n with hk1 | hk1
        · obtain ⟨hbc, hcy⟩ := (HRX.out _ hb).ptIn HLN.out (show k + 1 < n by omega)
          obtain ⟨y, hy9⟩ : ∃ y, y = pt l (k + 1) := ⟨_, rfl⟩
          have HY := Lib.hid hy9
          clear hy9
          rw [← HY.out] at hcy
          have hyl : k + 1 < l.length := by rw [HLN.out]; omega
          have ty : tz y.2.2.1 y.2.2.2 1000 := by rw [HY.out]; exact hf (k + 1) hyl
          obtain ⟨fy, hfy⟩ : ∃ fy, rq y.2.1 y.2.2.1 y.2.2.2 = fy := ⟨_, rfl⟩
          have HFY := Lib.hid hfy
          clear hfy
          have HSY : Hid (stg (l.map kp) (k + 1) = y.1 ∧ flw (l.map kp) (k + 1) = fy) := by
            have h9 := kn_at hyl
            refine ⟨by rw [HY.out]; exact h9.1, ?_⟩
            rw [← HFY.out, HY.out]
            exact h9.2
          have hyr : -1000 ≤ y.1 ∧ y.1 ≤ 2000 := by
            have h9 := hcr.rng (k + 1) (by rw [List.length_map]; exact hyl)
            rw [HSY.out.1] at h9
            exact h9
          have hxy : x.1 < y.1 := by
            have h9 := (hcr.asc k (by rw [List.length_map]; exact hyl)).1
            rw [HSX.out.1, HSY.out.1] at h9
            exact h9
          rcases Int.lt_or_le s y.1 with hys | hys
          · obtain ⟨qq, hqq⟩ : ∃ qq, (((s - x.1 : Int)) : Rat) / (((y.1 - x.1 : Int)) : Rat) = qq := ⟨_, rfl⟩
            have HI1 : Hid (insB (s - x.1) = true) := insB_of (by omega) (by omega)
            have HI2 : Hid (insB (y.1 - x.1) = true) := insB_of (by omega) (by omega)
            have sq9 : szR qq 14 := hqq ▸ szR_div (szR_int HI1.out) (szR_int HI2.out)
            have HQ := Lib.hid hqq
            clear hqq
            have HN : Hid (atR (l.map kp) s (k + 1) = (fx + (qq * (fy - fx)))) := by
              show _ = _
              unfold atR
              rw [if_neg (by omega), if_pos ⟨by rw [List.length_map]; exact hyl, by rw [HSY.out.1]; omega⟩, show k + 1 - 1 = k by omega, HSX.out.1, HSX.out.2, HSY.out.1, HSY.out.2, ← HQ.out]
              rfl
            have LB0 : szR qq 14 := sq9
            have LB3 : szR fy 1000 := szR_tz HFY.out ty
            have LB4 : szR fx 1000 := szR_tz HFX.out tx
            have LB1 : szR (fy - fx) 2001 := szR_sub LB3 LB4
            have LB2 : szR (qq * (fy - fx)) 2015 := szR_mul LB0 LB1
            refine jp ?_
            refine jm (.int .i64 (k : Int)) ?_
            refine jv (.int .i64 ((k + 1 : Nat) : Int)) (exec_add _ _ _ _ (by rfl) (k : Int) 1 ((k + 1 : Nat) : Int) (by rfl) (by rfl) (by omega) (by omega) (by omega)) ?_
            refine jn (.pointer (some ⟨w.heap.size, 0, none⟩)) ?_
            refine jf (.slice (some ⟨b, off, none⟩) n c) hB0 0 load_pts ?_
            refine jv (.int .i64 (n : Int)) (exec_lenv Tryz.underlying46 _ (by rfl) (some ⟨b, off, none⟩) n c (by rfl) _ rfl) ?_
            refine jv (.bool true) (exec_lss _ _ _ _ (by rfl) .i64 ((k + 1 : Nat) : Int) (n : Int) (by rfl) (by rfl) true (decide_eq_true (by omega))) ?_
            refine jm (.bool true) ?_
            refine jn (.pointer (some ⟨w.heap.size, 0, none⟩)) ?_
            refine jf (.slice (some ⟨b, off, none⟩) n c) hB0 0 load_pts ?_
            refine jm (.int .i64 (k : Int)) ?_
            refine jv (.int .i64 ((k + 1 : Nat) : Int)) (exec_add _ _ _ _ (by rfl) (k : Int) 1 ((k + 1 : Nat) : Int) (by rfl) (by rfl) (by omega) (by omega) (by omega)) ?_
            refine jv (.pointer (some ⟨b, off + (k + 1) * 4, none⟩)) (exec_ixv Tryz.underlying46 info_pt _ _ (by rfl) b (off) n c (k + 1) (by omega) (by rfl) (by rfl) rfl) ?_
            refine jn (.pointer (some ⟨b, off + (k + 1) * 4, none⟩)) ?_
            refine jg (.int .i64 y.1) (fun X hX hF => exec_ld 3 _ (by rfl) b (off + (k + 1) * 4) (by rfl) _ X ((hcy.below hX hbc) 0 _ rfl) (fun X u h => load_int b (off + (k + 1) * 4) X u h)) ?_
            refine jm (.int .i64 s) ?_
            refine jv (.bool true) (exec_gtr _ _ _ _ (by rfl) .i64 y.1 s (by rfl) (by rfl) true (decide_eq_true (by omega))) ?_
            refine jm (.bool true) ?_
            refine jz fun X5 hX5 => ?_
            have hB0 := hB0.bel hX5
            have hB1 := hB1.bel hX5
            have hD5 := hD5.bel hX5
            have hD7 := hD7.bel hX5
            have hcy := hcy.below hX5 hbc
            replace hbc := Nat.lt_of_lt_of_le hbc (hX5).size
            have hb := bel_next hb hX5
            clear hX5
            go_upto_region 9 with (fail)
            refine jq 6 ?_
            refine jn (.pointer (some ⟨w.heap.size, 0, none⟩)) ?_
            refine jf (.slice (some ⟨b, off, none⟩) n c) hB0 0 load_pts ?_
            refine jm (.int .i64 (k : Int)) ?_
            refine jv (.int .i64 ((k + 1 : Nat) : Int)) (exec_add _ _ _ _ (by rfl) (k : Int) 1 ((k + 1 : Nat) : Int) (by rfl) (by rfl) (by omega) (by omega) (by omega)) ?_
            refine jv (.pointer (some ⟨b, off + (k + 1) * 4, none⟩)) (exec_ixv Tryz.underlying46 info_pt _ _ (by rfl) b (off) n c (k + 1) (by omega) (by rfl) (by rfl) rfl) ?_
            refine jg (.agg #[.int .i64 y.1, .bool y.2.1, st y.2.2.1, st y.2.2.2]) (fun X hX hF => exec_ldc 110 _ (by rfl) b (off + (k + 1) * 4) (by rfl) Tryz.underlying110 rfl [.int .i64 y.1, .bool y.2.1, .string ⟨y.2.2.1.toArray⟩, .string ⟨y.2.2.2.toArray⟩] X (Cl.part (hcy.below hX hbc) 0 _ (by rfl)) info_pt) ?_
            refine jz fun X6 hX6 => ?_
            have hB0 := hB0.bel hX6
            have hB1 := hB1.bel hX6
            have hD5 := hD5.bel hX6
            have hD7 := hD7.bel hX6
            have hcy := hcy.below hX6 hbc
            replace hbc := Nat.lt_of_lt_of_le hbc (hX6).size
            have hb := bel_next hb hX6
            clear hX6
            go_upto_region 10 with (refine osn 110 8 51 #[.int .i64 y.1, .bool y.2.1, .string ⟨y.2.2.1.toArray⟩, .string ⟨y.2.2.2.toArray⟩] info_pt ?_)
            obtain ⟨Y6, hY9, hD8, hS9⟩ := start1 X6 110 [.int .i64 y.1, .bool y.2.1, .string ⟨y.2.2.1.toArray⟩, .string ⟨y.2.2.2.toArray⟩]
            rw [← hY9]
            clear hY9
            have hgs8 := hb.size
            have hlt8x0 := hB0.lt
            have hlt8x1 := hB1.lt
            have hlt8x2 := hD5.lt
            have hlt8x3 := hD7.lt
            have hcy := hcy.below hS9 hbc
            replace hbc := Nat.lt_of_lt_of_le hbc (hS9).size
            have hB0 := hB0.bel hS9
            have hB1 := hB1.bel hS9
            have hD5 := hD5.bel hS9
            have hD7 := hD7.bel hS9
            have hb := bel_next hb hS9
            clear hS9
            generalize X6.heap.size = g8 at *
            refine jq 11 ?_
            refine jm (.int .i64 s) ?_
            refine jn (.pointer (some ⟨g7, 0, none⟩)) ?_
            refine jf (.int .i64 x.1) hD7 0 load_int ?_
            refine jv (.int .i64 (s - x.1)) (exec_sub _ _ _ _ (by rfl) s x.1 (s - x.1) (by rfl) (by rfl) (by omega) (by omega) (by omega)) ?_
            refine jn (.pointer (some ⟨g8, 0, none⟩)) ?_
            refine jf (.int .i64 y.1) hD8 0 load_int ?_
            refine jn (.pointer (some ⟨g7, 0, none⟩)) ?_
            refine jf (.int .i64 x.1) hD7 0 load_int ?_
            refine jv (.int .i64 (y.1 - x.1)) (exec_sub _ _ _ _ (by rfl) y.1 x.1 (y.1 - x.1) (by rfl) (by rfl) (by omega) (by omega) (by omega)) ?_
            refine jc (.agg #[.bool (rN qq), st (rP qq), st (rD qq), .int .i64 0]) (fun X hX hF => mo (makeS (s - x.1) (y.1 - x.1) X HI1.out HI2.out (by omega)) (by rw [HQ.out])) ?_
            refine jm (rt (rN qq) (rP qq) (rD qq)) ?_
            refine jz fun X7 hX7 => ?_
            have hB0 := hB0.bel hX7
            have hB1 := hB1.bel hX7
            have hD5 := hD5.bel hX7
            have hD7 := hD7.bel hX7
            have hD8 := hD8.bel hX7
            have hb := bel_next hb hX7
            clear hX7
            go_upto_region 11 with (refine osn 23 9 62 #[.bool (rN qq), .string ⟨(rP qq).toArray⟩, .string ⟨(rD qq).toArray⟩] info_rat ?_)
            obtain ⟨Y7, hY9, hD9, hS9⟩ := start1 X7 23 [.bool (rN qq), .string ⟨(rP qq).toArray⟩, .string ⟨(rD qq).toArray⟩]
            rw [← hY9]
            clear hY9
            have hgs9 := hb.size
            have hlt9x0 := hB0.lt
            have hlt9x1 := hB1.lt
            have hlt9x2 := hD5.lt
            have hlt9x3 := hD7.lt
            have hlt9x4 := hD8.lt
            have hB0 := hB0.bel hS9
            have hB1 := hB1.bel hS9
            have hD5 := hD5.bel hS9
            have hD7 := hD7.bel hS9
            have hD8 := hD8.bel hS9
            have hb := bel_next hb hS9
            clear hS9
            generalize X7.heap.size = g9 at *
            go_upto_region 11 with (fail)
            refine lx_region_tail [] (by kernel_rfl) (by kernel_rfl) (by kernel_rfl) rfl (lasts_nil) ?_
            simp only [its, List.dropLast, Nat.zero_add, Nat.reduceAdd]
            refine jn (.pointer (some ⟨g7, 1, none⟩)) ?_
            refine jg (.agg #[.bool x.2.1, st x.2.2.1, st x.2.2.2]) (fun X hX hF => exec_inr 23 _ (by rfl) g7 1 [.bool x.2.1, .string ⟨x.2.2.1.toArray⟩, .string ⟨x.2.2.2.toArray⟩] (by rfl) Tryz.underlying23 rfl X (hD7.bel hX) (by rfl) info_rat) ?_
            refine ja hD9 Tryz.underlying23 (by rfl) info_rat ?_
            refine jn (.pointer (some ⟨g8, 1, none⟩)) ?_
            refine jg (.agg #[.bool y.2.1, st y.2.2.1, st y.2.2.2]) (fun X hX hF => exec_inr 23 _ (by rfl) g8 1 [.bool y.2.1, .string ⟨y.2.2.1.toArray⟩, .string ⟨y.2.2.2.toArray⟩] (by rfl) Tryz.underlying23 rfl X (hD8.bel hX) (by rfl) info_rat) ?_
            refine jn (.pointer (some ⟨g7, 1, none⟩)) ?_
            refine jg (.agg #[.bool x.2.1, st x.2.2.1, st x.2.2.2]) (fun X hX hF => exec_inr 23 _ (by rfl) g7 1 [.bool x.2.1, .string ⟨x.2.2.1.toArray⟩, .string ⟨x.2.2.2.toArray⟩] (by rfl) Tryz.underlying23 rfl X (hD7.bel hX) (by rfl) info_rat) ?_
            refine jc (rt (rN (fy - fx)) (rP (fy - fx)) (rD (fy - fx))) (fun X hX hF => subV5 y.2.1 y.2.2.1 y.2.2.2 x.2.1 x.2.2.1 x.2.2.2 HFY.out HFX.out X (ty.mono (by omega)) (tx.mono (by omega))) ?_
            refine jc (rt (rN (qq * (fy - fx))) (rP (qq * (fy - fx))) (rD (qq * (fy - fx)))) (fun X hX hF => mulS (rN qq) (rP qq) (rD qq) (rN (fy - fx)) (rP (fy - fx)) (rD (fy - fx)) (rq_rb qq) (rq_rb (fy - fx)) X (tzR LB0 (by omega)) (tzR LB1 (by omega))) ?_
            refine jc (.agg #[.bool (rN (fx + (qq * (fy - fx)))), st (rP (fx + (qq * (fy - fx)))), st (rD (fx + (qq * (fy - fx))))]) (fun X hX hF => addS x.2.1 x.2.2.1 x.2.2.2 (rN (qq * (fy - fx))) (rP (qq * (fy - fx))) (rD (qq * (fy - fx))) HFX.out (rq_rb (qq * (fy - fx))) X (tx.mono (by omega)) (tzR LB2 (by omega))) ?_
            refine jz fun X8 hX8 => ?_
            have hB0 := hB0.bel hX8
            have hB1 := hB1.bel hX8
            have hD5 := hD5.bel hX8
            have hD7 := hD7.bel hX8
            have hD8 := hD8.bel hX8
            have hD9 := hD9.bel hX8
            have hb := bel_next hb hX8
            clear hX8
            refine osb 23 5 72 g5 23 hD5 [.bool (rN (fx + (qq * (fy - fx)))), .string ⟨(rP (fx + (qq * (fy - fx)))).toArray⟩, .string ⟨(rD (fx + (qq * (fy - fx)))).toArray⟩] info_rat ?_
            intro w11s hR9 hO9 hB9 hs9
            have hb := hB9 _ _ hb (by omega)
            have hB0 := hO9 _ _ _ (by omega) hB0
            have hB1 := hO9 _ _ _ (by omega) hB1
            have hD7 := hO9 _ _ _ (by omega) hD7
            have hD8 := hO9 _ _ _ (by omega) hD8
            have hD9 := hO9 _ _ _ (by omega) hD9
            have hD5 := hR9
            clear hR9 hO9 hB9 hs9
            go_upto_region 4 with (fail)
            refine jp ?_
            refine jm (.int .i64 (k : Int)) ?_
            refine jv (.int .i64 ((k + 1 : Nat) : Int)) (exec_add _ _ _ _ (by rfl) (k : Int) 1 ((k + 1 : Nat) : Int) (by rfl) (by rfl) (by omega) (by omega) (by omega)) ?_
            refine jm (.int .i64 ((k + 1 : Nat) : Int)) ?_
            refine jz fun X9 hX9 => ?_
            have hB0 := hB0.bel hX9
            have hB1 := hB1.bel hX9
            have hD5 := hD5.bel hX9
            have hD7 := hD7.bel hX9
            have hD8 := hD8.bel hX9
            have hD9 := hD9.bel hX9
            have hb := bel_next hb hX9
            clear hX9
            go_wp2
            go_roundw
            case rel => exact ⟨k + 1, (fx + (qq * (fy - fx))), by omega, rfl, HN, hB0, hB1, hD5, hb⟩
            case measure => simp [intOf]; omega
          · have HN : Hid (atR (l.map kp) s (k + 1) = fx) := by
              show _ = _
              unfold atR
              rw [if_neg (by omega), if_neg (fun h9 => by have h8 := h9.2; rw [HSY.out.1] at h8; omega), show k + 1 - 1 = k by omega, HSX.out.2]
            refine jp ?_
            refine jm (.int .i64 (k : Int)) ?_
            refine jv (.int .i64 ((k + 1 : Nat) : Int)) (exec_add _ _ _ _ (by rfl) (k : Int) 1 ((k + 1 : Nat) : Int) (by rfl) (by rfl) (by omega) (by omega) (by omega)) ?_
            refine jn (.pointer (some ⟨w.heap.size, 0, none⟩)) ?_
            refine jf (.slice (some ⟨b, off, none⟩) n c) hB0 0 load_pts ?_
            refine jv (.int .i64 (n : Int)) (exec_lenv Tryz.underlying46 _ (by rfl) (some ⟨b, off, none⟩) n c (by rfl) _ rfl) ?_
            refine jv (.bool true) (exec_lss _ _ _ _ (by rfl) .i64 ((k + 1 : Nat) : Int) (n : Int) (by rfl) (by rfl) true (decide_eq_true (by omega))) ?_
            refine jm (.bool true) ?_
            refine jn (.pointer (some ⟨w.heap.size, 0, none⟩)) ?_
            refine jf (.slice (some ⟨b, off, none⟩) n c) hB0 0 load_pts ?_
            refine jm (.int .i64 (k : Int)) ?_
            refine jv (.int .i64 ((k + 1 : Nat) : Int)) (exec_add _ _ _ _ (by rfl) (k : Int) 1 ((k + 1 : Nat) : Int) (by rfl) (by rfl) (by omega) (by omega) (by omega)) ?_
            refine jv (.pointer (some ⟨b, off + (k + 1) * 4, none⟩)) (exec_ixv Tryz.underlying46 info_pt _ _ (by rfl) b (off) n c (k + 1) (by omega) (by rfl) (by rfl) rfl) ?_
            refine jn (.pointer (some ⟨b, off + (k + 1) * 4, none⟩)) ?_
            refine jg (.int .i64 y.1) (fun X hX hF => exec_ld 3 _ (by rfl) b (off + (k + 1) * 4) (by rfl) _ X ((hcy.below hX hbc) 0 _ rfl) (fun X u h => load_int b (off + (k + 1) * 4) X u h)) ?_
            refine jm (.int .i64 s) ?_
            refine jv (.bool false) (exec_gtr _ _ _ _ (by rfl) .i64 y.1 s (by rfl) (by rfl) false (decide_eq_false (by omega))) ?_
            refine jm (.bool false) ?_
            refine jz fun X5 hX5 => ?_
            have hB0 := hB0.bel hX5
            have hB1 := hB1.bel hX5
            have hD5 := hD5.bel hX5
            have hD7 := hD7.bel hX5
            have hcy := hcy.below hX5 hbc
            replace hbc := Nat.lt_of_lt_of_le hbc (hX5).size
            have hb := bel_next hb hX5
            clear hX5
            go_upto_region 4 with (fail)
            refine jp ?_
            refine jm (.int .i64 (k : Int)) ?_
            refine jv (.int .i64 ((k + 1 : Nat) : Int)) (exec_add _ _ _ _ (by rfl) (k : Int) 1 ((k + 1 : Nat) : Int) (by rfl) (by rfl) (by omega) (by omega) (by omega)) ?_
            refine jm (.int .i64 ((k + 1 : Nat) : Int)) ?_
            refine jz fun X6 hX6 => ?_
            have hB0 := hB0.bel hX6
            have hB1 := hB1.bel hX6
            have hD5 := hD5.bel hX6
            have hD7 := hD7.bel hX6
            have hcy := hcy.below hX6 hbc
            replace hbc := Nat.lt_of_lt_of_le hbc (hX6).size
            have hb := bel_next hb hX6
            clear hX6
            go_wp2
            go_roundw
            case rel => exact ⟨k + 1, fx, by omega, rfl, HN, hB0, hB1, hD5, hb⟩
            case measure => simp [intOf]; omega
        · have HN : Hid (atR (l.map kp) s (k + 1) = fx) := by
            show _ = _
            unfold atR
            rw [if_neg (by omega), if_neg (fun h9 => by have h8 := h9.1; rw [List.length_map, HLN.out] at h8; omega), show k + 1 - 1 = k by omega, HSX.out.2]
          refine jp ?_
          refine jm (.int .i64 (k : Int)) ?_
          refine jv (.int .i64 ((k + 1 : Nat) : Int)) (exec_add _ _ _ _ (by rfl) (k : Int) 1 ((k + 1 : Nat) : Int) (by rfl) (by rfl) (by omega) (by omega) (by omega)) ?_
          refine jn (.pointer (some ⟨w.heap.size, 0, none⟩)) ?_
          refine jf (.slice (some ⟨b, off, none⟩) n c) hB0 0 load_pts ?_
          refine jv (.int .i64 (n : Int)) (exec_lenv Tryz.underlying46 _ (by rfl) (some ⟨b, off, none⟩) n c (by rfl) _ rfl) ?_
          refine jv (.bool false) (exec_lss _ _ _ _ (by rfl) .i64 ((k + 1 : Nat) : Int) (n : Int) (by rfl) (by rfl) false (decide_eq_false (by omega))) ?_
          refine jm (.bool false) ?_
          refine js ?_
          refine js ?_
          refine js ?_
          refine js ?_
          refine js ?_
          refine js ?_
          refine js ?_
          refine js ?_
          refine js ?_
          refine jm (.bool false) ?_
          refine jz fun X5 hX5 => ?_
          have hB0 := hB0.bel hX5
          have hB1 := hB1.bel hX5
          have hD5 := hD5.bel hX5
          have hD7 := hD7.bel hX5
          have hb := bel_next hb hX5
          clear hX5
          go_upto_region 4 with (fail)
          refine jp ?_
          refine jm (.int .i64 (k : Int)) ?_
          refine jv (.int .i64 ((k + 1 : Nat) : Int)) (exec_add _ _ _ _ (by rfl) (k : Int) 1 ((k + 1 : Nat) : Int) (by rfl) (by rfl) (by omega) (by omega) (by omega)) ?_
          refine jm (.int .i64 ((k + 1 : Nat) : Int)) ?_
          refine jz fun X6 hX6 => ?_
          have hB0 := hB0.bel hX6
          have hB1 := hB1.bel hX6
          have hD5 := hD5.bel hX6
          have hD7 := hD7.bel hX6
          have hb := bel_next hb hX6
          clear hX6
          go_wp2
          go_roundw
          case rel => exact ⟨k + 1, fx, by omega, rfl, HN, hB0, hB1, hD5, hb⟩
          case measure => simp [intOf]; omega
    · obtain rfl : k = n := by omega
      have HK9 : Hid (flowAt (l.map kp) s = v) := HFIN.out (by omega)
      go_upto_region 3 with (fail)
      refine jp ?_
      refine jm (.int .i64 (k : Int)) ?_
      refine jn (.pointer (some ⟨w.heap.size, 0, none⟩)) ?_
      refine jf (.slice (some ⟨b, off, none⟩) k c) hB0 0 load_pts ?_
      refine jv (.int .i64 (k : Int)) (exec_lenv Tryz.underlying46 _ (by rfl) (some ⟨b, off, none⟩) k c (by rfl) _ rfl) ?_
      refine jv (.bool false) (exec_lss _ _ _ _ (by rfl) .i64 (k : Int) (k : Int) (by rfl) (by rfl) false (decide_eq_false (by omega))) ?_
      refine jz fun X1 hX1 => ?_
      have hB0 := hB0.bel hX1
      have hB1 := hB1.bel hX1
      have hD5 := hD5.bel hX1
      have hb := bel_next hb hX1
      clear hX1
      go_upto_region 12 with (fail)
      refine jq 1 ?_
      refine ja hD5 Tryz.underlying23 (by rfl) info_rat ?_
      refine jz fun X2 hX2 => ?_
      have hB0 := hB0.bel hX2
      have hB1 := hB1.bel hX2
      have hD5 := hD5.bel hX2
      have hb := bel_next hb hX2
      clear hX2
      refine osb 23 4 73 (w.heap.size + 1) 23 hB1 [.bool (rN v), .string ⟨(rP v).toArray⟩, .string ⟨(rD v).toArray⟩] info_rat ?_
      intro w9 hR9 hO9 hB9 hs9
      have hb9 := hB9 _ _ hb (by omega)
      clear hO9 hB9
      go_wp2
      refine post_cell rfl rfl (by rfl) Tryz.underlying23 rfl hR9 info_rat ⟨by rw [HK9.out], hb9⟩
theorem rflowCe (A : Option Addr) (n c : Nat) (l : List Pt) (s : Int) (w : World) (hr : Rd w 4 (.slice A n c) n (fl ptc l)) (hln : l.length = n) (hn1 : n ≤ 9223372036854775807) (hf : fewP l 1000) (hc : ck l ≠ 0) : Calls Tryz.prog 41 #[.agg #[.slice A n c], .int .i64 s] w fun e w' => e = .returned (rbv (flowC0 l s)) ∧ Since w w' := by
  have HRX : Hid (∀ X, Since w X → Rd X 4 (.slice A n c) n (fl ptc l)) := fun X h => hr.below h
  have HFL : Hid (flowC0 l s = 0) := if_neg hc
  clear hr
  go_enter Tryz.func41, Tryz.ntmps41
  go_upto_region 1 with (fail)
  obtain ⟨W0, hW0, hB0, hB1, hb⟩ := start2 w 48 23 [.slice A n c] [.bool false, .string ⟨#[]⟩, .string ⟨#[]⟩]
  rw [← hW0]
  clear hW0
  refine jp ?_
  refine ja hB0 Tryz.underlying48 (by rfl) info_cv ?_
  refine jc (.int .i64 (ck l)) (fun X hX hF => rcheckC A n c l X (HRX.out X (hb.trans (Below.mono hX hb.size))) hln hn1 hf.mono) ?_
  refine jv (.bool true) (exec_nei _ _ _ _ (by rfl) .i64 (ck l) 0 (by rfl) (by rfl) true (by rw [decide_eq_false (by omega)]; rfl)) ?_
  refine jz fun X1 hX1 => ?_
  have hB0 := hB0.bel hX1
  have hB1 := hB1.bel hX1
  have hb := bel_next hb hX1
  clear hX1
  go_upto_region 2 with (fail)
  refine jq 1 ?_
  refine jn (rz) ?_
  refine jz fun X2 hX2 => ?_
  have hB0 := hB0.bel hX2
  have hB1 := hB1.bel hX2
  have hb := bel_next hb hX2
  clear hX2
  refine osb 23 4 8 (w.heap.size + 1) 23 hB1 [.bool false, .string ⟨#[]⟩, .string ⟨#[]⟩] info_rat ?_
  intro w9 hR9 hO9 hB9 hs9
  have hb9 := hB9 _ _ hb (by omega)
  clear hO9 hB9
  go_wp2
  refine post_cell rfl rfl (by rfl) Tryz.underlying23 rfl hR9 info_rat ⟨by rw [HFL.out]; rfl, hb9⟩
theorem rflowCo (b off n c : Nat) (l : List Pt) (s : Int) (w : World) (hr : Rd w 4 (.slice (some ⟨b, off, none⟩) n c) n (fl ptc l)) (hln : l.length = n) (hn1 : n ≤ 9223372036854775807) (hf : fewP l 1000) (hc : ck l = 0) : Calls Tryz.prog 41 #[.agg #[.slice (some ⟨b, off, none⟩) n c], .int .i64 s] w fun e w' => e = .returned (rbv (flowC0 l s)) ∧ Since w w' := by
  have HRX : Hid (∀ X, Since w X → Rd X 4 (.slice (some ⟨b, off, none⟩) n c) n (fl ptc l)) := fun X h => hr.below h
  have HFL : Hid (flowC0 l s = flowAt (l.map kp) s) := if_pos hc
  have hok := ck_zero hc
  clear hr
  go_enter Tryz.func41, Tryz.ntmps41
  go_upto_region 1 with (fail)
  obtain ⟨W0, hW0, hB0, hB1, hb⟩ := start2 w 48 23 [.slice (some ⟨b, off, none⟩) n c] [.bool false, .string ⟨#[]⟩, .string ⟨#[]⟩]
  rw [← hW0]
  clear hW0
  refine jp ?_
  refine ja hB0 Tryz.underlying48 (by rfl) info_cv ?_
  refine jc (.int .i64 (ck l)) (fun X hX hF => rcheckC (some ⟨b, off, none⟩) n c l X (HRX.out X (hb.trans (Below.mono hX hb.size))) hln hn1 hf.mono) ?_
  refine jv (.bool false) (exec_nei _ _ _ _ (by rfl) .i64 (ck l) 0 (by rfl) (by rfl) false (by rw [decide_eq_true (by omega)]; rfl)) ?_
  refine jz fun X1 hX1 => ?_
  have hB0 := hB0.bel hX1
  have hB1 := hB1.bel hX1
  have hb := bel_next hb hX1
  clear hX1
  go_upto_region 3 with (fail)
  refine jq 3 ?_
  refine ja hB0 Tryz.underlying48 (by rfl) info_cv ?_
  refine jm (.int .i64 s) ?_
  refine jc (rt (rN (flowAt (l.map kp) s)) (rP (flowAt (l.map kp) s)) (rD (flowAt (l.map kp) s))) (fun X hX hF => ratC b off n c l s X (HRX.out X (hb.trans (Below.mono hX hb.size))) hln hok hf) ?_
  refine jz fun X2 hX2 => ?_
  have hB0 := hB0.bel hX2
  have hB1 := hB1.bel hX2
  have hb := bel_next hb hX2
  clear hX2
  refine osb 23 4 11 (w.heap.size + 1) 23 hB1 [.bool (rN (flowAt (l.map kp) s)), .string ⟨(rP (flowAt (l.map kp) s)).toArray⟩, .string ⟨(rD (flowAt (l.map kp) s)).toArray⟩] info_rat ?_
  intro w9 hR9 hO9 hB9 hs9
  have hb9 := hB9 _ _ hb (by omega)
  clear hO9 hB9
  go_wp2
  refine post_cell rfl rfl (by rfl) Tryz.underlying23 rfl hR9 info_rat ⟨by rw [HFL.out], hb9⟩
theorem rflowC (A : Option Addr) (n c : Nat) (l : List Pt) (s : Int) (w : World) (hr : Rd w 4 (.slice A n c) n (fl ptc l)) (hln : l.length = n) (hn1 : n ≤ 9223372036854775807) (hf : fewP l 1000) : Calls Tryz.prog 41 #[.agg #[.slice A n c], .int .i64 s] w fun e w' => e = .returned (rbv (flowC0 l s)) ∧ Since w w' := by
  by_cases hc : ck l = 0
  · obtain ⟨b, off, rfl⟩ := some_addr hr hln hc
    exact rflowCo b off n c l s w hr hln hn1 hf hc
  · exact rflowCe A n c l s w hr hln hn1 hf hc
end Go.Proofs.YtchhlgcakjjncaaGreatDoor
