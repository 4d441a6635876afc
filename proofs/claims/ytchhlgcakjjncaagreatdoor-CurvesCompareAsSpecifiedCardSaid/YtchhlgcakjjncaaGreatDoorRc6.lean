/-
  The reference of layer 13: Differ.
-/
import Derived.Test.YtchhlgcakjjncaaGreatDoorRc5
set_option linter.unusedSimpArgs false
set_option linter.unusedVariables false
set_option maxRecDepth 100000
set_option maxHeartbeats 1600000
namespace Go.Proofs.YtchhlgcakjjncaaGreatDoor
open Go.RowKit
theorem info_mp13 : (Tryz.prog.info? 69).map (·.size) = some 2 := by kernel_rfl
/-- A row that is not empty, as a block; and back. -/
theorem own_to_blk {X : World} {base n c : Nat} {e : TypeId} {m : Nat} {A : Option Addr} {xs : List Value} (h : X.ownsRow base e m (.slice A n c) n xs) (hn : 0 < n) : ∃ g tl, A = some ⟨g, 0, none⟩ ∧ base ≤ g ∧ n ≤ c ∧ c ≤ maxLen ∧ (xs ++ tl).length = c * m ∧ Blk X g e (xs ++ tl) := by
  obtain ⟨hl, hr⟩ := h
  rcases hr with ⟨h1, h2⟩ | ⟨g, cap, cur, hv, hb, hg, hnc, hm, hs, ht⟩
  · omega
  · injection hv with h1 h2 h3
    subst h1 h3
    refine ⟨g, cur.toList.drop (n * m), rfl, hb, hnc, hm, ?_, ?_⟩
    · rw [← ht, List.take_append_drop]
      simpa using hs
    · unfold Blk
      rw [hg, ← ht, List.take_append_drop]
theorem own_frm_blk {X : World} {base n c g : Nat} {e : TypeId} {m : Nat} {xs tl : List Value} (hxl : xs.length = n * m) (hb : base ≤ g) (hnc : n ≤ c) (hm : c ≤ maxLen) (hs : (xs ++ tl).length = c * m) (hB : Blk X g e (xs ++ tl)) : X.ownsRow base e m (.slice (some ⟨g, 0, none⟩) n c) n xs := by
  refine ⟨hxl, .inr ⟨g, c, (xs ++ tl).toArray, rfl, hb, hB, hnc, hm, by simpa using hs, ?_⟩⟩
  show (xs ++ tl).take (n * m) = xs
  rw [← hxl, List.take_left]
theorem rdifferC1 (A : Option Addr) (n c : Nat) (l : List Pt) (A' : Option Addr) (n' c' : Nat) (m : List Pt) (w : World) (hr : Rd w 4 (.slice A n c) n (fl ptc l)) (hr' : Rd w 4 (.slice A' n' c') n' (fl ptc m)) (hln : l.length = n) (hlm : m.length = n') (hn1 : n ≤ 9223372036854775807) (hn2 : n' ≤ 9223372036854775807) (hf : fewP l 1000) (hf' : fewP m 1000) (hc : ck l ≠ 0) : Calls Tryz.prog 47 #[.agg #[.slice A n c], .agg #[.slice A' n' c']] w fun e w' => ∃ A9 m9 c9, e = .returned (.agg #[.slice A9 m9 c9, .int .i64 (dfE l m)]) ∧ Rd w' 2 (.slice A9 m9 c9) m9 (fl btc (dfL l m)) ∧ (dfL l m).length = m9 ∧ Since w w' := by
  have HRX : Hid (∀ X, Since w X → Rd X 4 (.slice A n c) n (fl ptc l)) := fun X h => hr.below h
  have HRY : Hid (∀ X, Since w X → Rd X 4 (.slice A' n' c') n' (fl ptc m)) := fun X h => hr'.below h
  clear hr hr'
  have HFL : Hid (dfE l m = ck l ∧ dfL l m = []) := ⟨if_pos hc, if_neg (fun h9 => hc h9.1)⟩
  go_enter Tryz.func47, Tryz.ntmps47
  go_upto_region 1 with (fail)
  obtain ⟨W0, hW0, hB0, hB1, hB2, hb⟩ := start3 w 48 48 69 [.slice A n c] [.slice A' n' c'] [.slice none 0 0, .int .i64 0]
  rw [← hW0]
  clear hW0
  refine jp ?_
  refine ja hB0 Tryz.underlying48 (by rfl) info_cv ?_
  refine jc (.int .i64 (ck l)) (fun X hX hF => rcheckC A n c l X (HRX.out X (hb.trans (Below.mono hX hb.size))) hln hn1 hf.mono) ?_
  refine jm (.int .i64 (ck l)) ?_
  refine jz fun X1 hX1 => ?_
  have hB0 := hB0.bel hX1
  have hB1 := hB1.bel hX1
  have hB2 := hB2.bel hX1
  have hb := bel_next hb hX1
  clear hX1
  go_upto_region 2 with (fail)
  refine jp ?_
  refine jm (.int .i64 (ck l)) ?_
  refine jv (.bool false) (exec_eqi _ _ _ _ (by rfl) .i64 (ck l) 0 (by rfl) (by rfl) false (decide_eq_false (by omega))) ?_
  refine jz fun X2 hX2 => ?_
  have hB0 := hB0.bel hX2
  have hB1 := hB1.bel hX2
  have hB2 := hB2.bel hX2
  have hb := bel_next hb hX2
  clear hX2
  go_upto_region 4 with (fail)
  refine jp ?_
  refine jm (.int .i64 (ck l)) ?_
  refine jv (.bool true) (exec_nei _ _ _ _ (by rfl) .i64 (ck l) 0 (by rfl) (by rfl) true (by rw [decide_eq_false (by omega)]; rfl)) ?_
  refine jz fun X3 hX3 => ?_
  have hB0 := hB0.bel hX3
  have hB1 := hB1.bel hX3
  have hB2 := hB2.bel hX3
  have hb := bel_next hb hX3
  clear hX3
  go_upto_region 5 with (fail)
  refine jq 2 ?_
  refine jm (.int .i64 (ck l)) ?_
  refine jn (.agg #[.slice none 0 0, .int .i64 (ck l)]) ?_
  refine jz fun X4 hX4 => ?_
  have hB0 := hB0.bel hX4
  have hB1 := hB1.bel hX4
  have hB2 := hB2.bel hX4
  have hb := bel_next hb hX4
  clear hX4
  refine osb 69 4 19 (w.heap.size + 2) 69 hB2 [.slice none 0 0, .int .i64 (ck l)] info_mp13 ?_
  intro w9 hR9 hO9 hB9 hs9
  have hb9 := hB9 _ _ hb (by omega)
  clear hO9 hB9
  go_wp2
  refine post_cell rfl rfl (by rfl) Tryz.underlying69 rfl hR9 info_mp13 ⟨none, 0, 0, by rw [HFL.out.1], by rw [HFL.out.2]; exact ⟨rfl, none, 0, rfl, Nat.le_refl _, Nat.zero_le _, fun _ => rfl, fun h => absurd h (Nat.lt_irrefl 0)⟩, by rw [HFL.out.2]; rfl, hb9⟩
theorem rdifferC2 (A : Option Addr) (n c : Nat) (l : List Pt) (A' : Option Addr) (n' c' : Nat) (m : List Pt) (w : World) (hr : Rd w 4 (.slice A n c) n (fl ptc l)) (hr' : Rd w 4 (.slice A' n' c') n' (fl ptc m)) (hln : l.length = n) (hlm : m.length = n') (hn1 : n ≤ 9223372036854775807) (hn2 : n' ≤ 9223372036854775807) (hf : fewP l 1000) (hf' : fewP m 1000) (hc : ck l = 0) (hc2 : ck m ≠ 0) : Calls Tryz.prog 47 #[.agg #[.slice A n c], .agg #[.slice A' n' c']] w fun e w' => ∃ A9 m9 c9, e = .returned (.agg #[.slice A9 m9 c9, .int .i64 (dfE l m)]) ∧ Rd w' 2 (.slice A9 m9 c9) m9 (fl btc (dfL l m)) ∧ (dfL l m).length = m9 ∧ Since w w' := by
  have HRX : Hid (∀ X, Since w X → Rd X 4 (.slice A n c) n (fl ptc l)) := fun X h => hr.below h
  have HRY : Hid (∀ X, Since w X → Rd X 4 (.slice A' n' c') n' (fl ptc m)) := fun X h => hr'.below h
  clear hr hr'
  have HFL : Hid (dfE l m = ck m ∧ dfL l m = []) := ⟨if_neg (fun h9 => h9 hc), if_neg (fun h9 => hc2 h9.2)⟩
  go_enter Tryz.func47, Tryz.ntmps47
  go_upto_region 1 with (fail)
  obtain ⟨W0, hW0, hB0, hB1, hB2, hb⟩ := start3 w 48 48 69 [.slice A n c] [.slice A' n' c'] [.slice none 0 0, .int .i64 0]
  rw [← hW0]
  clear hW0
  refine jp ?_
  refine ja hB0 Tryz.underlying48 (by rfl) info_cv ?_
  refine jc (.int .i64 0) (fun X hX hF => mo (rcheckC A n c l X (HRX.out X (hb.trans (Below.mono hX hb.size))) hln hn1 hf.mono) (by rw [hc])) ?_
  refine jm (.int .i64 0) ?_
  refine jz fun X1 hX1 => ?_
  have hB0 := hB0.bel hX1
  have hB1 := hB1.bel hX1
  have hB2 := hB2.bel hX1
  have hb := bel_next hb hX1
  clear hX1
  go_upto_region 2 with (fail)
  refine jp ?_
  refine jm (.int .i64 0) ?_
  refine jv (.bool true) (exec_eqi _ _ _ _ (by rfl) .i64 0 0 (by rfl) (by rfl) true (decide_eq_true (by omega))) ?_
  refine jz fun X2 hX2 => ?_
  have hB0 := hB0.bel hX2
  have hB1 := hB1.bel hX2
  have hB2 := hB2.bel hX2
  have hb := bel_next hb hX2
  clear hX2
  go_upto_region 3 with (fail)
  refine jp ?_
  refine ja hB1 Tryz.underlying48 (by rfl) info_cv ?_
  refine jc (.int .i64 (ck m)) (fun X hX hF => rcheckC A' n' c' m X (HRY.out X (hb.trans (Below.mono hX hb.size))) hlm hn2 hf'.mono) ?_
  refine jm (.int .i64 (ck m)) ?_
  refine jz fun X3 hX3 => ?_
  have hB0 := hB0.bel hX3
  have hB1 := hB1.bel hX3
  have hB2 := hB2.bel hX3
  have hb := bel_next hb hX3
  clear hX3
  go_upto_region 4 with (fail)
  refine jp ?_
  refine jm (.int .i64 (ck m)) ?_
  refine jv (.bool true) (exec_nei _ _ _ _ (by rfl) .i64 (ck m) 0 (by rfl) (by rfl) true (by rw [decide_eq_false (by omega)]; rfl)) ?_
  refine jz fun X4 hX4 => ?_
  have hB0 := hB0.bel hX4
  have hB1 := hB1.bel hX4
  have hB2 := hB2.bel hX4
  have hb := bel_next hb hX4
  clear hX4
  go_upto_region 5 with (fail)
  refine jq 2 ?_
  refine jm (.int .i64 (ck m)) ?_
  refine jn (.agg #[.slice none 0 0, .int .i64 (ck m)]) ?_
  refine jz fun X5 hX5 => ?_
  have hB0 := hB0.bel hX5
  have hB1 := hB1.bel hX5
  have hB2 := hB2.bel hX5
  have hb := bel_next hb hX5
  clear hX5
  refine osb 69 4 19 (w.heap.size + 2) 69 hB2 [.slice none 0 0, .int .i64 (ck m)] info_mp13 ?_
  intro w9 hR9 hO9 hB9 hs9
  have hb9 := hB9 _ _ hb (by omega)
  clear hO9 hB9
  go_wp2
  refine post_cell rfl rfl (by rfl) Tryz.underlying69 rfl hR9 info_mp13 ⟨none, 0, 0, by rw [HFL.out.1], by rw [HFL.out.2]; exact ⟨rfl, none, 0, rfl, Nat.le_refl _, Nat.zero_le _, fun _ => rfl, fun h => absurd h (Nat.lt_irrefl 0)⟩, by rw [HFL.out.2]; rfl, hb9⟩
theorem rdifferCo (b off : Nat) (n c : Nat) (l : List Pt) (b2 off2 : Nat) (n' c' : Nat) (m : List Pt) (w : World) (hr : Rd w 4 (.slice (some ⟨b, off, none⟩) n c) n (fl ptc l)) (hr' : Rd w 4 (.slice (some ⟨b2, off2, none⟩) n' c') n' (fl ptc m)) (hln : l.length = n) (hlm : m.length = n') (hn1 : n ≤ 9223372036854775807) (hn2 : n' ≤ 9223372036854775807) (hf : fewP l 1000) (hf' : fewP m 1000) (hc : ck l = 0) (hc2 : ck m = 0) : Calls Tryz.prog 47 #[.agg #[.slice (some ⟨b, off, none⟩) n c], .agg #[.slice (some ⟨b2, off2, none⟩) n' c']] w fun e w' => ∃ A9 m9 c9, e = .returned (.agg #[.slice A9 m9 c9, .int .i64 (dfE l m)]) ∧ Rd w' 2 (.slice A9 m9 c9) m9 (fl btc (dfL l m)) ∧ (dfL l m).length = m9 ∧ Since w w' := by
  have HRX : Hid (∀ X, Since w X → Rd X 4 (.slice (some ⟨b, off, none⟩) n c) n (fl ptc l)) := fun X h => hr.below h
  have HRY : Hid (∀ X, Since w X → Rd X 4 (.slice (some ⟨b2, off2, none⟩) n' c') n' (fl ptc m)) := fun X h => hr'.below h
  clear hr hr'
  have HFL : Hid (dfE l m = 0 ∧ dfL l m = dfl (l.map kp) (m.map kp) 3001) := ⟨(if_neg (fun h9 => h9 hc)).trans hc2, if_pos ⟨hc, hc2⟩⟩
  have hok := ck_zero hc
  have hok2 := ck_zero hc2
  go_enter Tryz.func47, Tryz.ntmps47
  go_upto_region 1 with (fail)
  obtain ⟨W0, hW0, hB0, hB1, hB2, hb⟩ := start3 w 48 48 69 [.slice (some ⟨b, off, none⟩) n c] [.slice (some ⟨b2, off2, none⟩) n' c'] [.slice none 0 0, .int .i64 0]
  rw [← hW0]
  clear hW0
  refine jp ?_
  refine ja hB0 Tryz.underlying48 (by rfl) info_cv ?_
  refine jc (.int .i64 0) (fun X hX hF => mo (rcheckC (some ⟨b, off, none⟩) n c l X (HRX.out X (hb.trans (Below.mono hX hb.size))) hln hn1 hf.mono) (by rw [hc])) ?_
  refine jm (.int .i64 0) ?_
  refine jz fun X1 hX1 => ?_
  have hB0 := hB0.bel hX1
  have hB1 := hB1.bel hX1
  have hB2 := hB2.bel hX1
  have hb := bel_next hb hX1
  clear hX1
  go_upto_region 2 with (fail)
  refine jp ?_
  refine jm (.int .i64 0) ?_
  refine jv (.bool true) (exec_eqi _ _ _ _ (by rfl) .i64 0 0 (by rfl) (by rfl) true (decide_eq_true (by omega))) ?_
  refine jz fun X2 hX2 => ?_
  have hB0 := hB0.bel hX2
  have hB1 := hB1.bel hX2
  have hB2 := hB2.bel hX2
  have hb := bel_next hb hX2
  clear hX2
  go_upto_region 3 with (fail)
  refine jp ?_
  refine ja hB1 Tryz.underlying48 (by rfl) info_cv ?_
  refine jc (.int .i64 0) (fun X hX hF => mo (rcheckC (some ⟨b2, off2, none⟩) n' c' m X (HRY.out X (hb.trans (Below.mono hX hb.size))) hlm hn2 hf'.mono) (by rw [hc2])) ?_
  refine jm (.int .i64 0) ?_
  refine jz fun X3 hX3 => ?_
  have hB0 := hB0.bel hX3
  have hB1 := hB1.bel hX3
  have hB2 := hB2.bel hX3
  have hb := bel_next hb hX3
  clear hX3
  go_upto_region 4 with (fail)
  refine jp ?_
  refine jm (.int .i64 0) ?_
  refine jv (.bool false) (exec_nei _ _ _ _ (by rfl) .i64 0 0 (by rfl) (by rfl) false (by rw [decide_eq_true (by omega)]; rfl)) ?_
  refine jz fun X4 hX4 => ?_
  have hB0 := hB0.bel hX4
  have hB1 := hB1.bel hX4
  have hB2 := hB2.bel hX4
  have hb := bel_next hb hX4
  clear hX4
  go_upto_region 6 with (fail)
  refine jp ?_
  refine jm (.slice none 0 0) ?_
  refine jz fun X5 hX5 => ?_
  have hB0 := hB0.bel hX5
  have hB1 := hB1.bel hX5
  have hB2 := hB2.bel hX5
  have hb := bel_next hb hX5
  clear hX5
  go_upto_region 7 with (fail)
  refine jp ?_
  refine jm (.bool false) ?_
  refine jz fun X6 hX6 => ?_
  have hB0 := hB0.bel hX6
  have hB1 := hB1.bel hX6
  have hB2 := hB2.bel hX6
  have hb := bel_next hb hX6
  clear hX6
  go_upto_region 8 with (fail)
  refine jp ?_
  refine jm (.int .i64 (-1000)) ?_
  refine jz fun X7 hX7 => ?_
  have hB0 := hB0.bel hX7
  have hB1 := hB1.bel hX7
  have hB2 := hB2.bel hX7
  have hb := bel_next hb hX7
  clear hX7
  go_wp2
  go_loopw [6, 7, 8] (fun ov iv kv wr => ∃ (k : Nat) (A9 : Option Addr) (n9 c9 : Nat) (ib : Bool), k ≤ 3001 ∧ ov = .slice A9 n9 c9 ∧ iv = .bool ib ∧ kv = .int .i64 (-1000 + (k : Int)) ∧ Hid (ib = true ↔ 0 < k ∧ flowAt (l.map kp) (-1000 + (k : Int) - 1) ≠ flowAt (m.map kp) (-1000 + (k : Int) - 1)) ∧ Hid (wr.ownsRow (w.heap.size + 3) 73 2 (.slice A9 n9 c9) n9 (fl btc (dfl (l.map kp) (m.map kp) k))) ∧ Blk wr w.heap.size 48 [.slice (some ⟨b, off, none⟩) n c] ∧ Blk wr (w.heap.size + 1) 48 [.slice (some ⟨b2, off2, none⟩) n' c'] ∧ Blk wr (w.heap.size + 2) 69 [.slice none 0 0, .int .i64 0] ∧ Below w.heap.size w wr) (fun ov iv kv _ => 3001 - (intOf kv + 1000).toNat)
  case atStart => exact ⟨0, none, 0, 0, false, by omega, rfl, rfl, rfl, ⟨(fun h9 => by cases h9), fun h9 => absurd h9.1 (by omega)⟩, ⟨rfl, .inl ⟨rfl, rfl⟩⟩, hB0, hB1, hB2, hb⟩
  case round =>
    clear hB0 hB1 hB2 hb
    obtain ⟨k, A9, n9, c9, ib, hk, rfl, rfl, rfl, HIB, HO, hB0, hB1, hB2, hb⟩ := hrel
    have hd9 := dfl_len (l.map kp) (m.map kp) k
    have hn9l : (dfl (l.map kp) (m.map kp) k).length = n9 := by
      have h9 := HO.out.1
      rw [fl_len (fun x _ => btc_len x)] at h9
      omega
    have hn9 : n9 ≤ 3001 := by omega
    clear hd9
    rcases Nat.lt_or_ge k 3001 with hlt9 | hlt9
    · have hsp : -1000 + ((k + 1 : Nat) : Int) - 1 = -1000 + (k : Int) := by omega
      have HSP := Lib.hid hsp
      clear hsp
      go_upto_region 9 with (fail)
      refine jp ?_
      refine jm (.int .i64 (-1000 + (k : Int))) ?_
      refine jv (.bool true) (exec_leq _ _ _ _ (by rfl) .i64 (-1000 + (k : Int)) 2000 (by rfl) (by rfl) true (decide_eq_true (by omega))) ?_
      refine jz fun X1 hX1 => ?_
      have HO : Hid (World.ownsRow _ _ _ _ _ _ _) := own_since HO.out hX1
      have hB0 := hB0.bel hX1
      have hB1 := hB1.bel hX1
      have hB2 := hB2.bel hX1
      have hb := bel_next hb hX1
      clear hX1
      by_cases hfe : (flowAt (l.map kp) (-1000 + (k : Int))) = (flowAt (m.map kp) (-1000 + (k : Int)))
      · have HIN : Hid (false = true ↔ 0 < k + 1 ∧ flowAt (l.map kp) (-1000 + ((k + 1 : Nat) : Int) - 1) ≠ flowAt (m.map kp) (-1000 + ((k + 1 : Nat) : Int) - 1)) := by
          show _ ↔ _
          rw [HSP.out]
          exact ⟨(fun h9 => by cases h9), fun h9 => absurd hfe h9.2⟩
        go_upto_region 11 with (fail)
        refine jd ?_
        refine ja hB0 Tryz.underlying48 (by rfl) info_cv ?_
        refine jm (.int .i64 (-1000 + (k : Int))) ?_
        refine jc (.agg #[.bool (rN (flowAt (l.map kp) (-1000 + (k : Int)))), st (rP (flowAt (l.map kp) (-1000 + (k : Int)))), st (rD (flowAt (l.map kp) (-1000 + (k : Int))))]) (fun X hX hF => ratC b off n c l (-1000 + (k : Int)) X (HRX.out X (hb.trans (Below.mono hX hb.size))) hln hok hf) ?_
        refine ja hB1 Tryz.underlying48 (by rfl) info_cv ?_
        refine jm (.int .i64 (-1000 + (k : Int))) ?_
        refine jc (.agg #[.bool (rN (flowAt (m.map kp) (-1000 + (k : Int)))), st (rP (flowAt (m.map kp) (-1000 + (k : Int)))), st (rD (flowAt (m.map kp) (-1000 + (k : Int))))]) (fun X hX hF => ratC b2 off2 n' c' m (-1000 + (k : Int)) X (HRY.out X (hb.trans (Below.mono hX hb.size))) hlm hok2 hf') ?_
        refine jv (.bool false) (exec_ner _ _ (by rfl) (rN (flowAt (l.map kp) (-1000 + (k : Int)))) (rP (flowAt (l.map kp) (-1000 + (k : Int)))) (rD (flowAt (l.map kp) (-1000 + (k : Int)))) (rN (flowAt (m.map kp) (-1000 + (k : Int)))) (rP (flowAt (m.map kp) (-1000 + (k : Int)))) (rD (flowAt (m.map kp) (-1000 + (k : Int)))) (by rfl) (by rfl) false (rb_eqt hfe)) ?_
        refine jm (.bool false) ?_
        refine jz fun X2 hX2 => ?_
        have HO : Hid (World.ownsRow _ _ _ _ _ _ _) := own_since HO.out hX2
        have hB0 := hB0.bel hX2
        have hB1 := hB1.bel hX2
        have hB2 := hB2.bel hX2
        have hb := bel_next hb hX2
        clear hX2
        go_upto_region 12 with (fail)
        refine jp ?_
        refine jm (.bool false) ?_
        refine jm (.bool false) ?_
        refine js ?_
        refine js ?_
        refine jm (.bool false) ?_
        refine jz fun X3 hX3 => ?_
        have HO : Hid (World.ownsRow _ _ _ _ _ _ _) := own_since HO.out hX3
        have hB0 := hB0.bel hX3
        have hB1 := hB1.bel hX3
        have hB2 := hB2.bel hX3
        have hb := bel_next hb hX3
        clear hX3
        go_upto_region 14 with (fail)
        refine jp ?_
        refine jm (.bool false) ?_
        refine jz fun X4 hX4 => ?_
        have HO : Hid (World.ownsRow _ _ _ _ _ _ _) := own_since HO.out hX4
        have hB0 := hB0.bel hX4
        have hB1 := hB1.bel hX4
        have hB2 := hB2.bel hX4
        have hb := bel_next hb hX4
        clear hX4
        have HN : Hid (World.ownsRow X4 (w.heap.size + 3) 73 2 (.slice A9 n9 c9) n9 (fl btc (dfl (l.map kp) (m.map kp) (k + 1)))) := by
          show World.ownsRow _ _ _ _ _ _ _
          rw [dfl_same hfe]
          exact HO.out
        go_upto_region 16 with (fail)
        refine jp ?_
        refine jm (.bool false) ?_
        refine jm (.bool false) ?_
        refine jz fun X5 hX5 => ?_
        have HN : Hid (World.ownsRow _ _ _ _ _ _ _) := own_since HN.out hX5
        have hB0 := hB0.bel hX5
        have hB1 := hB1.bel hX5
        have hB2 := hB2.bel hX5
        have hb := bel_next hb hX5
        clear hX5
        go_upto_region 10 with (fail)
        refine jp ?_
        refine jm (.int .i64 (-1000 + (k : Int))) ?_
        refine jv (.int .i64 (-1000 + ((k + 1 : Nat) : Int))) (exec_add _ _ _ _ (by rfl) (-1000 + (k : Int)) 1 (-1000 + ((k + 1 : Nat) : Int)) (by rfl) (by rfl) (by omega) (by omega) (by omega)) ?_
        refine jm (.int .i64 (-1000 + ((k + 1 : Nat) : Int))) ?_
        refine jz fun X6 hX6 => ?_
        have HN : Hid (World.ownsRow _ _ _ _ _ _ _) := own_since HN.out hX6
        have hB0 := hB0.bel hX6
        have hB1 := hB1.bel hX6
        have hB2 := hB2.bel hX6
        have hb := bel_next hb hX6
        clear hX6
        go_wp2
        go_roundw
        case rel => exact ⟨k + 1, A9, n9, c9, false, by omega, rfl, rfl, rfl, HIN, HN, hB0, hB1, hB2, hb⟩
        case measure => simp [intOf]; omega
      · rcases ib with _ | _
        · have HIN : Hid (true = true ↔ 0 < k + 1 ∧ flowAt (l.map kp) (-1000 + ((k + 1 : Nat) : Int) - 1) ≠ flowAt (m.map kp) (-1000 + ((k + 1 : Nat) : Int) - 1)) := by
            show _ ↔ _
            rw [HSP.out]
            exact ⟨fun _ => ⟨by omega, hfe⟩, fun _ => rfl⟩
          have hpp : k = 0 ∨ flowAt (l.map kp) (-1000 + (k : Int) - 1) = flowAt (m.map kp) (-1000 + (k : Int) - 1) := by
            rcases Nat.eq_zero_or_pos k with h9 | h9
            · exact .inl h9
            · refine .inr (Decidable.byContradiction fun h8 => ?_)
              have h7 := HIB.out.2 ⟨h9, h8⟩
              cases h7
          have HNW := Lib.hid (dfl_new hfe hpp)
          clear hpp
          go_upto_region 11 with (fail)
          refine jd ?_
          refine ja hB0 Tryz.underlying48 (by rfl) info_cv ?_
          refine jm (.int .i64 (-1000 + (k : Int))) ?_
          refine jc (.agg #[.bool (rN (flowAt (l.map kp) (-1000 + (k : Int)))), st (rP (flowAt (l.map kp) (-1000 + (k : Int)))), st (rD (flowAt (l.map kp) (-1000 + (k : Int))))]) (fun X hX hF => ratC b off n c l (-1000 + (k : Int)) X (HRX.out X (hb.trans (Below.mono hX hb.size))) hln hok hf) ?_
          refine ja hB1 Tryz.underlying48 (by rfl) info_cv ?_
          refine jm (.int .i64 (-1000 + (k : Int))) ?_
          refine jc (.agg #[.bool (rN (flowAt (m.map kp) (-1000 + (k : Int)))), st (rP (flowAt (m.map kp) (-1000 + (k : Int)))), st (rD (flowAt (m.map kp) (-1000 + (k : Int))))]) (fun X hX hF => ratC b2 off2 n' c' m (-1000 + (k : Int)) X (HRY.out X (hb.trans (Below.mono hX hb.size))) hlm hok2 hf') ?_
          refine jv (.bool true) (exec_ner _ _ (by rfl) (rN (flowAt (l.map kp) (-1000 + (k : Int)))) (rP (flowAt (l.map kp) (-1000 + (k : Int)))) (rD (flowAt (l.map kp) (-1000 + (k : Int)))) (rN (flowAt (m.map kp) (-1000 + (k : Int)))) (rP (flowAt (m.map kp) (-1000 + (k : Int)))) (rD (flowAt (m.map kp) (-1000 + (k : Int)))) (by rfl) (by rfl) true (rb_eqf hfe)) ?_
          refine jm (.bool true) ?_
          refine jz fun X2 hX2 => ?_
          have HO : Hid (World.ownsRow _ _ _ _ _ _ _) := own_since HO.out hX2
          have hB0 := hB0.bel hX2
          have hB1 := hB1.bel hX2
          have hB2 := hB2.bel hX2
          have hb := bel_next hb hX2
          clear hX2
          go_upto_region 12 with (fail)
          refine jp ?_
          refine jm (.bool true) ?_
          refine jm (.bool true) ?_
          refine jm (.bool false) ?_
          refine jm (.bool true) ?_
          refine jm (.bool true) ?_
          refine jz fun X3 hX3 => ?_
          have HO : Hid (World.ownsRow _ _ _ _ _ _ _) := own_since HO.out hX3
          have hB0 := hB0.bel hX3
          have hB1 := hB1.bel hX3
          have hB2 := hB2.bel hX3
          have hb := bel_next hb hX3
          clear hX3
          have hho := HO.out
          have hbl := hB2.lt
          go_upto_region 14 with (at_builtin; go_loud (refine append_agg [.int .i64 (-1000 + (k : Int)), .int .i64 0] 73 rfl (.tmp 36) (.tmp 39) 61 rfl (w.heap.size + 3) 73 _ 2 16 Tryz.underlying61 info_btz rfl (by decide) _ _ _ (by rfl) hho (by rfl) (by rfl) (by intro u hu; simp only [List.mem_cons, List.not_mem_nil, or_false] at hu; rcases hu with rfl | rfl <;> rfl) (by omega) (by unfold maxLen; omega) (by omega) ?_); intro v7 w7 hown7 hg7 hb7)
          have hB0 := hB0.below hb7 (by omega)
          have hB1 := hB1.below hb7 (by omega)
          have hB2 := hB2.below hb7 (by omega)
          have hb := hb.trans (hb7.mono (by omega))
          obtain ⟨A8, c8, rfl, _, _⟩ := (Rd.of_own hown7).form
          obtain ⟨o, ho9⟩ : ∃ o, o = dfl (l.map kp) (m.map kp) k := ⟨_, rfl⟩
          have hn9o : o.length = n9 := by rw [ho9]; exact hn9l
          rw [← ho9] at hown7
          have hown8 : World.ownsRow w7 (w.heap.size + 3) 73 2 (.slice A8 (n9 + 1) c8) (n9 + 1) (fl btc (o ++ [((-1000 + (k : Int)), 0)])) := by rw [fl_snoc]; exact hown7
          obtain ⟨g9, tl, rfl, hg9, hnc9, hcm9, hls9, hB9⟩ := own_to_blk hown8 (by omega)
          have HNW : Hid (dfl (l.map kp) (m.map kp) (k + 1) = o ++ [((-1000 + (k : Int)), (-1000 + (k : Int)))]) := by rw [ho9]; exact HNW.out
          clear hown7 hown8 hg7 hb7 hho HO ho9
          refine jp ?_
          refine jm (.bool true) ?_
          refine jz fun X4 hX4 => ?_
          have hB0 := hB0.bel hX4
          have hB1 := hB1.bel hX4
          have hB2 := hB2.bel hX4
          have hB9 := hB9.bel hX4
          have hb := bel_next hb hX4
          clear hX4
          go_upto_region 15 with (fail)
          refine jq 7 ?_
          refine jm (.slice (some ⟨g9, 0, none⟩) (n9 + 1) c8) ?_
          refine jm (.slice (some ⟨g9, 0, none⟩) (n9 + 1) c8) ?_
          refine jv (.int .i64 ((n9 + 1) : Int)) (exec_lenv Tryz.underlying61 _ (by rfl) (some ⟨g9, 0, none⟩) (n9 + 1) c8 (by rfl) _ rfl) ?_
          refine jv (.int .i64 ((n9 : Nat) : Int)) (exec_sub _ _ _ _ (by rfl) ((n9 + 1) : Int) 1 ((n9 : Nat) : Int) (by rfl) (by rfl) (by omega) (by omega) (by omega)) ?_
          refine jm (.int .i64 (-1000 + (k : Int))) ?_
          refine jv (.pointer (some ⟨g9, 0 + n9 * 2, none⟩)) (exec_ixv Tryz.underlying61 info_bt _ _ (by rfl) g9 (0) (n9 + 1) c8 n9 (by omega) (by rfl) (by rfl) (by omega)) ?_
          refine jn (.pointer (some ⟨g9, 0 + n9 * 2 + 1, none⟩)) ?_
          refine jz fun X5 hX5 => ?_
          have hB0 := hB0.bel hX5
          have hB1 := hB1.bel hX5
          have hB2 := hB2.bel hX5
          have hB9 := hB9.bel hX5
          have hb := bel_next hb hX5
          clear hX5
          refine op_store1 rfl g9 (0 + n9 * 2 + 1) 73 _ hB9 (.int .i64 (-1000 + (k : Int))) (by rw [List.length_append, fl_len (fun x _ => btc_len x), List.length_append]; show _ < (o.length + 1) * 2 + _; omega) (fun X u h1 h2 => exec_sti _ _ (by rfl) _ _ (by rfl) (by rfl) u X h1 h2) ?_
          intro w9 hR9 hO9 hB8
          rw [Nat.zero_add, ← hn9o, flb_grow] at hR9
          have hb := hB8 _ _ hb (by omega)
          have hB0 := hO9 _ _ _ (by omega) hB0
          have hB1 := hO9 _ _ _ (by omega) hB1
          have hB2 := hO9 _ _ _ (by omega) hB2
          have HN : Hid (World.ownsRow w9 (w.heap.size + 3) 73 2 (.slice (some ⟨g9, 0, none⟩) ((n9 + 1)) c8) ((n9 + 1)) (fl btc (dfl (l.map kp) (m.map kp) (k + 1)))) := by
            show World.ownsRow _ _ _ _ _ _ _
            rw [HNW.out]
            exact own_frm_blk (by rw [fl_len (fun x _ => btc_len x), List.length_append]; show (o.length + 1) * 2 = _; omega) hg9 hnc9 hcm9 (by rw [List.length_append, fl_len (fun x _ => btc_len x), List.length_append] at hls9 ⊢; exact hls9) hR9
          clear hR9 hO9 hB8
          go_upto_region 16 with (fail)
          refine jp ?_
          refine jm (.bool true) ?_
          refine jm (.bool true) ?_
          refine jz fun X6 hX6 => ?_
          have HN : Hid (World.ownsRow _ _ _ _ _ _ _) := own_since HN.out hX6
          have hB0 := hB0.bel hX6
          have hB1 := hB1.bel hX6
          have hB2 := hB2.bel hX6
          have hb := bel_next hb hX6
          clear hX6
          go_upto_region 10 with (fail)
          refine jp ?_
          refine jm (.int .i64 (-1000 + (k : Int))) ?_
          refine jv (.int .i64 (-1000 + ((k + 1 : Nat) : Int))) (exec_add _ _ _ _ (by rfl) (-1000 + (k : Int)) 1 (-1000 + ((k + 1 : Nat) : Int)) (by rfl) (by rfl) (by omega) (by omega) (by omega)) ?_
          refine jm (.int .i64 (-1000 + ((k + 1 : Nat) : Int))) ?_
          refine jz fun X7 hX7 => ?_
          have HN : Hid (World.ownsRow _ _ _ _ _ _ _) := own_since HN.out hX7
          have hB0 := hB0.bel hX7
          have hB1 := hB1.bel hX7
          have hB2 := hB2.bel hX7
          have hb := bel_next hb hX7
          clear hX7
          go_wp2
          go_roundw
          case rel => exact ⟨k + 1, (some ⟨g9, 0, none⟩), (n9 + 1), c8, true, by omega, rfl, rfl, rfl, HIN, HN, hB0, hB1, hB2, hb⟩
          case measure => simp [intOf]; omega
        · have HIN : Hid (true = true ↔ 0 < k + 1 ∧ flowAt (l.map kp) (-1000 + ((k + 1 : Nat) : Int) - 1) ≠ flowAt (m.map kp) (-1000 + ((k + 1 : Nat) : Int) - 1)) := by
            show _ ↔ _
            rw [HSP.out]
            exact ⟨fun _ => ⟨by omega, hfe⟩, fun _ => rfl⟩
          go_upto_region 11 with (fail)
          refine jd ?_
          refine ja hB0 Tryz.underlying48 (by rfl) info_cv ?_
          refine jm (.int .i64 (-1000 + (k : Int))) ?_
          refine jc (.agg #[.bool (rN (flowAt (l.map kp) (-1000 + (k : Int)))), st (rP (flowAt (l.map kp) (-1000 + (k : Int)))), st (rD (flowAt (l.map kp) (-1000 + (k : Int))))]) (fun X hX hF => ratC b off n c l (-1000 + (k : Int)) X (HRX.out X (hb.trans (Below.mono hX hb.size))) hln hok hf) ?_
          refine ja hB1 Tryz.underlying48 (by rfl) info_cv ?_
          refine jm (.int .i64 (-1000 + (k : Int))) ?_
          refine jc (.agg #[.bool (rN (flowAt (m.map kp) (-1000 + (k : Int)))), st (rP (flowAt (m.map kp) (-1000 + (k : Int)))), st (rD (flowAt (m.map kp) (-1000 + (k : Int))))]) (fun X hX hF => ratC b2 off2 n' c' m (-1000 + (k : Int)) X (HRY.out X (hb.trans (Below.mono hX hb.size))) hlm hok2 hf') ?_
          refine jv (.bool true) (exec_ner _ _ (by rfl) (rN (flowAt (l.map kp) (-1000 + (k : Int)))) (rP (flowAt (l.map kp) (-1000 + (k : Int)))) (rD (flowAt (l.map kp) (-1000 + (k : Int)))) (rN (flowAt (m.map kp) (-1000 + (k : Int)))) (rP (flowAt (m.map kp) (-1000 + (k : Int)))) (rD (flowAt (m.map kp) (-1000 + (k : Int)))) (by rfl) (by rfl) true (rb_eqf hfe)) ?_
          refine jm (.bool true) ?_
          refine jz fun X2 hX2 => ?_
          have HO : Hid (World.ownsRow _ _ _ _ _ _ _) := own_since HO.out hX2
          have hB0 := hB0.bel hX2
          have hB1 := hB1.bel hX2
          have hB2 := hB2.bel hX2
          have hb := bel_next hb hX2
          clear hX2
          go_upto_region 12 with (fail)
          refine jp ?_
          refine jm (.bool true) ?_
          refine jm (.bool true) ?_
          refine jm (.bool true) ?_
          refine jm (.bool false) ?_
          refine jm (.bool false) ?_
          refine jz fun X3 hX3 => ?_
          have HO : Hid (World.ownsRow _ _ _ _ _ _ _) := own_since HO.out hX3
          have hB0 := hB0.bel hX3
          have hB1 := hB1.bel hX3
          have hB2 := hB2.bel hX3
          have hb := bel_next hb hX3
          clear hX3
          obtain ⟨o, x, hox, hnew⟩ := dfl_grow hfe (HIB.out.1 rfl).1 (HIB.out.1 rfl).2
          have HNW := Lib.hid hnew
          have hol : o.length = n9 - 1 ∧ 0 < n9 := by
            rw [hox, List.length_append] at hn9l
            simp at hn9l
            omega
          have hho := HO.out
          rw [hox] at hho
          obtain ⟨g9, tl, rfl, hg9, hnc9, hcm9, hls9, hB9⟩ := own_to_blk hho hol.2
          clear hho hnew hox
          go_upto_region 14 with (fail)
          refine jp ?_
          refine jm (.bool true) ?_
          refine jz fun X4 hX4 => ?_
          have HO : Hid (World.ownsRow _ _ _ _ _ _ _) := own_since HO.out hX4
          have hB0 := hB0.bel hX4
          have hB1 := hB1.bel hX4
          have hB2 := hB2.bel hX4
          have hB9 := hB9.bel hX4
          have hb := bel_next hb hX4
          clear hX4
          go_upto_region 15 with (fail)
          refine jq 7 ?_
          refine jm (.slice (some ⟨g9, 0, none⟩) n9 c9) ?_
          refine jm (.slice (some ⟨g9, 0, none⟩) n9 c9) ?_
          refine jv (.int .i64 (n9 : Int)) (exec_lenv Tryz.underlying61 _ (by rfl) (some ⟨g9, 0, none⟩) n9 c9 (by rfl) _ rfl) ?_
          refine jv (.int .i64 (((n9 - 1) : Nat) : Int)) (exec_sub _ _ _ _ (by rfl) (n9 : Int) 1 (((n9 - 1) : Nat) : Int) (by rfl) (by rfl) (by omega) (by omega) (by omega)) ?_
          refine jm (.int .i64 (-1000 + (k : Int))) ?_
          refine jv (.pointer (some ⟨g9, 0 + (n9 - 1) * 2, none⟩)) (exec_ixv Tryz.underlying61 info_bt _ _ (by rfl) g9 (0) n9 c9 (n9 - 1) (by omega) (by rfl) (by rfl) (by omega)) ?_
          refine jn (.pointer (some ⟨g9, 0 + (n9 - 1) * 2 + 1, none⟩)) ?_
          refine jz fun X5 hX5 => ?_
          have HO : Hid (World.ownsRow _ _ _ _ _ _ _) := own_since HO.out hX5
          have hB0 := hB0.bel hX5
          have hB1 := hB1.bel hX5
          have hB2 := hB2.bel hX5
          have hB9 := hB9.bel hX5
          have hb := bel_next hb hX5
          clear hX5
          refine op_store1 rfl g9 (0 + (n9 - 1) * 2 + 1) 73 _ hB9 (.int .i64 (-1000 + (k : Int))) (by rw [List.length_append, fl_len (fun x _ => btc_len x), List.length_append]; show _ < (o.length + 1) * 2 + _; omega) (fun X u h1 h2 => exec_sti _ _ (by rfl) _ _ (by rfl) (by rfl) u X h1 h2) ?_
          intro w9 hR9 hO9 hB8
          rw [Nat.zero_add, ← hol.1, flb_grow] at hR9
          have hb := hB8 _ _ hb (by omega)
          have hB0 := hO9 _ _ _ (by omega) hB0
          have hB1 := hO9 _ _ _ (by omega) hB1
          have hB2 := hO9 _ _ _ (by omega) hB2
          have HN : Hid (World.ownsRow w9 (w.heap.size + 3) 73 2 (.slice (some ⟨g9, 0, none⟩) (n9) c9) (n9) (fl btc (dfl (l.map kp) (m.map kp) (k + 1)))) := by
            show World.ownsRow _ _ _ _ _ _ _
            rw [HNW.out]
            exact own_frm_blk (by rw [fl_len (fun x _ => btc_len x), List.length_append]; show (o.length + 1) * 2 = _; omega) hg9 hnc9 hcm9 (by rw [List.length_append, fl_len (fun x _ => btc_len x), List.length_append] at hls9 ⊢; exact hls9) hR9
          clear hR9 hO9 hB8
          go_upto_region 16 with (fail)
          refine jp ?_
          refine jm (.bool true) ?_
          refine jm (.bool true) ?_
          refine jz fun X6 hX6 => ?_
          have HN : Hid (World.ownsRow _ _ _ _ _ _ _) := own_since HN.out hX6
          have hB0 := hB0.bel hX6
          have hB1 := hB1.bel hX6
          have hB2 := hB2.bel hX6
          have hb := bel_next hb hX6
          clear hX6
          go_upto_region 10 with (fail)
          refine jp ?_
          refine jm (.int .i64 (-1000 + (k : Int))) ?_
          refine jv (.int .i64 (-1000 + ((k + 1 : Nat) : Int))) (exec_add _ _ _ _ (by rfl) (-1000 + (k : Int)) 1 (-1000 + ((k + 1 : Nat) : Int)) (by rfl) (by rfl) (by omega) (by omega) (by omega)) ?_
          refine jm (.int .i64 (-1000 + ((k + 1 : Nat) : Int))) ?_
          refine jz fun X7 hX7 => ?_
          have HN : Hid (World.ownsRow _ _ _ _ _ _ _) := own_since HN.out hX7
          have hB0 := hB0.bel hX7
          have hB1 := hB1.bel hX7
          have hB2 := hB2.bel hX7
          have hb := bel_next hb hX7
          clear hX7
          go_wp2
          go_roundw
          case rel => exact ⟨k + 1, (some ⟨g9, 0, none⟩), n9, c9, true, by omega, rfl, rfl, rfl, HIN, HN, hB0, hB1, hB2, hb⟩
          case measure => simp [intOf]; omega
    · obtain rfl : k = 3001 := by omega
      rw [show -1000 + ((3001 : Nat) : Int) = 2001 from rfl]
      go_upto_region 9 with (fail)
      refine jp ?_
      refine jm (.int .i64 (2001 : Int)) ?_
      refine jv (.bool false) (exec_leq _ _ _ _ (by rfl) .i64 (2001 : Int) 2000 (by rfl) (by rfl) false (by rfl)) ?_
      refine jz fun X1 hX1 => ?_
      have HO : Hid (World.ownsRow _ _ _ _ _ _ _) := own_since HO.out hX1
      have hB0 := hB0.bel hX1
      have hB1 := hB1.bel hX1
      have hB2 := hB2.bel hX1
      have hb := bel_next hb hX1
      clear hX1
      go_upto_region 17 with (fail)
      refine jq 2 ?_
      refine jm (.slice A9 n9 c9) ?_
      refine jn (.agg #[.slice A9 n9 c9, .int .i64 0]) ?_
      refine jz fun X2 hX2 => ?_
      have HO : Hid (World.ownsRow _ _ _ _ _ _ _) := own_since HO.out hX2
      have hB0 := hB0.bel hX2
      have hB1 := hB1.bel hX2
      have hB2 := hB2.bel hX2
      have hb := bel_next hb hX2
      clear hX2
      refine osb 69 4 51 (w.heap.size + 2) 69 hB2 [.slice A9 n9 c9, .int .i64 0] info_mp13 ?_
      intro w9 hR9 hO9 hB9 hs9
      have hb9 := hB9 _ _ hb (by omega)
      have hOW9 := own_blk (Y := w9) HO.out (fun g t zs hg hz => hO9 _ _ _ (by have := own_base HO.out _ hg; omega) hz)
      clear hO9 hB9
      go_wp2
      refine post_cell rfl rfl (by rfl) Tryz.underlying69 rfl hR9 info_mp13 ⟨A9, n9, c9, by rw [HFL.out.1], by rw [HFL.out.2]; exact Rd.of_own hOW9, by rw [HFL.out.2]; exact hn9l, hb9⟩
theorem rdifferC (A : Option Addr) (n c : Nat) (l : List Pt) (A' : Option Addr) (n' c' : Nat) (m : List Pt) (w : World) (hr : Rd w 4 (.slice A n c) n (fl ptc l)) (hr' : Rd w 4 (.slice A' n' c') n' (fl ptc m)) (hln : l.length = n) (hlm : m.length = n') (hn1 : n ≤ 9223372036854775807) (hn2 : n' ≤ 9223372036854775807) (hf : fewP l 1000) (hf' : fewP m 1000) : Calls Tryz.prog 47 #[.agg #[.slice A n c], .agg #[.slice A' n' c']] w fun e w' => ∃ A9 m9 c9, e = .returned (.agg #[.slice A9 m9 c9, .int .i64 (dfE l m)]) ∧ Rd w' 2 (.slice A9 m9 c9) m9 (fl btc (dfL l m)) ∧ (dfL l m).length = m9 ∧ Since w w' := by
  by_cases hc : ck l = 0
  · by_cases hc2 : ck m = 0
    · obtain ⟨b, off, rfl⟩ := some_addr hr hln hc
      obtain ⟨b2, off2, rfl⟩ := some_addr hr' hlm hc2
      exact rdifferCo b off n c l b2 off2 n' c' m w hr hr' hln hlm hn1 hn2 hf hf' hc hc2
    · exact rdifferC2 A n c l A' n' c' m w hr hr' hln hlm hn1 hn2 hf hf' hc hc2
  · exact rdifferC1 A n c l A' n' c' m w hr hr' hln hlm hn1 hn2 hf hf' hc
end Go.Proofs.YtchhlgcakjjncaaGreatDoor
