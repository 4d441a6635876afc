/-
  Parse.
-/
import Derived.Test.YtglnabciomlmmaaDoorNtx
namespace Go.Proofs.YtglnabciomlmmaaDoor
open Go.RowKit

/-- What Parse hands back. -/
def parV (s : List UInt8) : Value := if pok s = true then .tuple #[.string ⟨(be (dval s)).toArray⟩, .int .i64 0] else .tuple #[.string ⟨#[]⟩, .int .i64 27]
theorem parV_t {s : List UInt8} (h : pok s = true) : parV s = .tuple #[.string ⟨(be (dval s)).toArray⟩, .int .i64 0] := by unfold parV; rw [if_pos h]
theorem parV_f {s : List UInt8} (h : pok s = false) : parV s = .tuple #[.string ⟨#[]⟩, .int .i64 27] := by unfold parV; rw [if_neg (by rw [h]; exact Bool.false_ne_true)]
theorem pok_bad {s : List UInt8} {k : Nat} (hk : k < s.length) (h : ¬ (48 ≤ (s.getD k 0).toNat ∧ (s.getD k 0).toNat ≤ 57)) : pok s = false := by
  have h1 : isd s = false := by
    rcases hq : isd s with _ | _
    · rfl
    · exfalso
      have := isd_take (k + 1) hq
      rw [isd_take_succ s hk, decide_eq_false h, Bool.and_false] at this
      cases this
  unfold pok
  rw [h1, Bool.and_false]
theorem one_of {s : List UInt8} (h : s.length = 1) (hc : (s.getD 0 0).toNat = 48) : s = [48] := by
  match s, h with
  | [c], _ =>
    have : c = 48 := UInt8.toNat_inj.1 hc
    rw [this]
set_option maxRecDepth 100000 in
set_option maxHeartbeats 1600000 in
theorem nparN (w : World) : Calls Tryd.prog 28 #[.string ⟨([] : List UInt8).toArray⟩] w fun e w' => e = .returned (parV []) ∧ Below w.heap.size w w' := by
  go_enter Tryd.func28, Tryd.ntmps28
  go_upto_region 1 with (fail)
  refine lx_plain [] (lasts_nil) ?_
  simp only [its, Nat.zero_add, Nat.reduceAdd]
  refine lx_val (by rfl) (.string ⟨([] : List UInt8).toArray⟩) (fun X hX hF => by rfl) ?_
  simp only [Act.put, List.setIfInBounds_toArray, List.set_cons_succ, List.set_cons_zero]
  refine lx_val (by rfl) (.bool true) (fun X hX hF => exec_eqsB _ _ _ _ (by rfl) ([] : List UInt8) ([] : List UInt8) (by rfl) (by rfl) true rfl X) ?_
  simp only [Act.put, List.setIfInBounds_toArray, List.set_cons_succ, List.set_cons_zero]
  refine lx_val (by rfl) (.bool true) (fun X hX hF => by rfl) ?_
  simp only [Act.put, List.setIfInBounds_toArray, List.set_cons_succ, List.set_cons_zero]
  refine lx_skip (by rfl) ?_
  simp only [Act.put, List.setIfInBounds_toArray, List.set_cons_succ, List.set_cons_zero]
  refine lx_skip (by rfl) ?_
  simp only [Act.put, List.setIfInBounds_toArray, List.set_cons_succ, List.set_cons_zero]
  refine lx_skip (by rfl) ?_
  simp only [Act.put, List.setIfInBounds_toArray, List.set_cons_succ, List.set_cons_zero]
  refine lx_skip (by rfl) ?_
  simp only [Act.put, List.setIfInBounds_toArray, List.set_cons_succ, List.set_cons_zero]
  refine lx_skip (by rfl) ?_
  simp only [Act.put, List.setIfInBounds_toArray, List.set_cons_succ, List.set_cons_zero]
  refine lx_skip (by rfl) ?_
  simp only [Act.put, List.setIfInBounds_toArray, List.set_cons_succ, List.set_cons_zero]
  refine lx_skip (by rfl) ?_
  simp only [Act.put, List.setIfInBounds_toArray, List.set_cons_succ, List.set_cons_zero]
  refine lx_val (by rfl) (.bool true) (fun X hX hF => by rfl) ?_
  simp only [Act.put, List.setIfInBounds_toArray, List.set_cons_succ, List.set_cons_zero]
  refine lx_nil ?_
  intro X1 hX1 hF
  have hb : Below w.heap.size w X1 := hX1
  clear hF hX1
  go_wp2
  go_ret2
  exact ⟨rfl, hb⟩

set_option maxRecDepth 100000 in
set_option maxHeartbeats 1600000 in
theorem nparL (s : List UInt8) (w : World) (hs : s.length ≤ 4194304) (h0 : 0 < s.length) (hc0 : (s.getD 0 0).toNat = 48) (hn1 : s ≠ [48]) : Calls Tryd.prog 28 #[.string ⟨s.toArray⟩] w fun e w' => e = .returned (parV s) ∧ Below w.heap.size w w' := by
  have HNE : Hid (s ≠ []) := fun h => by rw [h] at h0; exact absurd h0 (by decide)
  have HN1 := Lib.hid hn1
  have HBAD : Hid (parV s = .tuple #[.string ⟨#[]⟩, .int .i64 27]) := parV_f (by
    unfold pok
    rw [hc0, nes_t hn1]
    simp)
  have hc1 : (s.getD 0 0).toNat ≤ 48 ∧ 48 ≤ (s.getD 0 0).toNat := by omega
  clear hc0 hn1
  go_enter Tryd.func28, Tryd.ntmps28
  go_upto_region 1 with (fail)
  refine lx_plain [] (lasts_nil) ?_
  simp only [its, Nat.zero_add, Nat.reduceAdd]
  refine lx_val (by rfl) (.string ⟨s.toArray⟩) (fun X hX hF => by rfl) ?_
  simp only [Act.put, List.setIfInBounds_toArray, List.set_cons_succ, List.set_cons_zero]
  refine lx_val (by rfl) (.bool false) (fun X hX hF => exec_eqsB _ _ _ _ (by rfl) s ([] : List UInt8) (by rfl) (by rfl) false (eqs_f HNE.out) X) ?_
  simp only [Act.put, List.setIfInBounds_toArray, List.set_cons_succ, List.set_cons_zero]
  refine lx_val (by rfl) (.bool false) (fun X hX hF => by rfl) ?_
  simp only [Act.put, List.setIfInBounds_toArray, List.set_cons_succ, List.set_cons_zero]
  refine lx_val (by rfl) (.string ⟨s.toArray⟩) (fun X hX hF => by rfl) ?_
  simp only [Act.put, List.setIfInBounds_toArray, List.set_cons_succ, List.set_cons_zero]
  refine lx_val (by rfl) (.int .u8 ((s.getD 0 0).toNat : Int)) (fun X hX hF => exec_chr _ Tryd.underlying9 _ _ (by rfl) s 0 (by rfl) (by rfl) (by omega) (by omega) X) ?_
  simp only [Act.put, List.setIfInBounds_toArray, List.set_cons_succ, List.set_cons_zero]
  refine lx_val (by rfl) (.bool true) (fun X hX hF => exec_eqi _ _ _ _ (by rfl) .u8 ((s.getD 0 0).toNat : Int) 48 (by rfl) (by rfl) true (decide_eq_true (by omega)) X) ?_
  simp only [Act.put, List.setIfInBounds_toArray, List.set_cons_succ, List.set_cons_zero]
  refine lx_val (by rfl) (.bool true) (fun X hX hF => by rfl) ?_
  simp only [Act.put, List.setIfInBounds_toArray, List.set_cons_succ, List.set_cons_zero]
  refine lx_val (by rfl) (.string ⟨s.toArray⟩) (fun X hX hF => by rfl) ?_
  simp only [Act.put, List.setIfInBounds_toArray, List.set_cons_succ, List.set_cons_zero]
  refine lx_val (by rfl) (.bool true) (fun X hX hF => exec_nesB _ _ _ _ (by rfl) s ([48] : List UInt8) (by rfl) (by rfl) true (nes_t HN1.out) X) ?_
  simp only [Act.put, List.setIfInBounds_toArray, List.set_cons_succ, List.set_cons_zero]
  refine lx_val (by rfl) (.bool true) (fun X hX hF => by rfl) ?_
  simp only [Act.put, List.setIfInBounds_toArray, List.set_cons_succ, List.set_cons_zero]
  refine lx_val (by rfl) (.bool true) (fun X hX hF => by rfl) ?_
  simp only [Act.put, List.setIfInBounds_toArray, List.set_cons_succ, List.set_cons_zero]
  refine lx_nil ?_
  intro X1 hX1 hF
  have hb : Below w.heap.size w X1 := hX1
  clear hF hX1
  go_wp2
  go_ret2
  exact ⟨by rw [HBAD.out]; rfl, hb⟩

set_option maxRecDepth 100000 in
set_option maxHeartbeats 1600000 in
theorem nparZ (s : List UInt8) (w : World) (hs : s.length ≤ 4194304) (h0 : 0 < s.length) (hc0 : (s.getD 0 0).toNat = 48) (hn1 : s = [48]) : Calls Tryd.prog 28 #[.string ⟨s.toArray⟩] w fun e w' => e = .returned (parV s) ∧ Below w.heap.size w w' := by
  have HNE : Hid (s ≠ []) := fun h => by rw [h] at h0; exact absurd h0 (by decide)
  have HN1 := Lib.hid hn1
  have HPO : Hid (isd s = true → pok s = true) := fun h => by
    unfold pok
    rw [h]
    have h1 : s.isEmpty = false := by
      cases s with
      | nil => exact absurd rfl HNE.out
      | cons c r => rfl
    rw [h1]
    rw [nes_f hn1]
    simp
  have hc1 : (s.getD 0 0).toNat ≤ 48 ∧ 48 ≤ (s.getD 0 0).toNat := by omega
  clear hc0 hn1
  go_enter Tryd.func28, Tryd.ntmps28
  go_upto_region 1 with (fail)
  refine lx_plain [] (lasts_nil) ?_
  simp only [its, Nat.zero_add, Nat.reduceAdd]
  refine lx_val (by rfl) (.string ⟨s.toArray⟩) (fun X hX hF => by rfl) ?_
  simp only [Act.put, List.setIfInBounds_toArray, List.set_cons_succ, List.set_cons_zero]
  refine lx_val (by rfl) (.bool false) (fun X hX hF => exec_eqsB _ _ _ _ (by rfl) s ([] : List UInt8) (by rfl) (by rfl) false (eqs_f HNE.out) X) ?_
  simp only [Act.put, List.setIfInBounds_toArray, List.set_cons_succ, List.set_cons_zero]
  refine lx_val (by rfl) (.bool false) (fun X hX hF => by rfl) ?_
  simp only [Act.put, List.setIfInBounds_toArray, List.set_cons_succ, List.set_cons_zero]
  refine lx_val (by rfl) (.string ⟨s.toArray⟩) (fun X hX hF => by rfl) ?_
  simp only [Act.put, List.setIfInBounds_toArray, List.set_cons_succ, List.set_cons_zero]
  refine lx_val (by rfl) (.int .u8 ((s.getD 0 0).toNat : Int)) (fun X hX hF => exec_chr _ Tryd.underlying9 _ _ (by rfl) s 0 (by rfl) (by rfl) (by omega) (by omega) X) ?_
  simp only [Act.put, List.setIfInBounds_toArray, List.set_cons_succ, List.set_cons_zero]
  refine lx_val (by rfl) (.bool true) (fun X hX hF => exec_eqi _ _ _ _ (by rfl) .u8 ((s.getD 0 0).toNat : Int) 48 (by rfl) (by rfl) true (decide_eq_true (by omega)) X) ?_
  simp only [Act.put, List.setIfInBounds_toArray, List.set_cons_succ, List.set_cons_zero]
  refine lx_val (by rfl) (.bool true) (fun X hX hF => by rfl) ?_
  simp only [Act.put, List.setIfInBounds_toArray, List.set_cons_succ, List.set_cons_zero]
  refine lx_val (by rfl) (.string ⟨s.toArray⟩) (fun X hX hF => by rfl) ?_
  simp only [Act.put, List.setIfInBounds_toArray, List.set_cons_succ, List.set_cons_zero]
  refine lx_val (by rfl) (.bool false) (fun X hX hF => exec_nesB _ _ _ _ (by rfl) s ([48] : List UInt8) (by rfl) (by rfl) false (nes_f HN1.out) X) ?_
  simp only [Act.put, List.setIfInBounds_toArray, List.set_cons_succ, List.set_cons_zero]
  refine lx_val (by rfl) (.bool false) (fun X hX hF => by rfl) ?_
  simp only [Act.put, List.setIfInBounds_toArray, List.set_cons_succ, List.set_cons_zero]
  refine lx_val (by rfl) (.bool false) (fun X hX hF => by rfl) ?_
  simp only [Act.put, List.setIfInBounds_toArray, List.set_cons_succ, List.set_cons_zero]
  refine lx_nil ?_
  intro X1 hX1 hF
  have hb : Below w.heap.size w X1 := hX1
  clear hF hX1
  go_upto_region 4 with (fail)
  refine lx_plain [none, some (Bts s)] (lasts_none (lasts_some (Bts.lasts _) (lasts_nil))) ?_
  simp only [its, Nat.zero_add, Nat.reduceAdd]
  refine lx_val (by rfl) (.string ⟨s.toArray⟩) (fun X hX hF => by rfl) ?_
  simp only [Act.put, List.setIfInBounds_toArray, List.set_cons_succ, List.set_cons_zero]
  refine lx_bytes (by rfl) 9 61 5 _ (by rfl) s (by rfl) Tryd.underlying9 Tryd.underlying61 Tryd.underlying5 (by omega) ?_
  intro v19
  simp only [Act.put, List.setIfInBounds_toArray, List.set_cons_succ, List.set_cons_zero]
  refine lx_val (by rfl) (.int .i64 (s.length : Int)) (fun X hX hF => by obtain ⟨A9, c9, h9, _⟩ := (hF _ _ List.mem_cons_self rfl); subst h9; exact exec_lenv Tryd.underlying61 _ (by rfl) A9 _ c9 (by rfl) _ rfl X) ?_
  simp only [Act.put, List.setIfInBounds_toArray, List.set_cons_succ, List.set_cons_zero]
  refine lx_val (by rfl) (.int .i64 0) (fun X hX hF => by rfl) ?_
  simp only [Act.put, List.setIfInBounds_toArray, List.set_cons_succ, List.set_cons_zero]
  refine lx_nil ?_
  intro X2 hX2 hF
  have hv19 := hF _ _ List.mem_cons_self
  have hb := bel_next hb hX2
  clear hF hX2
  obtain ⟨A2, c2, rfl, hR2⟩ := hv19
  have hRX : ∀ X, Since X2 X → Rd X 1 (.slice A2 s.length c2) s.length (s.map B8) := fun X h => hR2.below h
  have HRX := Lib.hid hRX
  have b2 : Below w.heap.size w X2 := hb
  clear hRX hR2 hb
  have hten : (ld 10).length ≤ 1 := ld_len (by decide)
  go_wp2
  go_loopw [4, 21] (fun xw kv wr => ∃ (k : Nat) (xv : Value), xv = xw ∧ k ≤ s.length ∧ kv = .int .i64 (k : Int) ∧ Lm (dval (s.take k)) xv wr ∧ isd (s.take k) = true ∧ Since X2 wr) (fun _ kv _ => s.length - (intOf kv).toNat)
  case atStart => exact ⟨0, _, rfl, by omega, rfl, Lm.zero _, rfl, Below.refl _ _⟩
  case round =>
    obtain ⟨k, xv, rfl, hk, rfl, hx, his, hs2⟩ := hrel
    have hlx := dval_ld his
    have hlk : (s.take k).length ≤ k := List.length_take_le _ _
    have HIS := Lib.hid his
    clear his
    by_cases hlt : k < s.length
    · obtain ⟨b, off, rfl, hbb, hc⟩ := (HRX.out _ hs2).byte hlt
      obtain ⟨y, hy⟩ : ∃ y, y = (s.getD k 0).toNat := ⟨_, rfl⟩
      have hy2 : y < 256 := hy ▸ u8_lt _
      rw [← hy] at hc
      have HY := Lib.hid hy
      clear hy
      have hb := hs2
      clear hs2
      go_upto_region 5 with (fail)
      refine lx_plain [] (lasts_nil) ?_
      simp only [its, Nat.zero_add, Nat.reduceAdd]
      refine lx_val (by rfl) (.bool true) (fun X hX hF => exec_lss _ _ _ _ (by rfl) .i64 (k : Int) (s.length : Int) (by rfl) (by rfl) true (decide_eq_true (by omega)) X) ?_
      simp only [Act.put, List.setIfInBounds_toArray, List.set_cons_succ, List.set_cons_zero]
      refine lx_nil ?_
      intro X1 hX1 hF
      have hx := (Dg.lasts _) _ _ _ hx hX1
      have hc := (Below.cell hX1 (p := ⟨b, off + k, none⟩) hbb).trans hc
      have hbb := Nat.lt_of_lt_of_le hbb (hX1).size
      have hb := bel_next hb hX1
      clear hF hX1
      go_upto_region 6 with (fail)
      refine lx_plain [] (lasts_nil) ?_
      simp only [its, Nat.zero_add, Nat.reduceAdd]
      refine lx_val (by rfl) (.pointer (some ⟨b, off + k, none⟩)) (fun X hX hF => exec_ix1 Tryd.underlying61 size_u8 _ _ (by rfl) b (off) s.length c2 k (by omega) (by rfl) (by rfl) (by omega) X) ?_
      simp only [Act.put, List.setIfInBounds_toArray, List.set_cons_succ, List.set_cons_zero]
      refine lx_val (by rfl) (.int .u8 (y : Int)) (fun X hX hF => exec_ld 5 _ (by rfl) b (off + k) (by rfl) _ X ((Below.cell hX (p := ⟨b, off + k, none⟩) hbb).trans hc) (fun X u h => load_u8 b (off + k) X u h)) ?_
      simp only [Act.put, List.setIfInBounds_toArray, List.set_cons_succ, List.set_cons_zero]
      refine lx_val (by rfl) (.int .u8 (y : Int)) (fun X hX hF => by rfl) ?_
      simp only [Act.put, List.setIfInBounds_toArray, List.set_cons_succ, List.set_cons_zero]
      refine lx_nil ?_
      intro X2 hX2 hF
      have hx := (Dg.lasts _) _ _ _ hx hX2
      have hc := (Below.cell hX2 (p := ⟨b, off + k, none⟩) hbb).trans hc
      have hbb := Nat.lt_of_lt_of_le hbb (hX2).size
      have hb := bel_next hb hX2
      clear hF hX2
      by_cases hd : 48 ≤ y ∧ y ≤ 57
      · obtain ⟨hd1, hd2⟩ := hd
        have HDV : Hid (dval (s.take (k + 1)) = dval (s.take k) * 10 + lw [UInt32.ofNat (y - 48)]) := by
          show _ = _
          rw [dval_take_succ s hlt, ← HY.out, lw_one, u32n, Nat.mod_eq_of_lt (by omega), Nat.mul_comm]
        have HIS2 : Hid (isd (s.take (k + 1)) = true) := by
          show _ = _
          rw [isd_take_succ s hlt, HIS.out, ← HY.out, decide_eq_true ⟨hd1, hd2⟩]
          rfl
        have hl10 := ld_mul (dval (s.take k)) 10
        have hlw1 : (ld (lw [UInt32.ofNat (y - 48)])).length ≤ 1 := ld_len (lw_lt _)
        go_upto_region 7 with (fail)
        refine lx_plain [] (lasts_nil) ?_
        simp only [its, Nat.zero_add, Nat.reduceAdd]
        refine lx_val (by rfl) (.int .u8 (y : Int)) (fun X hX hF => by rfl) ?_
        simp only [Act.put, List.setIfInBounds_toArray, List.set_cons_succ, List.set_cons_zero]
        refine lx_val (by rfl) (.bool false) (fun X hX hF => exec_lss _ _ _ _ (by rfl) .u8 (y : Int) 48 (by rfl) (by rfl) false (decide_eq_false (by omega)) X) ?_
        simp only [Act.put, List.setIfInBounds_toArray, List.set_cons_succ, List.set_cons_zero]
        refine lx_val (by rfl) (.bool false) (fun X hX hF => by rfl) ?_
        simp only [Act.put, List.setIfInBounds_toArray, List.set_cons_succ, List.set_cons_zero]
        refine lx_val (by rfl) (.int .u8 (y : Int)) (fun X hX hF => by rfl) ?_
        simp only [Act.put, List.setIfInBounds_toArray, List.set_cons_succ, List.set_cons_zero]
        refine lx_val (by rfl) (.bool false) (fun X hX hF => exec_gtr _ _ _ _ (by rfl) .u8 (y : Int) 57 (by rfl) (by rfl) false (decide_eq_false (by omega)) X) ?_
        simp only [Act.put, List.setIfInBounds_toArray, List.set_cons_succ, List.set_cons_zero]
        refine lx_val (by rfl) (.bool false) (fun X hX hF => by rfl) ?_
        simp only [Act.put, List.setIfInBounds_toArray, List.set_cons_succ, List.set_cons_zero]
        refine lx_nil ?_
        intro X3 hX3 hF
        have hx := (Dg.lasts _) _ _ _ hx hX3
        have hb := bel_next hb hX3
        clear hF hX3
        go_upto_region 9 with (fail)
        refine lx_plain [none, some (Lm 10), some (Lm ((dval (s.take k)) * 10)), none, none, none, some (Dg [UInt32.ofNat (y - 48)]), some (Lm (lw [UInt32.ofNat (y - 48)])), some (Lm (((dval (s.take k)) * 10) + (lw [UInt32.ofNat (y - 48)])))] (lasts_none (lasts_some (Dg.lasts _) (lasts_some (Dg.lasts _) (lasts_none (lasts_none (lasts_none (lasts_some (Dg.lasts _) (lasts_some (Dg.lasts _) (lasts_some (Dg.lasts _) (lasts_nil)))))))))) ?_
        simp only [its, Nat.zero_add, Nat.reduceAdd]
        refine lx_val (by rfl) (xv) (fun X hX hF => by rfl) ?_
        simp only [Act.put, List.setIfInBounds_toArray, List.set_cons_succ, List.set_cons_zero]
        refine lx_new (by rfl) (fun X hX hF => exec_one _ (by rfl) 10 (by omega) (by omega) (by rfl) rfl X) ?_
        intro v32
        simp only [Act.put, List.setIfInBounds_toArray, List.set_cons_succ, List.set_cons_zero]
        refine lx_make (by rfl) 43 _ _ (by rfl) [xv, v32] (by rfl) (fun _ => by go_simp) (fun X hX hF => timesC xv v32 _ _ X ((Dg.lasts _) _ _ _ hx hX) (hF _ _ List.mem_cons_self rfl) (by omega) (by omega)) ?_
        intro v33
        simp only [Act.put, List.setIfInBounds_toArray, List.set_cons_succ, List.set_cons_zero]
        refine lx_val (by rfl) (.int .u8 (y : Int)) (fun X hX hF => by rfl) ?_
        simp only [Act.put, List.setIfInBounds_toArray, List.set_cons_succ, List.set_cons_zero]
        refine lx_val (by rfl) (.int .u8 ((y - 48 : Nat) : Int)) (fun X hX hF => exec_subk _ _ _ _ (by rfl) .u8 (y : Int) 48 ((y - 48 : Nat) : Int) (by rfl) (by rfl) (by rw [w8 (by omega) (by omega)]; omega) X) ?_
        simp only [Act.put, List.setIfInBounds_toArray, List.set_cons_succ, List.set_cons_zero]
        refine lx_val (by rfl) (.int .u32 ((y - 48 : Nat) : Int)) (fun X hX hF => exec_cnv _ _ .u8 .u32 Tryd.underlying5 Tryd.underlying63 _ (by rfl) ((y - 48 : Nat) : Int) ((y - 48 : Nat) : Int) (by rfl) (by rw [w32 (by omega) (by omega)]) X) ?_
        simp only [Act.put, List.setIfInBounds_toArray, List.set_cons_succ, List.set_cons_zero]
        refine lx_new (by rfl) (fun X hX hF => ⟨_, _, exec_bs1 _ (by rfl) _ (by rfl) X, Dg.new1 X _ (UInt32.ofNat (y - 48)) (by rw [u32n]; omega), since_alloc X _⟩) ?_
        intro v37
        simp only [Act.put, List.setIfInBounds_toArray, List.set_cons_succ, List.set_cons_zero]
        refine lx_make (by rfl) 45 _ _ (by rfl) [v37] (by rfl) (fun _ => by go_simp) (fun X hX hF => trimD _ v37 X (hF _ _ List.mem_cons_self rfl) (by first | omega | (simp only [List.length_cons, List.length_nil]; omega))) ?_
        intro v38
        simp only [Act.put, List.setIfInBounds_toArray, List.set_cons_succ, List.set_cons_zero]
        refine lx_make (by rfl) 42 _ _ (by rfl) [v33, v38] (by rfl) (fun _ => by go_simp) (fun X hX hF => plusC v33 v38 _ _ X (hF _ _ (List.mem_cons_of_mem _ (List.mem_cons_of_mem _ List.mem_cons_self)) rfl) (hF _ _ List.mem_cons_self rfl) (by omega) (by omega)) ?_
        intro v39
        simp only [Act.put, List.setIfInBounds_toArray, List.set_cons_succ, List.set_cons_zero]
        refine lx_val (by rfl) (v39) (fun X hX hF => by rfl) ?_
        simp only [Act.put, List.setIfInBounds_toArray, List.set_cons_succ, List.set_cons_zero]
        refine lx_nil ?_
        intro X4 hX4 hF
        have hx := (Dg.lasts _) _ _ _ hx hX4
        have hv32 := hF _ _ (List.mem_cons_of_mem _ (List.mem_cons_of_mem _ (List.mem_cons_of_mem _ (List.mem_cons_of_mem _ List.mem_cons_self))))
        have hv33 := hF _ _ (List.mem_cons_of_mem _ (List.mem_cons_of_mem _ (List.mem_cons_of_mem _ List.mem_cons_self)))
        have hv37 := hF _ _ (List.mem_cons_of_mem _ (List.mem_cons_of_mem _ List.mem_cons_self))
        have hv38 := hF _ _ (List.mem_cons_of_mem _ List.mem_cons_self)
        have hv39 := hF _ _ List.mem_cons_self
        have hb := bel_next hb hX4
        clear hF hX4
        have hv39' := hv39
        rw [← HDV.out] at hv39'
        clear hc hx hv33 hv32 hv37 hv38 hv39 hlx
        go_wp2
        go_roundw
        case rel => exact ⟨k + 1, _, rfl, by omega, by go_num, hv39', HIS2.out, hb⟩
        case measure => simp [intOf]; omega
      · have HBAD : Hid (parV s = .tuple #[.string ⟨#[]⟩, .int .i64 27]) := parV_f (pok_bad hlt (by rw [← HY.out]; exact hd))
        rcases Nat.lt_or_ge y 48 with h48 | h48
        · clear hd
          go_upto_region 7 with (fail)
          refine lx_plain [] (lasts_nil) ?_
          simp only [its, Nat.zero_add, Nat.reduceAdd]
          refine lx_val (by rfl) (.int .u8 (y : Int)) (fun X hX hF => by rfl) ?_
          simp only [Act.put, List.setIfInBounds_toArray, List.set_cons_succ, List.set_cons_zero]
          refine lx_val (by rfl) (.bool true) (fun X hX hF => exec_lss _ _ _ _ (by rfl) .u8 (y : Int) 48 (by rfl) (by rfl) true (decide_eq_true (by omega)) X) ?_
          simp only [Act.put, List.setIfInBounds_toArray, List.set_cons_succ, List.set_cons_zero]
          refine lx_val (by rfl) (.bool true) (fun X hX hF => by rfl) ?_
          simp only [Act.put, List.setIfInBounds_toArray, List.set_cons_succ, List.set_cons_zero]
          refine lx_skip (by rfl) ?_
          simp only [Act.put, List.setIfInBounds_toArray, List.set_cons_succ, List.set_cons_zero]
          refine lx_skip (by rfl) ?_
          simp only [Act.put, List.setIfInBounds_toArray, List.set_cons_succ, List.set_cons_zero]
          refine lx_val (by rfl) (.bool true) (fun X hX hF => by rfl) ?_
          simp only [Act.put, List.setIfInBounds_toArray, List.set_cons_succ, List.set_cons_zero]
          refine lx_nil ?_
          intro X3 hX3 hF
          have hx := (Dg.lasts _) _ _ _ hx hX3
          have hb := bel_next hb hX3
          clear hF hX3
          go_wp2
          go_ret2
          exact ⟨by rw [HBAD.out]; rfl, b2.trans (hb.mono b2.size)⟩
        · have h57 : 57 < y := by omega
          clear hd
          go_upto_region 7 with (fail)
          refine lx_plain [] (lasts_nil) ?_
          simp only [its, Nat.zero_add, Nat.reduceAdd]
          refine lx_val (by rfl) (.int .u8 (y : Int)) (fun X hX hF => by rfl) ?_
          simp only [Act.put, List.setIfInBounds_toArray, List.set_cons_succ, List.set_cons_zero]
          refine lx_val (by rfl) (.bool false) (fun X hX hF => exec_lss _ _ _ _ (by rfl) .u8 (y : Int) 48 (by rfl) (by rfl) false (decide_eq_false (by omega)) X) ?_
          simp only [Act.put, List.setIfInBounds_toArray, List.set_cons_succ, List.set_cons_zero]
          refine lx_val (by rfl) (.bool false) (fun X hX hF => by rfl) ?_
          simp only [Act.put, List.setIfInBounds_toArray, List.set_cons_succ, List.set_cons_zero]
          refine lx_val (by rfl) (.int .u8 (y : Int)) (fun X hX hF => by rfl) ?_
          simp only [Act.put, List.setIfInBounds_toArray, List.set_cons_succ, List.set_cons_zero]
          refine lx_val (by rfl) (.bool true) (fun X hX hF => exec_gtr _ _ _ _ (by rfl) .u8 (y : Int) 57 (by rfl) (by rfl) true (decide_eq_true (by omega)) X) ?_
          simp only [Act.put, List.setIfInBounds_toArray, List.set_cons_succ, List.set_cons_zero]
          refine lx_val (by rfl) (.bool true) (fun X hX hF => by rfl) ?_
          simp only [Act.put, List.setIfInBounds_toArray, List.set_cons_succ, List.set_cons_zero]
          refine lx_nil ?_
          intro X3 hX3 hF
          have hx := (Dg.lasts _) _ _ _ hx hX3
          have hb := bel_next hb hX3
          clear hF hX3
          go_wp2
          go_ret2
          exact ⟨by rw [HBAD.out]; rfl, b2.trans (hb.mono b2.size)⟩
    · have HT : Hid (s.take k = s) := List.take_of_length_le (by omega)
      have HOK : Hid (parV s = .tuple #[.string ⟨(be (dval s)).toArray⟩, .int .i64 0]) := parV_t (HPO.out (by rw [← HT.out]; exact HIS.out))
      rw [HT.out] at hx hlx
      have hb := hs2
      clear hs2
      go_upto_region 5 with (fail)
      refine lx_plain [] (lasts_nil) ?_
      simp only [its, Nat.zero_add, Nat.reduceAdd]
      refine lx_val (by rfl) (.bool false) (fun X hX hF => exec_lss _ _ _ _ (by rfl) .i64 (k : Int) (s.length : Int) (by rfl) (by rfl) false (decide_eq_false (by omega)) X) ?_
      simp only [Act.put, List.setIfInBounds_toArray, List.set_cons_succ, List.set_cons_zero]
      refine lx_nil ?_
      intro X1 hX1 hF
      have hx := (Dg.lasts _) _ _ _ hx hX1
      have hb := bel_next hb hX1
      clear hF hX1
      go_upto_region 11 with (fail)
      refine lx_plain [] (lasts_nil) ?_
      simp only [its, Nat.zero_add, Nat.reduceAdd]
      refine lx_val (by rfl) (xv) (fun X hX hF => by rfl) ?_
      simp only [Act.put, List.setIfInBounds_toArray, List.set_cons_succ, List.set_cons_zero]
      refine lx_call (by rfl) 37 _ _ (by rfl) (.string ⟨(be (dval s)).toArray⟩) [xv] (by rfl) (by kernel_rfl) (fun _ => by go_simp) (fun X hX hF => textL xv _ X ((Dg.lasts _) _ _ _ hx hX) (by omega)) ?_
      simp only [Act.put, List.setIfInBounds_toArray, List.set_cons_succ, List.set_cons_zero]
      refine lx_val (by rfl) (.string ⟨(be (dval s)).toArray⟩) (fun X hX hF => by rfl) ?_
      simp only [Act.put, List.setIfInBounds_toArray, List.set_cons_succ, List.set_cons_zero]
      refine lx_val (by rfl) (.int .i64 0) (fun X hX hF => by rfl) ?_
      simp only [Act.put, List.setIfInBounds_toArray, List.set_cons_succ, List.set_cons_zero]
      refine lx_nil ?_
      intro X2 hX2 hF
      have hx := (Dg.lasts _) _ _ _ hx hX2
      have hb := bel_next hb hX2
      clear hF hX2
      go_wp2
      go_ret2
      exact ⟨by rw [HOK.out]; rfl, b2.trans (hb.mono b2.size)⟩

set_option maxRecDepth 100000 in
set_option maxHeartbeats 1600000 in
theorem nparO (s : List UInt8) (w : World) (hs : s.length ≤ 4194304) (h0 : 0 < s.length) (hc0 : ¬ (s.getD 0 0).toNat = 48) : Calls Tryd.prog 28 #[.string ⟨s.toArray⟩] w fun e w' => e = .returned (parV s) ∧ Below w.heap.size w w' := by
  have HNE : Hid (s ≠ []) := fun h => by rw [h] at h0; exact absurd h0 (by decide)
  have HPO : Hid (isd s = true → pok s = true) := fun h => by
    unfold pok
    rw [h]
    have h1 : s.isEmpty = false := by
      cases s with
      | nil => exact absurd rfl HNE.out
      | cons c r => rfl
    rw [h1]
    have h2 : ((s.getD 0 0).toNat == 48) = false := beq_eq_false_iff_ne.2 hc0
    rw [h2]
    rfl
  go_enter Tryd.func28, Tryd.ntmps28
  go_upto_region 1 with (fail)
  refine lx_plain [] (lasts_nil) ?_
  simp only [its, Nat.zero_add, Nat.reduceAdd]
  refine lx_val (by rfl) (.string ⟨s.toArray⟩) (fun X hX hF => by rfl) ?_
  simp only [Act.put, List.setIfInBounds_toArray, List.set_cons_succ, List.set_cons_zero]
  refine lx_val (by rfl) (.bool false) (fun X hX hF => exec_eqsB _ _ _ _ (by rfl) s ([] : List UInt8) (by rfl) (by rfl) false (eqs_f HNE.out) X) ?_
  simp only [Act.put, List.setIfInBounds_toArray, List.set_cons_succ, List.set_cons_zero]
  refine lx_val (by rfl) (.bool false) (fun X hX hF => by rfl) ?_
  simp only [Act.put, List.setIfInBounds_toArray, List.set_cons_succ, List.set_cons_zero]
  refine lx_val (by rfl) (.string ⟨s.toArray⟩) (fun X hX hF => by rfl) ?_
  simp only [Act.put, List.setIfInBounds_toArray, List.set_cons_succ, List.set_cons_zero]
  refine lx_val (by rfl) (.int .u8 ((s.getD 0 0).toNat : Int)) (fun X hX hF => exec_chr _ Tryd.underlying9 _ _ (by rfl) s 0 (by rfl) (by rfl) (by omega) (by omega) X) ?_
  simp only [Act.put, List.setIfInBounds_toArray, List.set_cons_succ, List.set_cons_zero]
  refine lx_val (by rfl) (.bool false) (fun X hX hF => exec_eqi _ _ _ _ (by rfl) .u8 ((s.getD 0 0).toNat : Int) 48 (by rfl) (by rfl) false (decide_eq_false (by omega)) X) ?_
  simp only [Act.put, List.setIfInBounds_toArray, List.set_cons_succ, List.set_cons_zero]
  refine lx_val (by rfl) (.bool false) (fun X hX hF => by rfl) ?_
  simp only [Act.put, List.setIfInBounds_toArray, List.set_cons_succ, List.set_cons_zero]
  refine lx_skip (by rfl) ?_
  simp only [Act.put, List.setIfInBounds_toArray, List.set_cons_succ, List.set_cons_zero]
  refine lx_skip (by rfl) ?_
  simp only [Act.put, List.setIfInBounds_toArray, List.set_cons_succ, List.set_cons_zero]
  refine lx_val (by rfl) (.bool false) (fun X hX hF => by rfl) ?_
  simp only [Act.put, List.setIfInBounds_toArray, List.set_cons_succ, List.set_cons_zero]
  refine lx_val (by rfl) (.bool false) (fun X hX hF => by rfl) ?_
  simp only [Act.put, List.setIfInBounds_toArray, List.set_cons_succ, List.set_cons_zero]
  refine lx_nil ?_
  intro X1 hX1 hF
  have hb : Below w.heap.size w X1 := hX1
  clear hF hX1
  go_upto_region 4 with (fail)
  refine lx_plain [none, some (Bts s)] (lasts_none (lasts_some (Bts.lasts _) (lasts_nil))) ?_
  simp only [its, Nat.zero_add, Nat.reduceAdd]
  refine lx_val (by rfl) (.string ⟨s.toArray⟩) (fun X hX hF => by rfl) ?_
  simp only [Act.put, List.setIfInBounds_toArray, List.set_cons_succ, List.set_cons_zero]
  refine lx_bytes (by rfl) 9 61 5 _ (by rfl) s (by rfl) Tryd.underlying9 Tryd.underlying61 Tryd.underlying5 (by omega) ?_
  intro v19
  simp only [Act.put, List.setIfInBounds_toArray, List.set_cons_succ, List.set_cons_zero]
  refine lx_val (by rfl) (.int .i64 (s.length : Int)) (fun X hX hF => by obtain ⟨A9, c9, h9, _⟩ := (hF _ _ List.mem_cons_self rfl); subst h9; exact exec_lenv Tryd.underlying61 _ (by rfl) A9 _ c9 (by rfl) _ rfl X) ?_
  simp only [Act.put, List.setIfInBounds_toArray, List.set_cons_succ, List.set_cons_zero]
  refine lx_val (by rfl) (.int .i64 0) (fun X hX hF => by rfl) ?_
  simp only [Act.put, List.setIfInBounds_toArray, List.set_cons_succ, List.set_cons_zero]
  refine lx_nil ?_
  intro X2 hX2 hF
  have hv19 := hF _ _ List.mem_cons_self
  have hb := bel_next hb hX2
  clear hF hX2
  obtain ⟨A2, c2, rfl, hR2⟩ := hv19
  have hRX : ∀ X, Since X2 X → Rd X 1 (.slice A2 s.length c2) s.length (s.map B8) := fun X h => hR2.below h
  have HRX := Lib.hid hRX
  have b2 : Below w.heap.size w X2 := hb
  clear hRX hR2 hb
  have hten : (ld 10).length ≤ 1 := ld_len (by decide)
  go_wp2
  go_loopw [4, 21] (fun xw kv wr => ∃ (k : Nat) (xv : Value), xv = xw ∧ k ≤ s.length ∧ kv = .int .i64 (k : Int) ∧ Lm (dval (s.take k)) xv wr ∧ isd (s.take k) = true ∧ Since X2 wr) (fun _ kv _ => s.length - (intOf kv).toNat)
  case atStart => exact ⟨0, _, rfl, by omega, rfl, Lm.zero _, rfl, Below.refl _ _⟩
  case round =>
    obtain ⟨k, xv, rfl, hk, rfl, hx, his, hs2⟩ := hrel
    have hlx := dval_ld his
    have hlk : (s.take k).length ≤ k := List.length_take_le _ _
    have HIS := Lib.hid his
    clear his
    by_cases hlt : k < s.length
    · obtain ⟨b, off, rfl, hbb, hc⟩ := (HRX.out _ hs2).byte hlt
      obtain ⟨y, hy⟩ : ∃ y, y = (s.getD k 0).toNat := ⟨_, rfl⟩
      have hy2 : y < 256 := hy ▸ u8_lt _
      rw [← hy] at hc
      have HY := Lib.hid hy
      clear hy
      have hb := hs2
      clear hs2
      go_upto_region 5 with (fail)
      refine lx_plain [] (lasts_nil) ?_
      simp only [its, Nat.zero_add, Nat.reduceAdd]
      refine lx_val (by rfl) (.bool true) (fun X hX hF => exec_lss _ _ _ _ (by rfl) .i64 (k : Int) (s.length : Int) (by rfl) (by rfl) true (decide_eq_true (by omega)) X) ?_
      simp only [Act.put, List.setIfInBounds_toArray, List.set_cons_succ, List.set_cons_zero]
      refine lx_nil ?_
      intro X1 hX1 hF
      have hx := (Dg.lasts _) _ _ _ hx hX1
      have hc := (Below.cell hX1 (p := ⟨b, off + k, none⟩) hbb).trans hc
      have hbb := Nat.lt_of_lt_of_le hbb (hX1).size
      have hb := bel_next hb hX1
      clear hF hX1
      go_upto_region 6 with (fail)
      refine lx_plain [] (lasts_nil) ?_
      simp only [its, Nat.zero_add, Nat.reduceAdd]
      refine lx_val (by rfl) (.pointer (some ⟨b, off + k, none⟩)) (fun X hX hF => exec_ix1 Tryd.underlying61 size_u8 _ _ (by rfl) b (off) s.length c2 k (by omega) (by rfl) (by rfl) (by omega) X) ?_
      simp only [Act.put, List.setIfInBounds_toArray, List.set_cons_succ, List.set_cons_zero]
      refine lx_val (by rfl) (.int .u8 (y : Int)) (fun X hX hF => exec_ld 5 _ (by rfl) b (off + k) (by rfl) _ X ((Below.cell hX (p := ⟨b, off + k, none⟩) hbb).trans hc) (fun X u h => load_u8 b (off + k) X u h)) ?_
      simp only [Act.put, List.setIfInBounds_toArray, List.set_cons_succ, List.set_cons_zero]
      refine lx_val (by rfl) (.int .u8 (y : Int)) (fun X hX hF => by rfl) ?_
      simp only [Act.put, List.setIfInBounds_toArray, List.set_cons_succ, List.set_cons_zero]
      refine lx_nil ?_
      intro X2 hX2 hF
      have hx := (Dg.lasts _) _ _ _ hx hX2
      have hc := (Below.cell hX2 (p := ⟨b, off + k, none⟩) hbb).trans hc
      have hbb := Nat.lt_of_lt_of_le hbb (hX2).size
      have hb := bel_next hb hX2
      clear hF hX2
      by_cases hd : 48 ≤ y ∧ y ≤ 57
      · obtain ⟨hd1, hd2⟩ := hd
        have HDV : Hid (dval (s.take (k + 1)) = dval (s.take k) * 10 + lw [UInt32.ofNat (y - 48)]) := by
          show _ = _
          rw [dval_take_succ s hlt, ← HY.out, lw_one, u32n, Nat.mod_eq_of_lt (by omega), Nat.mul_comm]
        have HIS2 : Hid (isd (s.take (k + 1)) = true) := by
          show _ = _
          rw [isd_take_succ s hlt, HIS.out, ← HY.out, decide_eq_true ⟨hd1, hd2⟩]
          rfl
        have hl10 := ld_mul (dval (s.take k)) 10
        have hlw1 : (ld (lw [UInt32.ofNat (y - 48)])).length ≤ 1 := ld_len (lw_lt _)
        go_upto_region 7 with (fail)
        refine lx_plain [] (lasts_nil) ?_
        simp only [its, Nat.zero_add, Nat.reduceAdd]
        refine lx_val (by rfl) (.int .u8 (y : Int)) (fun X hX hF => by rfl) ?_
        simp only [Act.put, List.setIfInBounds_toArray, List.set_cons_succ, List.set_cons_zero]
        refine lx_val (by rfl) (.bool false) (fun X hX hF => exec_lss _ _ _ _ (by rfl) .u8 (y : Int) 48 (by rfl) (by rfl) false (decide_eq_false (by omega)) X) ?_
        simp only [Act.put, List.setIfInBounds_toArray, List.set_cons_succ, List.set_cons_zero]
        refine lx_val (by rfl) (.bool false) (fun X hX hF => by rfl) ?_
        simp only [Act.put, List.setIfInBounds_toArray, List.set_cons_succ, List.set_cons_zero]
        refine lx_val (by rfl) (.int .u8 (y : Int)) (fun X hX hF => by rfl) ?_
        simp only [Act.put, List.setIfInBounds_toArray, List.set_cons_succ, List.set_cons_zero]
        refine lx_val (by rfl) (.bool false) (fun X hX hF => exec_gtr _ _ _ _ (by rfl) .u8 (y : Int) 57 (by rfl) (by rfl) false (decide_eq_false (by omega)) X) ?_
        simp only [Act.put, List.setIfInBounds_toArray, List.set_cons_succ, List.set_cons_zero]
        refine lx_val (by rfl) (.bool false) (fun X hX hF => by rfl) ?_
        simp only [Act.put, List.setIfInBounds_toArray, List.set_cons_succ, List.set_cons_zero]
        refine lx_nil ?_
        intro X3 hX3 hF
        have hx := (Dg.lasts _) _ _ _ hx hX3
        have hb := bel_next hb hX3
        clear hF hX3
        go_upto_region 9 with (fail)
        refine lx_plain [none, some (Lm 10), some (Lm ((dval (s.take k)) * 10)), none, none, none, some (Dg [UInt32.ofNat (y - 48)]), some (Lm (lw [UInt32.ofNat (y - 48)])), some (Lm (((dval (s.take k)) * 10) + (lw [UInt32.ofNat (y - 48)])))] (lasts_none (lasts_some (Dg.lasts _) (lasts_some (Dg.lasts _) (lasts_none (lasts_none (lasts_none (lasts_some (Dg.lasts _) (lasts_some (Dg.lasts _) (lasts_some (Dg.lasts _) (lasts_nil)))))))))) ?_
        simp only [its, Nat.zero_add, Nat.reduceAdd]
        refine lx_val (by rfl) (xv) (fun X hX hF => by rfl) ?_
        simp only [Act.put, List.setIfInBounds_toArray, List.set_cons_succ, List.set_cons_zero]
        refine lx_new (by rfl) (fun X hX hF => exec_one _ (by rfl) 10 (by omega) (by omega) (by rfl) rfl X) ?_
        intro v32
        simp only [Act.put, List.setIfInBounds_toArray, List.set_cons_succ, List.set_cons_zero]
        refine lx_make (by rfl) 43 _ _ (by rfl) [xv, v32] (by rfl) (fun _ => by go_simp) (fun X hX hF => timesC xv v32 _ _ X ((Dg.lasts _) _ _ _ hx hX) (hF _ _ List.mem_cons_self rfl) (by omega) (by omega)) ?_
        intro v33
        simp only [Act.put, List.setIfInBounds_toArray, List.set_cons_succ, List.set_cons_zero]
        refine lx_val (by rfl) (.int .u8 (y : Int)) (fun X hX hF => by rfl) ?_
        simp only [Act.put, List.setIfInBounds_toArray, List.set_cons_succ, List.set_cons_zero]
        refine lx_val (by rfl) (.int .u8 ((y - 48 : Nat) : Int)) (fun X hX hF => exec_subk _ _ _ _ (by rfl) .u8 (y : Int) 48 ((y - 48 : Nat) : Int) (by rfl) (by rfl) (by rw [w8 (by omega) (by omega)]; omega) X) ?_
        simp only [Act.put, List.setIfInBounds_toArray, List.set_cons_succ, List.set_cons_zero]
        refine lx_val (by rfl) (.int .u32 ((y - 48 : Nat) : Int)) (fun X hX hF => exec_cnv _ _ .u8 .u32 Tryd.underlying5 Tryd.underlying63 _ (by rfl) ((y - 48 : Nat) : Int) ((y - 48 : Nat) : Int) (by rfl) (by rw [w32 (by omega) (by omega)]) X) ?_
        simp only [Act.put, List.setIfInBounds_toArray, List.set_cons_succ, List.set_cons_zero]
        refine lx_new (by rfl) (fun X hX hF => ⟨_, _, exec_bs1 _ (by rfl) _ (by rfl) X, Dg.new1 X _ (UInt32.ofNat (y - 48)) (by rw [u32n]; omega), since_alloc X _⟩) ?_
        intro v37
        simp only [Act.put, List.setIfInBounds_toArray, List.set_cons_succ, List.set_cons_zero]
        refine lx_make (by rfl) 45 _ _ (by rfl) [v37] (by rfl) (fun _ => by go_simp) (fun X hX hF => trimD _ v37 X (hF _ _ List.mem_cons_self rfl) (by first | omega | (simp only [List.length_cons, List.length_nil]; omega))) ?_
        intro v38
        simp only [Act.put, List.setIfInBounds_toArray, List.set_cons_succ, List.set_cons_zero]
        refine lx_make (by rfl) 42 _ _ (by rfl) [v33, v38] (by rfl) (fun _ => by go_simp) (fun X hX hF => plusC v33 v38 _ _ X (hF _ _ (List.mem_cons_of_mem _ (List.mem_cons_of_mem _ List.mem_cons_self)) rfl) (hF _ _ List.mem_cons_self rfl) (by omega) (by omega)) ?_
        intro v39
        simp only [Act.put, List.setIfInBounds_toArray, List.set_cons_succ, List.set_cons_zero]
        refine lx_val (by rfl) (v39) (fun X hX hF => by rfl) ?_
        simp only [Act.put, List.setIfInBounds_toArray, List.set_cons_succ, List.set_cons_zero]
        refine lx_nil ?_
        intro X4 hX4 hF
        have hx := (Dg.lasts _) _ _ _ hx hX4
        have hv32 := hF _ _ (List.mem_cons_of_mem _ (List.mem_cons_of_mem _ (List.mem_cons_of_mem _ (List.mem_cons_of_mem _ List.mem_cons_self))))
        have hv33 := hF _ _ (List.mem_cons_of_mem _ (List.mem_cons_of_mem _ (List.mem_cons_of_mem _ List.mem_cons_self)))
        have hv37 := hF _ _ (List.mem_cons_of_mem _ (List.mem_cons_of_mem _ List.mem_cons_self))
        have hv38 := hF _ _ (List.mem_cons_of_mem _ List.mem_cons_self)
        have hv39 := hF _ _ List.mem_cons_self
        have hb := bel_next hb hX4
        clear hF hX4
        have hv39' := hv39
        rw [← HDV.out] at hv39'
        clear hc hx hv33 hv32 hv37 hv38 hv39 hlx
        go_wp2
        go_roundw
        case rel => exact ⟨k + 1, _, rfl, by omega, by go_num, hv39', HIS2.out, hb⟩
        case measure => simp [intOf]; omega
      · have HBAD : Hid (parV s = .tuple #[.string ⟨#[]⟩, .int .i64 27]) := parV_f (pok_bad hlt (by rw [← HY.out]; exact hd))
        rcases Nat.lt_or_ge y 48 with h48 | h48
        · clear hd
          go_upto_region 7 with (fail)
          refine lx_plain [] (lasts_nil) ?_
          simp only [its, Nat.zero_add, Nat.reduceAdd]
          refine lx_val (by rfl) (.int .u8 (y : Int)) (fun X hX hF => by rfl) ?_
          simp only [Act.put, List.setIfInBounds_toArray, List.set_cons_succ, List.set_cons_zero]
          refine lx_val (by rfl) (.bool true) (fun X hX hF => exec_lss _ _ _ _ (by rfl) .u8 (y : Int) 48 (by rfl) (by rfl) true (decide_eq_true (by omega)) X) ?_
          simp only [Act.put, List.setIfInBounds_toArray, List.set_cons_succ, List.set_cons_zero]
          refine lx_val (by rfl) (.bool true) (fun X hX hF => by rfl) ?_
          simp only [Act.put, List.setIfInBounds_toArray, List.set_cons_succ, List.set_cons_zero]
          refine lx_skip (by rfl) ?_
          simp only [Act.put, List.setIfInBounds_toArray, List.set_cons_succ, List.set_cons_zero]
          refine lx_skip (by rfl) ?_
          simp only [Act.put, List.setIfInBounds_toArray, List.set_cons_succ, List.set_cons_zero]
          refine lx_val (by rfl) (.bool true) (fun X hX hF => by rfl) ?_
          simp only [Act.put, List.setIfInBounds_toArray, List.set_cons_succ, List.set_cons_zero]
          refine lx_nil ?_
          intro X3 hX3 hF
          have hx := (Dg.lasts _) _ _ _ hx hX3
          have hb := bel_next hb hX3
          clear hF hX3
          go_wp2
          go_ret2
          exact ⟨by rw [HBAD.out]; rfl, b2.trans (hb.mono b2.size)⟩
        · have h57 : 57 < y := by omega
          clear hd
          go_upto_region 7 with (fail)
          refine lx_plain [] (lasts_nil) ?_
          simp only [its, Nat.zero_add, Nat.reduceAdd]
          refine lx_val (by rfl) (.int .u8 (y : Int)) (fun X hX hF => by rfl) ?_
          simp only [Act.put, List.setIfInBounds_toArray, List.set_cons_succ, List.set_cons_zero]
          refine lx_val (by rfl) (.bool false) (fun X hX hF => exec_lss _ _ _ _ (by rfl) .u8 (y : Int) 48 (by rfl) (by rfl) false (decide_eq_false (by omega)) X) ?_
          simp only [Act.put, List.setIfInBounds_toArray, List.set_cons_succ, List.set_cons_zero]
          refine lx_val (by rfl) (.bool false) (fun X hX hF => by rfl) ?_
          simp only [Act.put, List.setIfInBounds_toArray, List.set_cons_succ, List.set_cons_zero]
          refine lx_val (by rfl) (.int .u8 (y : Int)) (fun X hX hF => by rfl) ?_
          simp only [Act.put, List.setIfInBounds_toArray, List.set_cons_succ, List.set_cons_zero]
          refine lx_val (by rfl) (.bool true) (fun X hX hF => exec_gtr _ _ _ _ (by rfl) .u8 (y : Int) 57 (by rfl) (by rfl) true (decide_eq_true (by omega)) X) ?_
          simp only [Act.put, List.setIfInBounds_toArray, List.set_cons_succ, List.set_cons_zero]
          refine lx_val (by rfl) (.bool true) (fun X hX hF => by rfl) ?_
          simp only [Act.put, List.setIfInBounds_toArray, List.set_cons_succ, List.set_cons_zero]
          refine lx_nil ?_
          intro X3 hX3 hF
          have hx := (Dg.lasts _) _ _ _ hx hX3
          have hb := bel_next hb hX3
          clear hF hX3
          go_wp2
          go_ret2
          exact ⟨by rw [HBAD.out]; rfl, b2.trans (hb.mono b2.size)⟩
    · have HT : Hid (s.take k = s) := List.take_of_length_le (by omega)
      have HOK : Hid (parV s = .tuple #[.string ⟨(be (dval s)).toArray⟩, .int .i64 0]) := parV_t (HPO.out (by rw [← HT.out]; exact HIS.out))
      rw [HT.out] at hx hlx
      have hb := hs2
      clear hs2
      go_upto_region 5 with (fail)
      refine lx_plain [] (lasts_nil) ?_
      simp only [its, Nat.zero_add, Nat.reduceAdd]
      refine lx_val (by rfl) (.bool false) (fun X hX hF => exec_lss _ _ _ _ (by rfl) .i64 (k : Int) (s.length : Int) (by rfl) (by rfl) false (decide_eq_false (by omega)) X) ?_
      simp only [Act.put, List.setIfInBounds_toArray, List.set_cons_succ, List.set_cons_zero]
      refine lx_nil ?_
      intro X1 hX1 hF
      have hx := (Dg.lasts _) _ _ _ hx hX1
      have hb := bel_next hb hX1
      clear hF hX1
      go_upto_region 11 with (fail)
      refine lx_plain [] (lasts_nil) ?_
      simp only [its, Nat.zero_add, Nat.reduceAdd]
      refine lx_val (by rfl) (xv) (fun X hX hF => by rfl) ?_
      simp only [Act.put, List.setIfInBounds_toArray, List.set_cons_succ, List.set_cons_zero]
      refine lx_call (by rfl) 37 _ _ (by rfl) (.string ⟨(be (dval s)).toArray⟩) [xv] (by rfl) (by kernel_rfl) (fun _ => by go_simp) (fun X hX hF => textL xv _ X ((Dg.lasts _) _ _ _ hx hX) (by omega)) ?_
      simp only [Act.put, List.setIfInBounds_toArray, List.set_cons_succ, List.set_cons_zero]
      refine lx_val (by rfl) (.string ⟨(be (dval s)).toArray⟩) (fun X hX hF => by rfl) ?_
      simp only [Act.put, List.setIfInBounds_toArray, List.set_cons_succ, List.set_cons_zero]
      refine lx_val (by rfl) (.int .i64 0) (fun X hX hF => by rfl) ?_
      simp only [Act.put, List.setIfInBounds_toArray, List.set_cons_succ, List.set_cons_zero]
      refine lx_nil ?_
      intro X2 hX2 hF
      have hx := (Dg.lasts _) _ _ _ hx hX2
      have hb := bel_next hb hX2
      clear hF hX2
      go_wp2
      go_ret2
      exact ⟨by rw [HOK.out]; rfl, b2.trans (hb.mono b2.size)⟩

theorem nparseC (s : List UInt8) (w : World) (hs : s.length ≤ 4194304) : Calls Tryd.prog 28 #[.string ⟨s.toArray⟩] w fun e w' => e = .returned (parV s) ∧ Below w.heap.size w w' := by
  rcases Nat.eq_zero_or_pos s.length with h0 | h0
  · obtain rfl : s = [] := List.eq_nil_of_length_eq_zero h0
    exact nparN w
  · by_cases hc : (s.getD 0 0).toNat = 48
    · by_cases h1 : s = [48]
      · exact nparZ s w hs h0 hc h1
      · exact nparL s w hs h0 hc h1
    · exact nparO s w hs h0 hc
end Go.Proofs.YtglnabciomlmmaaDoor
