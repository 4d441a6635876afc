/-
  law 05: RatTextsAsSpecified.
-/
import Derived.Test.YtchhlgcakjjncaaDoorR5e
set_option linter.unusedSimpArgs false
set_option linter.unusedVariables false
set_option maxRecDepth 100000
set_option maxHeartbeats 1600000
namespace Go.Proofs.YtchhlgcakjjncaaDoor
open Go.RowKit

theorem load_err (b k : Nat) (X : World) (v : Value) (h : X.cell? ⟨b, k, none⟩ = some v) : (loadVar 28 ⟨b, k, none⟩).run Tryd.prog X = .ok v X := by
  go_simp
/-- A load of a struct that lies within a greater one. -/
theorem exec_inr {P : Program} {f : Operand → Value} {o : Oper} (T : TypeId) (x : Operand) (ho : o.op = .load T x) (g k : Nat) (xs : List Value) (hx : f x = .pointer (some ⟨g, k, none⟩)) {d : TypeDesc} (hu : P.underlying T = some d)
    (hag : (match d with | .struct _ | .array _ _ => true | _ => false) = true) {t : TypeId} {cs : List Value} (X : World) (hB : Blk X g t cs) (hs : (cs.drop k).take xs.length = xs) (hi : (P.info? T).map (·.size) = some xs.length) : (execOp f o).run P X = .ok (.value (.agg xs.toArray)) X := by
  have hc : Cl X g k xs := fun j u hj => by
    refine hB.cell ?_
    have hl : j < xs.length := (List.getElem?_eq_some_iff.1 hj).1
    rw [← hs, List.getElem?_take_of_lt hl, List.getElem?_drop] at hj
    exact hj
  unfold execOp
  simp only [ho, hx, Instr.loadAt, Instr.sureAddr, Sem.run_bind, Sem.run_pure, Result.andThen_ok, run_loadVar_cl T d g k xs hc hu hag hi]
/-- What Parse hands back. -/
noncomputable def prA (s : List UInt8) : Rat := if 400 < s.length then 0 else (parO s).getD 0
noncomputable def prE (s : List UInt8) : Int := if 400 < s.length then 2 else if (parO s).isSome then 0 else 27
theorem parR_eq (s : List UInt8) : parR s = .tuple #[rbv (prA s), .int .i64 (prE s)] := by
  unfold parR prA prE
  split
  · rfl
  · unfold parQ
    cases parO s <;> rfl
theorem parN_eq (s : List UInt8) : parN s = .agg #[.bool (rN (prA s)), .string ⟨(rP (prA s)).toArray⟩, .string ⟨(rD (prA s)).toArray⟩, .int .i64 (prE s)] := by
  unfold parN prA prE
  split
  · rfl
  · unfold parM
    cases parO s <;> rfl
theorem texts0 (A : Option Addr) (n c : Nat) (l : List Tr) (s : List UInt8) (w : World) (hr : Rd w 3 (.slice A n c) n (fl trc l)) (hln : l.length = n) (hn1 : n ≤ 140737488351232) (hs1 : s.length ≤ 140737488351232) (h : 12 < n) : Calls Tryd.prog 3 #[.slice A n c, .string ⟨s.toArray⟩] w fun e w' => e = .returned (.bool true) ∧ Since w w' := by
  go_enter Tryd.func3, Tryd.ntmps3
  go_upto_region 1 with (fail)
  refine jp ?_
  refine jm (.slice A n c) ?_
  refine jv (.int .i64 (n : Int)) (exec_lenv Tryd.underlying22 _ (by rfl) A n c (by rfl) _ rfl) ?_
  refine jv (.bool true) (exec_gtr _ _ _ _ (by rfl) .i64 (n : Int) 12 (by rfl) (by rfl) true (decide_eq_true (by omega))) ?_
  refine jm (.bool true) ?_
  refine js ?_
  refine js ?_
  refine js ?_
  refine jm (.bool true) ?_
  refine jz fun X1 hX1 => ?_
  have hb : Below w.heap.size w X1 := hX1
  clear hX1
  go_upto_region 2 with (fail)
  refine jp ?_
  refine jc (.bool true) (fun X hX hF => sanityC X) ?_
  refine jm (.bool true) ?_
  refine jz fun X2 hX2 => ?_
  have hb := bel_next hb hX2
  clear hX2
  go_wp2
  go_ret
  exact ⟨rfl, hb⟩

theorem texts1 (A : Option Addr) (n c : Nat) (l : List Tr) (s : List UInt8) (w : World) (hr : Rd w 3 (.slice A n c) n (fl trc l)) (hln : l.length = n) (hn1 : n ≤ 140737488351232) (hs1 : s.length ≤ 140737488351232) (h : n ≤ 12) (h2 : 500 < s.length) : Calls Tryd.prog 3 #[.slice A n c, .string ⟨s.toArray⟩] w fun e w' => e = .returned (.bool true) ∧ Since w w' := by
  go_enter Tryd.func3, Tryd.ntmps3
  go_upto_region 1 with (fail)
  refine jp ?_
  refine jm (.slice A n c) ?_
  refine jv (.int .i64 (n : Int)) (exec_lenv Tryd.underlying22 _ (by rfl) A n c (by rfl) _ rfl) ?_
  refine jv (.bool false) (exec_gtr _ _ _ _ (by rfl) .i64 (n : Int) 12 (by rfl) (by rfl) false (decide_eq_false (by omega))) ?_
  refine jm (.bool false) ?_
  refine jm (st s) ?_
  refine jv (.int .i64 (s.length : Int)) (exec_lens Tryd.underlying9 _ (by rfl) s (by rfl) _ rfl) ?_
  refine jv (.bool true) (exec_gtr _ _ _ _ (by rfl) .i64 (s.length : Int) 500 (by rfl) (by rfl) true (decide_eq_true (by omega))) ?_
  refine jm (.bool true) ?_
  refine jz fun X1 hX1 => ?_
  have hb : Below w.heap.size w X1 := hX1
  clear hX1
  go_upto_region 2 with (fail)
  refine jp ?_
  refine jc (.bool true) (fun X hX hF => sanityC X) ?_
  refine jm (.bool true) ?_
  refine jz fun X2 hX2 => ?_
  have hb := bel_next hb hX2
  clear hX2
  go_wp2
  go_ret
  exact ⟨rfl, hb⟩

theorem textsM (A : Option Addr) (n c : Nat) (l : List Tr) (s : List UInt8) (w : World) (hr : Rd w 3 (.slice A n c) n (fl trc l)) (hln : l.length = n) (hn1 : n ≤ 140737488351232) (hs1 : s.length ≤ 140737488351232) (h : n ≤ 12) (h2 : s.length ≤ 500) : Calls Tryd.prog 3 #[.slice A n c, .string ⟨s.toArray⟩] w fun e w' => e = .returned (.bool true) ∧ Since w w' := by
  have HRX : Hid (∀ X, Since w X → Rd X 3 (.slice A n c) n (fl trc l)) := fun X h => hr.below h
  have HLN := Lib.hid hln
  clear hr hln
  go_enter Tryd.func3, Tryd.ntmps3
  go_upto_region 1 with (fail)
  refine jp ?_
  refine jm (.slice A n c) ?_
  refine jv (.int .i64 (n : Int)) (exec_lenv Tryd.underlying22 _ (by rfl) A n c (by rfl) _ rfl) ?_
  refine jv (.bool false) (exec_gtr _ _ _ _ (by rfl) .i64 (n : Int) 12 (by rfl) (by rfl) false (decide_eq_false (by omega))) ?_
  refine jm (.bool false) ?_
  refine jm (st s) ?_
  refine jv (.int .i64 (s.length : Int)) (exec_lens Tryd.underlying9 _ (by rfl) s (by rfl) _ rfl) ?_
  refine jv (.bool false) (exec_gtr _ _ _ _ (by rfl) .i64 (s.length : Int) 500 (by rfl) (by rfl) false (decide_eq_false (by omega))) ?_
  refine jm (.bool false) ?_
  refine jz fun X1 hX1 => ?_
  have hb : Below w.heap.size w X1 := hX1
  clear hX1
  go_upto_region 3 with (fail)
  refine jp ?_
  refine jm (.int .i64 0) ?_
  refine jz fun X2 hX2 => ?_
  have hb := bel_next hb hX2
  clear hX2
  go_wp2
  go_loopw [5] (fun kv wr => ∃ k : Nat, k ≤ n ∧ kv = .int .i64 (k : Int) ∧ Hid (∀ t ∈ l.take k, tz t.2.1 t.2.2 20) ∧ Below w.heap.size w wr) (fun kv _ => n - (intOf kv).toNat)
  case atStart => exact ⟨0, by omega, rfl, (fun t ht => by simp at ht), hb⟩
  case round =>
    clear hb
    obtain ⟨k, hk, rfl, HFW, hb⟩ := hrel
    rcases Nat.lt_or_ge k n with hlt | hlt
    · obtain ⟨b, off, x, rfl, hbb, hcx, hxl, hdrop⟩ := (HRX.out _ hb).atF (m := 3) (fun x _ => trc_len x) (by omega) (k := k) (by rw [HLN.out]; exact hlt)
      by_cases t1 : tz x.2.1 x.2.2 20
      · have HFW2 : Hid (∀ t ∈ l.take (k + 1), tz t.2.1 t.2.2 20) := by
          intro t ht
          have hk2 : k < l.length := by rw [HLN.out]; exact hlt
          have h9 := hdrop.out
          rw [List.drop_eq_getElem_cons hk2] at h9
          injection h9 with h9 _
          rw [take_snoc hk2] at ht
          rcases List.mem_append.1 ht with h8 | h8
          · exact HFW.out t h8
          · rw [List.mem_singleton.1 h8, h9]; exact t1
        go_upto_region 4 with (fail)
        refine jp ?_
        refine jm (.int .i64 (k : Int)) ?_
        refine jm (.slice (some ⟨b, off, none⟩) n c) ?_
        refine jv (.int .i64 (n : Int)) (exec_lenv Tryd.underlying22 _ (by rfl) (some ⟨b, off, none⟩) n c (by rfl) _ rfl) ?_
        refine jv (.bool true) (exec_lss _ _ _ _ (by rfl) .i64 (k : Int) (n : Int) (by rfl) (by rfl) true (decide_eq_true (by omega))) ?_
        refine jz fun X1 hX1 => ?_
        have hcx := hcx.below hX1 hbb
        have hbb := Nat.lt_of_lt_of_le hbb (hX1).size
        have hb := bel_next hb hX1
        clear hX1
        go_upto_region 6 with (fail)
        refine jp ?_
        refine jm (.slice (some ⟨b, off, none⟩) n c) ?_
        refine jm (.int .i64 (k : Int)) ?_
        refine jv (.pointer (some ⟨b, off + k * 3, none⟩)) (exec_ixv Tryd.underlying22 info_rat _ _ (by rfl) b off n c k (by omega) (by rfl) (by rfl) rfl) ?_
        refine jg (.agg #[.bool x.1, st x.2.1, st x.2.2]) (fun X hX hF => exec_ldc 26 _ (by rfl) b (off + k * 3) (by rfl) Tryd.underlying26 rfl (trc x) X (hcx.below hX hbb) info_rat) ?_
        refine jc (.bool true) (fun X hX hF => mo (fewQ x.1 x.2.1 x.2.2 20 X) (by rw [few_t t1])) ?_
        refine jm (.bool false) ?_
        refine jz fun X2 hX2 => ?_
        have hcx := hcx.below hX2 hbb
        have hbb := Nat.lt_of_lt_of_le hbb (hX2).size
        have hb := bel_next hb hX2
        clear hX2
        go_upto_region 8 with (fail)
        refine jd ?_
        refine jm (.slice (some ⟨b, off, none⟩) n c) ?_
        refine jm (.int .i64 (k : Int)) ?_
        refine jv (.pointer (some ⟨b, off + k * 3, none⟩)) (exec_ixv Tryd.underlying22 info_rat _ _ (by rfl) b off n c k (by omega) (by rfl) (by rfl) rfl) ?_
        refine jg (.agg #[.bool x.1, st x.2.1, st x.2.2]) (fun X hX hF => exec_ldc 26 _ (by rfl) b (off + k * 3) (by rfl) Tryd.underlying26 rfl (trc x) X (hcx.below hX hbb) info_rat) ?_
        refine jc (st (rtx (rq x.1 x.2.1 x.2.2))) (fun X hX hF => textG x.1 x.2.1 x.2.2 rfl X (t1.mono (by omega))) ?_
        refine jm (.slice (some ⟨b, off, none⟩) n c) ?_
        refine jm (.int .i64 (k : Int)) ?_
        refine jv (.pointer (some ⟨b, off + k * 3, none⟩)) (exec_ixv Tryd.underlying22 info_rat _ _ (by rfl) b off n c k (by omega) (by rfl) (by rfl) rfl) ?_
        refine jg (.agg #[.bool x.1, st x.2.1, st x.2.2]) (fun X hX hF => exec_ldc 26 _ (by rfl) b (off + k * 3) (by rfl) Tryd.underlying26 rfl (trc x) X (hcx.below hX hbb) info_rat) ?_
        refine jc (st (rtx (rq x.1 x.2.1 x.2.2))) (fun X hX hF => textS x.1 x.2.1 x.2.2 rfl X (t1.mono (by omega))) ?_
        refine jv (.bool false) (exec_nesB _ _ _ _ (by rfl) (rtx (rq x.1 x.2.1 x.2.2)) (rtx (rq x.1 x.2.1 x.2.2)) (by rfl) (by rfl) false (nes_f rfl)) ?_
        refine jz fun X3 hX3 => ?_
        have hcx := hcx.below hX3 hbb
        have hbb := Nat.lt_of_lt_of_le hbb (hX3).size
        have hb := bel_next hb hX3
        clear hX3
        go_upto_region 5 with (fail)
        refine jp ?_
        refine jm (.int .i64 (k : Int)) ?_
        refine jv (.int .i64 ((k + 1 : Nat) : Int)) (exec_add _ _ _ _ (by rfl) (k : Int) 1 ((k + 1 : Nat) : Int) (by rfl) (by rfl) (by omega) (by omega) (by omega)) ?_
        refine jm (.int .i64 ((k + 1 : Nat) : Int)) ?_
        refine jz fun X4 hX4 => ?_
        have hcx := hcx.below hX4 hbb
        have hbb := Nat.lt_of_lt_of_le hbb (hX4).size
        have hb := bel_next hb hX4
        clear hX4
        go_wp2
        go_roundw
        case rel => exact ⟨k + 1, by omega, rfl, HFW2, hb⟩
        case measure => simp [intOf]; omega
      · go_upto_region 4 with (fail)
        refine jp ?_
        refine jm (.int .i64 (k : Int)) ?_
        refine jm (.slice (some ⟨b, off, none⟩) n c) ?_
        refine jv (.int .i64 (n : Int)) (exec_lenv Tryd.underlying22 _ (by rfl) (some ⟨b, off, none⟩) n c (by rfl) _ rfl) ?_
        refine jv (.bool true) (exec_lss _ _ _ _ (by rfl) .i64 (k : Int) (n : Int) (by rfl) (by rfl) true (decide_eq_true (by omega))) ?_
        refine jz fun X1 hX1 => ?_
        have hcx := hcx.below hX1 hbb
        have hbb := Nat.lt_of_lt_of_le hbb (hX1).size
        have hb := bel_next hb hX1
        clear hX1
        go_upto_region 6 with (fail)
        refine jp ?_
        refine jm (.slice (some ⟨b, off, none⟩) n c) ?_
        refine jm (.int .i64 (k : Int)) ?_
        refine jv (.pointer (some ⟨b, off + k * 3, none⟩)) (exec_ixv Tryd.underlying22 info_rat _ _ (by rfl) b off n c k (by omega) (by rfl) (by rfl) rfl) ?_
        refine jg (.agg #[.bool x.1, st x.2.1, st x.2.2]) (fun X hX hF => exec_ldc 26 _ (by rfl) b (off + k * 3) (by rfl) Tryd.underlying26 rfl (trc x) X (hcx.below hX hbb) info_rat) ?_
        refine jc (.bool false) (fun X hX hF => mo (fewQ x.1 x.2.1 x.2.2 20 X) (by rw [few_f t1])) ?_
        refine jm (.bool true) ?_
        refine jz fun X2 hX2 => ?_
        have hcx := hcx.below hX2 hbb
        have hbb := Nat.lt_of_lt_of_le hbb (hX2).size
        have hb := bel_next hb hX2
        clear hX2
        go_upto_region 7 with (fail)
        refine jp ?_
        refine jc (.bool true) (fun X hX hF => sanityC X) ?_
        refine jm (.bool true) ?_
        refine jz fun X3 hX3 => ?_
        have hb := bel_next hb hX3
        clear hX3
        go_wp2
        go_ret
        exact ⟨rfl, hb⟩
    · obtain rfl : k = n := by omega
      have HT : Hid (∀ t ∈ l, t.2.1.length ≤ 20 ∧ t.2.2.length ≤ 20) := fun t ht => HFW.out t (by rw [List.take_of_length_le (by rw [HLN.out]; exact Nat.le_refl _)]; exact ht)
      go_upto_region 4 with (fail)
      refine jp ?_
      refine jm (.int .i64 (k : Int)) ?_
      refine jm (.slice A k c) ?_
      refine jv (.int .i64 (k : Int)) (exec_lenv Tryd.underlying22 _ (by rfl) A k c (by rfl) _ rfl) ?_
      refine jv (.bool false) (exec_lss _ _ _ _ (by rfl) .i64 (k : Int) (k : Int) (by rfl) (by rfl) false (decide_eq_false (by omega))) ?_
      refine jz fun X1 hX1 => ?_
      have hb := bel_next hb hX1
      clear hX1
      go_upto_region 10 with (fail)
      refine jq 5 ?_
      refine jm (st s) ?_
      refine jc (.tuple #[rt (rN (prA s)) (rP (prA s)) (rD (prA s)), .int .i64 (prE s)]) (fun X hX hF => mo (parseQ s X (by omega)) (by rw [parR_eq])) ?_
      refine jm (.tuple #[rt (rN (prA s)) (rP (prA s)) (rD (prA s)), .int .i64 (prE s)]) ?_
      refine jm (rt (rN (prA s)) (rP (prA s)) (rD (prA s))) ?_
      refine jm (.int .i64 (prE s)) ?_
      refine jz fun X2 hX2 => ?_
      have hb := bel_next hb hX2
      clear hX2
      go_upto_region 11 with (refine osn 26 6 45 #[.bool (rN (prA s)), .string ⟨(rP (prA s)).toArray⟩, .string ⟨(rD (prA s)).toArray⟩] info_rat ?_)
      obtain ⟨Y2, hY9, hD6, hS9⟩ := start1 X2 26 [.bool (rN (prA s)), .string ⟨(rP (prA s)).toArray⟩, .string ⟨(rD (prA s)).toArray⟩]
      rw [← hY9]
      clear hY9
      have hgs6 := hb.size
      have hb := bel_next hb hS9
      clear hS9
      generalize X2.heap.size = g6 at *
      refine jq 2 ?_
      refine jm (st s) ?_
      refine jc (.agg #[.bool (rN (prA s)), st (rP (prA s)), st (rD (prA s)), .int .i64 (prE s)]) (fun X hX hF => mo (parseS s X (by omega)) (by rw [parN_eq])) ?_
      refine jz fun X3 hX3 => ?_
      have hD6 := hD6.bel hX3
      have hb := bel_next hb hX3
      clear hX3
      go_upto_region 12 with (refine osn 32 8 48 #[.bool (rN (prA s)), .string ⟨(rP (prA s)).toArray⟩, .string ⟨(rD (prA s)).toArray⟩, .int .i64 (prE s)] info_made5 ?_)
      obtain ⟨Y3, hY9, hD8, hS9⟩ := start1 X3 32 [.bool (rN (prA s)), .string ⟨(rP (prA s)).toArray⟩, .string ⟨(rD (prA s)).toArray⟩, .int .i64 (prE s)]
      rw [← hY9]
      clear hY9
      have hgs8 := hb.size
      have hlt8x0 := hD6.lt
      have hD6 := hD6.bel hS9
      have hb := bel_next hb hS9
      clear hS9
      generalize X3.heap.size = g8 at *
      have HRY : Hid (∀ X, Below w.heap.size w X → Rl l (.slice A k c) X) := fun X h9 => by
        have h8 := HRX.out X h9
        unfold Rl
        rw [HLN.out]
        exact h8
      have hk12 : l.length ≤ 12 := by rw [HLN.out]; exact h
      refine jp ?_
      refine jc (.bool true) (fun X hX hF => sanityC X) ?_
      refine jm (.bool true) ?_
      refine jm (.slice A k c) ?_
      refine jc (rt (rN (sumR l)) (rP (sumR l)) (rD (sumR l))) (fun X hX hF => sumG (.slice A k c) l 20 X (HRY.out X (bel_next hb hX)) (by omega) HT.out (by omega) (by omega)) ?_
      refine jm (.slice A k c) ?_
      refine jc (rt (rN (sumR l)) (rP (sumR l)) (rD (sumR l))) (fun X hX hF => sumS (.slice A k c) l 20 X (HRY.out X (bel_next hb hX)) (by omega) HT.out (by omega) (by omega)) ?_
      refine jv (.bool true) (exec_eqr _ _ (by rfl) (rN (sumR l)) (rP (sumR l)) (rD (sumR l)) (rN (sumR l)) (rP (sumR l)) (rD (sumR l)) (by rfl) (by rfl) true (rb_eqt rfl)) ?_
      refine jm (.bool true) ?_
      refine jm (.bool true) ?_
      refine ja hD6 Tryd.underlying26 (by rfl) info_rat ?_
      refine jn (.pointer (some ⟨g8, 0, none⟩)) ?_
      refine jg (rt (rN (prA s)) (rP (prA s)) (rD (prA s))) (fun X hX hF => exec_inr 26 _ (by rfl) g8 0 [.bool (rN (prA s)), .string ⟨(rP (prA s)).toArray⟩, .string ⟨(rD (prA s)).toArray⟩] (by rfl) Tryd.underlying26 rfl X (hD8.bel hX) (by rfl) info_rat) ?_
      refine jv (.bool true) (exec_eqr _ _ (by rfl) (rN (prA s)) (rP (prA s)) (rD (prA s)) (rN (prA s)) (rP (prA s)) (rD (prA s)) (by rfl) (by rfl) true (rb_eqt rfl)) ?_
      refine jm (.bool true) ?_
      refine jm (.bool true) ?_
      refine jm (.int .i64 (prE s)) ?_
      refine jn (.pointer (some ⟨g8, 3, none⟩)) ?_
      refine jf (.int .i64 (prE s)) hD8 3 load_err ?_
      refine jv (.bool true) (exec_eqi _ _ _ _ (by rfl) .i64 (prE s) (prE s) (by rfl) (by rfl) true (decide_eq_true (by omega))) ?_
      refine jm (.bool true) ?_
      refine jm (.bool true) ?_
      refine jz fun X4 hX4 => ?_
      have hD6 := hD6.bel hX4
      have hD8 := hD8.bel hX4
      have hb := bel_next hb hX4
      clear hX4
      go_wp2
      go_ret
      exact ⟨rfl, hb⟩

theorem textsW (A : Option Addr) (n c : Nat) (l : List Tr) (s : List UInt8) (w : World) (hr : Rd w 3 (.slice A n c) n (fl trc l)) (hln : l.length = n) (hn1 : n ≤ 140737488351232) (hs1 : s.length ≤ 140737488351232) : Calls Tryd.prog 3 #[.slice A n c, .string ⟨s.toArray⟩] w fun e w' => e = .returned (.bool true) ∧ Since w w' := by
  rcases Nat.lt_or_ge 12 n with h | h
  · exact texts0 A n c l s w hr hln hn1 hs1 h
  · rcases Nat.lt_or_ge 500 s.length with h2 | h2
    · exact texts1 A n c l s w hr hln hn1 hs1 h h2
    · exact textsM A n c l s w hr hln hn1 hs1 h h2

end Go.Proofs.YtchhlgcakjjncaaDoor
