/-
  rat: Parse.
-/
import Derived.Test.YtchhlgcakjjncaaDoorQsu
import Derived.Test.YtchhlgcakjjncaaDoorPl05e
set_option linter.unusedSimpArgs false
set_option linter.unusedVariables false
set_option maxRecDepth 100000
set_option maxHeartbeats 1600000
namespace Go.Proofs.YtchhlgcakjjncaaDoor
open Go.RowKit

/-- How far the search for a '/' has come. -/
def LoopOk (r : List UInt8) (k D : Nat) (m : List UInt8) : Prop := (m = r ∧ D = 1 ∧ k ≤ r.length ∧ ∀ j, j < k → ¬ (r.getD j 0).toNat = 47) ∨ (slash r < r.length ∧ m = r.take (slash r) ∧ k = slash r + 1 ∧ denOk r D)
/-- What Parse hands back. -/
noncomputable def parQ (s : List UInt8) : Value := match parO s with | some y => .tuple #[rbv y, .int .i64 0] | none => .tuple #[.agg #[.bool false, .string ⟨#[]⟩, .string ⟨#[]⟩], .int .i64 27]
theorem parQ_some {s : List UInt8} {y : Rat} (h : rtx y = s) : parQ s = .tuple #[rbv y, .int .i64 0] := by unfold parQ; rw [parO_some h]
theorem parQ_none {s : List UInt8} (h : ∀ y, rtx y ≠ s) : parQ s = .tuple #[.agg #[.bool false, .string ⟨#[]⟩, .string ⟨#[]⟩], .int .i64 27] := by unfold parQ; rw [parO_none h]
theorem be_dval9 {l : List UInt8} (h : pok l = true) : (be (dval l)).length ≤ l.length := by
  have h1 : isd l = true := by unfold pok at h; exact (Bool.and_eq_true _ _ ▸ h : _ ∧ _).2
  exact be_len (Nat.lt_of_lt_of_le (dval_lt l h1) (Nat.pow_le_pow_left (by decide) _))
theorem denOk_len {r : List UInt8} {D : Nat} (h : denOk r D) (hr : r.length ≤ 400) : (be D).length ≤ 400 := by
  unfold denOk at h
  split at h
  · rw [h, be_one]; decide
  · rw [h.2.1]
    have := be_dval9 h.1
    rw [List.length_drop] at this
    omega
set_option maxHeartbeats 4000000 in
theorem parseM (s : List UInt8) (w : World) (hs : s.length ≤ 400) (hps : 0 < s.length) (hc0 : (s.getD 0 0).toNat = 45) : Calls Tryd.prog 15 #[.string ⟨s.toArray⟩] w fun e w' => e = .returned (parQ s) ∧ Since w w' := by
  have hpos : 0 < s.length := hps
  have HNE : Hid (s ≠ []) := fun h9 => by rw [h9] at hps; exact absurd hps (by decide)
  have hc1 : (s.getD 0 0).toNat ≤ 45 ∧ 45 ≤ (s.getD 0 0).toNat := by omega
  have HNG : Hid (ngS s = true) := decide_eq_true ⟨hps, hc0⟩
  obtain ⟨r, hr⟩ : ∃ r, s.drop 1 = r := ⟨_, rfl⟩
  have HR0 : Hid (r0S s = r) := by show _ = _; unfold r0S; rw [HNG.out, if_pos rfl]; exact hr
  have hrl : r.length ≤ 400 := by rw [← hr, List.length_drop]; omega
  have HRD := Lib.hid hr
  clear hc0 hps hr
  go_enter Tryd.func15, Tryd.ntmps15
  go_upto_region 1 with (fail)
  obtain ⟨W0, hW0, hB0, hb⟩ := start1 w 26 [.bool false, .string ⟨#[]⟩, .string ⟨#[]⟩]
  rw [← hW0]
  clear hW0
  refine jp ?_
  refine jm (st s) ?_
  refine jv (.int .i64 (s.length : Int)) (exec_lens Tryd.underlying9 _ (by rfl) s (by rfl) _ rfl) ?_
  refine jv (.bool false) (exec_gtr _ _ _ _ (by rfl) .i64 (s.length : Int) 400 (by rfl) (by rfl) false (decide_eq_false (by omega))) ?_
  refine jz fun X1 hX1 => ?_
  have hB0 := hB0.bel hX1
  have hb := bel_next hb hX1
  clear hX1
  go_upto_region 3 with (fail)
  refine jq 1 ?_
  refine jn (rt false [] ([1] : List UInt8)) ?_
  refine jz fun X2 hX2 => ?_
  have hB0 := hB0.bel hX2
  have hb := bel_next hb hX2
  clear hX2
  go_upto_region 4 with (refine osn 78 4 16 #[.bool false, .string ⟨([] : List UInt8).toArray⟩, .string ⟨([1] : List UInt8).toArray⟩] info_fr ?_)
  obtain ⟨Y2, hY9, hD4, hS9⟩ := start1 X2 78 [.bool false, .string ⟨([] : List UInt8).toArray⟩, .string ⟨([1] : List UInt8).toArray⟩]
  rw [← hY9]
  clear hY9
  have hgs4 := hb.size
  have hlt4x0 := hB0.lt
  have hB0 := hB0.bel hS9
  have hb := bel_next hb hS9
  clear hS9
  generalize X2.heap.size = g4 at *
  refine jp ?_
  refine jm (st s) ?_
  refine jm (st s) ?_
  refine jz fun X3 hX3 => ?_
  have hB0 := hB0.bel hX3
  have hD4 := hD4.bel hX3
  have hb := bel_next hb hX3
  clear hX3
  go_upto_region 5 with (fail)
  refine jp ?_
  refine jm (st s) ?_
  refine jv (.bool true) (exec_nesB _ _ _ _ (by rfl) s ([] : List UInt8) (by rfl) (by rfl) true (nes_t HNE.out)) ?_
  refine jm (.bool true) ?_
  refine jm (st s) ?_
  refine jv (.int .u8 ((s.getD 0 0).toNat : Int)) (exec_chr _ Tryd.underlying9 _ _ (by rfl) s 0 (by rfl) (by rfl) (by omega) hpos) ?_
  refine jv (.bool true) (exec_eqi _ _ _ _ (by rfl) .u8 ((s.getD 0 0).toNat : Int) 45 (by rfl) (by rfl) true (decide_eq_true (by omega))) ?_
  refine jm (.bool true) ?_
  refine jz fun X4 hX4 => ?_
  have hB0 := hB0.bel hX4
  have hD4 := hD4.bel hX4
  have hb := bel_next hb hX4
  clear hX4
  go_upto_region 6 with (fail)
  refine lx_region_st g4 78 [.bool false, .string ⟨([] : List UInt8).toArray⟩, .string ⟨([1] : List UInt8).toArray⟩] [.bool true, .string ⟨([] : List UInt8).toArray⟩, .string ⟨([1] : List UInt8).toArray⟩] (List.replicate 3 none ++ [some (fun _ X => Blk X g4 78 [.bool true, .string ⟨([] : List UInt8).toArray⟩, .string ⟨([1] : List UInt8).toArray⟩])]) (by kernel_rfl) (by kernel_rfl) turns_one ?_
  simp only [its, List.replicate, List.cons_append, List.nil_append, Nat.zero_add, Nat.reduceAdd]
  refine jm (st s) ?_
  refine jv (st (s.drop 1)) (exec_frm _ Tryd.underlying9 _ _ (by rfl) s 1 (by rfl) (by rfl) (by omega) (by omega)) ?_
  refine jn (.pointer (some ⟨g4, 0, none⟩)) ?_
  refine lx_store (by rfl) 4 _ _ (by rfl) rfl 0 (by rfl) (.bool true) (by rfl) hD4 rfl (by simp) (fun X u h1 h2 => exec_stb _ _ (by rfl) _ _ (by rfl) (by rfl) u X h1 h2) ?_
  refine jm (st (s.drop 1)) ?_
  refine lx_nil ?_
  intro X5 hX5 hF
  have hS := hF _ _ List.mem_cons_self
  have hb := hX5.below hb hb.size (by omega)
  have hB0 := Turns.blk hX5 hB0 (by omega)
  have hD4 := hS
  clear hF hS hX5
  go_upto_region 7 with (fail)
  refine jp ?_
  refine jm (.int .i64 0) ?_
  refine jz fun X6 hX6 => ?_
  have hB0 := hB0.bel hX6
  have hD4 := hD4.bel hX6
  have hb := bel_next hb hX6
  clear hX6
  have hD4 : Blk X6 g4 78 [.bool true, .string ⟨([] : List UInt8).toArray⟩, .string ⟨(be 1).toArray⟩] := by rw [be_one]; exact hD4
  rw [HRD.out]
  go_wp2
  go_loopw [5, 6] (fun rv kv wr => ∃ (k D : Nat) (m : List UInt8), rv = .string ⟨m.toArray⟩ ∧ kv = .int .i64 (k : Int) ∧ LoopOk r k D m ∧ Blk wr g4 78 [.bool true, .string ⟨([] : List UInt8).toArray⟩, .string ⟨(be D).toArray⟩] ∧ Blk wr w.heap.size 26 [.bool false, .string ⟨#[]⟩, .string ⟨#[]⟩] ∧ Below w.heap.size w wr) (fun rv kv _ => (match rv with | .string s => s.data.toList.length | _ => 0) - (intOf kv).toNat)
  case atStart => exact ⟨0, 1, r, rfl, rfl, .inl ⟨rfl, rfl, Nat.zero_le _, fun j hj => absurd hj (by omega)⟩, hD4, hB0, hb⟩
  case round =>
    clear hD4 hB0 hb
    obtain ⟨k, D, m, rfl, rfl, hlo, hD4, hB0, hb⟩ := hrel
    rcases hlo with ⟨hmr, rfl, hk, hns⟩ | ⟨hsl, hme, rfl, hdo⟩
    · have hmr := hmr.symm
      subst hmr
      rcases Nat.lt_or_ge k r.length with hlt | hlt
      · by_cases hc : (r.getD k 0).toNat = 47
        · have hsk := slash_eq hlt hc hns
          have hc1 : (r.getD k 0).toNat ≤ 47 ∧ 47 ≤ (r.getD k 0).toNat := by omega
          clear hc
          rcases hpk : pok (r.drop (k + 1)) with _ | _
          · have HPK := Lib.hid hpk
            have HBAD : Hid (parQ s = .tuple #[.agg #[.bool false, .string ⟨#[]⟩, .string ⟨#[]⟩], .int .i64 27]) := parQ_none (fun y hy => by
            have h9 := told_den hy (by rw [HR0.out, hsk]; omega)
            rw [HR0.out, hsk] at h9
            rw [hpk] at h9; exact absurd h9.1 (by decide))
            clear hpk hsk
            go_upto_region 8 with (fail)
            refine jp ?_
            refine jm (.int .i64 (k : Int)) ?_
            refine jm (st r) ?_
            refine jv (.int .i64 (r.length : Int)) (exec_lens Tryd.underlying9 _ (by rfl) r (by rfl) _ rfl) ?_
            refine jv (.bool true) (exec_lss _ _ _ _ (by rfl) .i64 (k : Int) (r.length : Int) (by rfl) (by rfl) true (decide_eq_true (by omega))) ?_
            refine jz fun X1 hX1 => ?_
            have hB0 := hB0.bel hX1
            have hD4 := hD4.bel hX1
            have hb := bel_next hb hX1
            clear hX1
            go_upto_region 10 with (fail)
            refine jp ?_
            refine jm (st r) ?_
            refine jm (.int .i64 (k : Int)) ?_
            refine jv (.int .u8 ((r.getD k 0).toNat : Int)) (exec_chr _ Tryd.underlying9 _ _ (by rfl) r k (by rfl) (by rfl) (by omega) hlt) ?_
            refine jv (.bool false) (exec_nei _ _ _ _ (by rfl) .u8 ((r.getD k 0).toNat : Int) 47 (by rfl) (by rfl) false (by rw [decide_eq_true (by omega)]; rfl)) ?_
            refine jz fun X2 hX2 => ?_
            have hB0 := hB0.bel hX2
            have hD4 := hD4.bel hX2
            have hb := bel_next hb hX2
            clear hX2
            go_upto_region 11 with (fail)
            refine jp ?_
            refine jm (st r) ?_
            refine jm (.int .i64 (k : Int)) ?_
            refine jv (.int .i64 ((k + 1 : Nat) : Int)) (exec_add _ _ _ _ (by rfl) (k : Int) 1 ((k + 1 : Nat) : Int) (by rfl) (by rfl) (by omega) (by omega) (by omega)) ?_
            refine jv (st (r.drop (k + 1))) (exec_frm _ Tryd.underlying9 _ _ (by rfl) r (k + 1) (by rfl) (by rfl) (by omega) hlt) ?_
            refine jc (.tuple #[st [], .int .i64 27]) (fun X hX hF => mo (nparseC (r.drop (k + 1)) X (by first | omega | (simp only [List.length_take, List.length_drop]; omega))) (by rw [parV_f HPK.out])) ?_
            refine jm (.tuple #[st [], .int .i64 27]) ?_
            refine jm (st []) ?_
            refine jm (.int .i64 27) ?_
            refine jm (st []) ?_
            refine jm (.int .i64 27) ?_
            refine jz fun X3 hX3 => ?_
            have hB0 := hB0.bel hX3
            have hD4 := hD4.bel hX3
            have hb := bel_next hb hX3
            clear hX3
            go_upto_region 12 with (fail)
            refine jp ?_
            refine jm (.int .i64 27) ?_
            refine jv (.bool true) (exec_nei _ _ _ _ (by rfl) .i64 27 0 (by rfl) (by rfl) true (by rw [decide_eq_false (by omega)]; rfl)) ?_
            refine jm (.bool true) ?_
            refine js ?_
            refine js ?_
            refine jm (.bool true) ?_
            refine jz fun X4 hX4 => ?_
            have hB0 := hB0.bel hX4
            have hD4 := hD4.bel hX4
            have hb := bel_next hb hX4
            clear hX4
            go_upto_region 13 with (fail)
            refine jq 1 ?_
            refine jn (rz) ?_
            refine jz fun X5 hX5 => ?_
            have hB0 := hB0.bel hX5
            have hD4 := hD4.bel hX5
            have hb := bel_next hb hX5
            clear hX5
            refine osb 26 2 52 w.heap.size 26 hB0 [.bool false, .string ⟨#[]⟩, .string ⟨#[]⟩] info_rat ?_
            intro w9 hR9 hO9 hB9 hs9
            have hb9 := hB9 _ _ hb (by omega)
            clear hO9 hB9
            go_wp2
            refine post_cell2 (v := .int .i64 27) rfl rfl (by rfl) (by rfl) Tryd.underlying26 rfl hR9 info_rat ⟨by rw [HBAD.out], hb9⟩
          · have HPK := Lib.hid hpk
            have hdl := be_dval9 hpk
            rcases Nat.eq_zero_or_pos (dval (r.drop (k + 1))) with h0 | h0
            · have HZE : Hid (be (dval (r.drop (k + 1))) = []) := be_nil.2 h0
              have HBAD : Hid (parQ s = .tuple #[.agg #[.bool false, .string ⟨#[]⟩, .string ⟨#[]⟩], .int .i64 27]) := parQ_none (fun y hy => by
            have h9 := told_den hy (by rw [HR0.out, hsk]; omega)
            rw [HR0.out, hsk] at h9
            omega)
              clear hpk hsk h0
              go_upto_region 8 with (fail)
              refine jp ?_
              refine jm (.int .i64 (k : Int)) ?_
              refine jm (st r) ?_
              refine jv (.int .i64 (r.length : Int)) (exec_lens Tryd.underlying9 _ (by rfl) r (by rfl) _ rfl) ?_
              refine jv (.bool true) (exec_lss _ _ _ _ (by rfl) .i64 (k : Int) (r.length : Int) (by rfl) (by rfl) true (decide_eq_true (by omega))) ?_
              refine jz fun X1 hX1 => ?_
              have hB0 := hB0.bel hX1
              have hD4 := hD4.bel hX1
              have hb := bel_next hb hX1
              clear hX1
              go_upto_region 10 with (fail)
              refine jp ?_
              refine jm (st r) ?_
              refine jm (.int .i64 (k : Int)) ?_
              refine jv (.int .u8 ((r.getD k 0).toNat : Int)) (exec_chr _ Tryd.underlying9 _ _ (by rfl) r k (by rfl) (by rfl) (by omega) hlt) ?_
              refine jv (.bool false) (exec_nei _ _ _ _ (by rfl) .u8 ((r.getD k 0).toNat : Int) 47 (by rfl) (by rfl) false (by rw [decide_eq_true (by omega)]; rfl)) ?_
              refine jz fun X2 hX2 => ?_
              have hB0 := hB0.bel hX2
              have hD4 := hD4.bel hX2
              have hb := bel_next hb hX2
              clear hX2
              go_upto_region 11 with (fail)
              refine jp ?_
              refine jm (st r) ?_
              refine jm (.int .i64 (k : Int)) ?_
              refine jv (.int .i64 ((k + 1 : Nat) : Int)) (exec_add _ _ _ _ (by rfl) (k : Int) 1 ((k + 1 : Nat) : Int) (by rfl) (by rfl) (by omega) (by omega) (by omega)) ?_
              refine jv (st (r.drop (k + 1))) (exec_frm _ Tryd.underlying9 _ _ (by rfl) r (k + 1) (by rfl) (by rfl) (by omega) hlt) ?_
              refine jc (.tuple #[st (be (dval (r.drop (k + 1)))), .int .i64 0]) (fun X hX hF => mo (nparseC (r.drop (k + 1)) X (by first | omega | (simp only [List.length_take, List.length_drop]; omega))) (by rw [parV_t HPK.out])) ?_
              refine jm (.tuple #[st (be (dval (r.drop (k + 1)))), .int .i64 0]) ?_
              refine jm (st (be (dval (r.drop (k + 1))))) ?_
              refine jm (.int .i64 0) ?_
              refine jm (st (be (dval (r.drop (k + 1))))) ?_
              refine jm (.int .i64 0) ?_
              refine jz fun X3 hX3 => ?_
              have hB0 := hB0.bel hX3
              have hD4 := hD4.bel hX3
              have hb := bel_next hb hX3
              clear hX3
              go_upto_region 12 with (fail)
              refine jp ?_
              refine jm (.int .i64 0) ?_
              refine jv (.bool false) (exec_nei _ _ _ _ (by rfl) .i64 0 0 (by rfl) (by rfl) false (by rw [decide_eq_true (by omega)]; rfl)) ?_
              refine jm (.bool false) ?_
              refine jm (st (be (dval (r.drop (k + 1))))) ?_
              refine jv (.bool true) (exec_eqsB _ _ _ _ (by rfl) (be (dval (r.drop (k + 1)))) ([] : List UInt8) (by rfl) (by rfl) true (eqs_t HZE.out)) ?_
              refine jm (.bool true) ?_
              refine jz fun X4 hX4 => ?_
              have hB0 := hB0.bel hX4
              have hD4 := hD4.bel hX4
              have hb := bel_next hb hX4
              clear hX4
              go_upto_region 13 with (fail)
              refine jq 1 ?_
              refine jn (rz) ?_
              refine jz fun X5 hX5 => ?_
              have hB0 := hB0.bel hX5
              have hD4 := hD4.bel hX5
              have hb := bel_next hb hX5
              clear hX5
              refine osb 26 2 52 w.heap.size 26 hB0 [.bool false, .string ⟨#[]⟩, .string ⟨#[]⟩] info_rat ?_
              intro w9 hR9 hO9 hB9 hs9
              have hb9 := hB9 _ _ hb (by omega)
              clear hO9 hB9
              go_wp2
              refine post_cell2 (v := .int .i64 27) rfl rfl (by rfl) (by rfl) Tryd.underlying26 rfl hR9 info_rat ⟨by rw [HBAD.out], hb9⟩
            · have HZE : Hid (be (dval (r.drop (k + 1))) ≠ []) := be_ne h0
              have HLO : Hid (LoopOk r (k + 1) (dval (r.drop (k + 1))) (r.take k)) := .inr ⟨by rw [hsk]; exact hlt, by rw [hsk], by rw [hsk], by unfold denOk; rw [hsk, if_neg (by omega)]; exact ⟨hpk, rfl, h0⟩⟩
              clear hpk hsk h0
              go_upto_region 8 with (fail)
              refine jp ?_
              refine jm (.int .i64 (k : Int)) ?_
              refine jm (st r) ?_
              refine jv (.int .i64 (r.length : Int)) (exec_lens Tryd.underlying9 _ (by rfl) r (by rfl) _ rfl) ?_
              refine jv (.bool true) (exec_lss _ _ _ _ (by rfl) .i64 (k : Int) (r.length : Int) (by rfl) (by rfl) true (decide_eq_true (by omega))) ?_
              refine jz fun X1 hX1 => ?_
              have hB0 := hB0.bel hX1
              have hD4 := hD4.bel hX1
              have hb := bel_next hb hX1
              clear hX1
              go_upto_region 10 with (fail)
              refine jp ?_
              refine jm (st r) ?_
              refine jm (.int .i64 (k : Int)) ?_
              refine jv (.int .u8 ((r.getD k 0).toNat : Int)) (exec_chr _ Tryd.underlying9 _ _ (by rfl) r k (by rfl) (by rfl) (by omega) hlt) ?_
              refine jv (.bool false) (exec_nei _ _ _ _ (by rfl) .u8 ((r.getD k 0).toNat : Int) 47 (by rfl) (by rfl) false (by rw [decide_eq_true (by omega)]; rfl)) ?_
              refine jz fun X2 hX2 => ?_
              have hB0 := hB0.bel hX2
              have hD4 := hD4.bel hX2
              have hb := bel_next hb hX2
              clear hX2
              go_upto_region 11 with (fail)
              refine jp ?_
              refine jm (st r) ?_
              refine jm (.int .i64 (k : Int)) ?_
              refine jv (.int .i64 ((k + 1 : Nat) : Int)) (exec_add _ _ _ _ (by rfl) (k : Int) 1 ((k + 1 : Nat) : Int) (by rfl) (by rfl) (by omega) (by omega) (by omega)) ?_
              refine jv (st (r.drop (k + 1))) (exec_frm _ Tryd.underlying9 _ _ (by rfl) r (k + 1) (by rfl) (by rfl) (by omega) hlt) ?_
              refine jc (.tuple #[st (be (dval (r.drop (k + 1)))), .int .i64 0]) (fun X hX hF => mo (nparseC (r.drop (k + 1)) X (by first | omega | (simp only [List.length_take, List.length_drop]; omega))) (by rw [parV_t HPK.out])) ?_
              refine jm (.tuple #[st (be (dval (r.drop (k + 1)))), .int .i64 0]) ?_
              refine jm (st (be (dval (r.drop (k + 1))))) ?_
              refine jm (.int .i64 0) ?_
              refine jm (st (be (dval (r.drop (k + 1))))) ?_
              refine jm (.int .i64 0) ?_
              refine jz fun X3 hX3 => ?_
              have hB0 := hB0.bel hX3
              have hD4 := hD4.bel hX3
              have hb := bel_next hb hX3
              clear hX3
              go_upto_region 12 with (fail)
              refine jp ?_
              refine jm (.int .i64 0) ?_
              refine jv (.bool false) (exec_nei _ _ _ _ (by rfl) .i64 0 0 (by rfl) (by rfl) false (by rw [decide_eq_true (by omega)]; rfl)) ?_
              refine jm (.bool false) ?_
              refine jm (st (be (dval (r.drop (k + 1))))) ?_
              refine jv (.bool false) (exec_eqsB _ _ _ _ (by rfl) (be (dval (r.drop (k + 1)))) ([] : List UInt8) (by rfl) (by rfl) false (eqs_f HZE.out)) ?_
              refine jm (.bool false) ?_
              refine jz fun X4 hX4 => ?_
              have hB0 := hB0.bel hX4
              have hD4 := hD4.bel hX4
              have hb := bel_next hb hX4
              clear hX4
              go_upto_region 14 with (fail)
              refine lx_region_st g4 78 [.bool true, .string ⟨([] : List UInt8).toArray⟩, .string ⟨(be 1).toArray⟩] [.bool true, .string ⟨([] : List UInt8).toArray⟩, .string ⟨(be (dval (r.drop (k + 1)))).toArray⟩] (List.replicate 5 none ++ [some (fun _ X => Blk X g4 78 [.bool true, .string ⟨([] : List UInt8).toArray⟩, .string ⟨(be (dval (r.drop (k + 1)))).toArray⟩])]) (by kernel_rfl) (by kernel_rfl) turns_one ?_
              simp only [its, List.replicate, List.cons_append, List.nil_append, Nat.zero_add, Nat.reduceAdd]
              refine jm (st (be (dval (r.drop (k + 1))))) ?_
              refine jm (st r) ?_
              refine jm (.int .i64 (k : Int)) ?_
              refine jv (st (r.take k)) (exec_cut _ Tryd.underlying9 _ _ (by rfl) r k (by rfl) (by rfl) (by omega) (by omega)) ?_
              refine jn (.pointer (some ⟨g4, 2, none⟩)) ?_
              refine lx_store (by rfl) 9 _ _ (by rfl) rfl 2 (by rfl) (.string ⟨(be (dval (r.drop (k + 1)))).toArray⟩) (by rfl) hD4 rfl (by simp) (fun X u h1 h2 => exec_sts _ _ (by rfl) _ _ (by rfl) (by rfl) u X h1 h2) ?_
              refine jm (st (r.take k)) ?_
              refine lx_nil ?_
              intro X5 hX5 hF
              have hS := hF _ _ List.mem_cons_self
              have hb := hX5.below hb hb.size (by omega)
              have hB0 := Turns.blk hX5 hB0 (by omega)
              have hD4 := hS
              clear hF hS hX5
              go_upto_region 9 with (fail)
              refine jp ?_
              refine jm (.int .i64 (k : Int)) ?_
              refine jv (.int .i64 ((k + 1 : Nat) : Int)) (exec_add _ _ _ _ (by rfl) (k : Int) 1 ((k + 1 : Nat) : Int) (by rfl) (by rfl) (by omega) (by omega) (by omega)) ?_
              refine jm (.int .i64 ((k + 1 : Nat) : Int)) ?_
              refine jz fun X6 hX6 => ?_
              have hB0 := hB0.bel hX6
              have hD4 := hD4.bel hX6
              have hb := bel_next hb hX6
              clear hX6
              go_wp2
              go_roundw
              case rel => exact ⟨k + 1, dval (r.drop (k + 1)), r.take k, rfl, rfl, HLO.out, hD4, hB0, hb⟩
              case measure => simp [intOf]; omega
        · have HLO : Hid (LoopOk r (k + 1) 1 r) := .inl ⟨rfl, rfl, hlt, fun j hj => by
            rcases Nat.lt_or_ge j k with h | h
            · exact hns j h
            · rw [show j = k by omega]; exact hc⟩
          have hc1 : (r.getD k 0).toNat < 47 ∨ 47 < (r.getD k 0).toNat := by omega
          clear hc
          go_upto_region 8 with (fail)
          refine jp ?_
          refine jm (.int .i64 (k : Int)) ?_
          refine jm (st r) ?_
          refine jv (.int .i64 (r.length : Int)) (exec_lens Tryd.underlying9 _ (by rfl) r (by rfl) _ rfl) ?_
          refine jv (.bool true) (exec_lss _ _ _ _ (by rfl) .i64 (k : Int) (r.length : Int) (by rfl) (by rfl) true (decide_eq_true (by omega))) ?_
          refine jz fun X1 hX1 => ?_
          have hB0 := hB0.bel hX1
          have hD4 := hD4.bel hX1
          have hb := bel_next hb hX1
          clear hX1
          go_upto_region 10 with (fail)
          refine jp ?_
          refine jm (st r) ?_
          refine jm (.int .i64 (k : Int)) ?_
          refine jv (.int .u8 ((r.getD k 0).toNat : Int)) (exec_chr _ Tryd.underlying9 _ _ (by rfl) r k (by rfl) (by rfl) (by omega) hlt) ?_
          refine jv (.bool true) (exec_nei _ _ _ _ (by rfl) .u8 ((r.getD k 0).toNat : Int) 47 (by rfl) (by rfl) true (by rw [decide_eq_false (by omega)]; rfl)) ?_
          refine jz fun X2 hX2 => ?_
          have hB0 := hB0.bel hX2
          have hD4 := hD4.bel hX2
          have hb := bel_next hb hX2
          clear hX2
          go_upto_region 9 with (fail)
          refine jp ?_
          refine jm (.int .i64 (k : Int)) ?_
          refine jv (.int .i64 ((k + 1 : Nat) : Int)) (exec_add _ _ _ _ (by rfl) (k : Int) 1 ((k + 1 : Nat) : Int) (by rfl) (by rfl) (by omega) (by omega) (by omega)) ?_
          refine jm (.int .i64 ((k + 1 : Nat) : Int)) ?_
          refine jz fun X3 hX3 => ?_
          have hB0 := hB0.bel hX3
          have hD4 := hD4.bel hX3
          have hb := bel_next hb hX3
          clear hX3
          go_wp2
          go_roundw
          case rel => exact ⟨k + 1, 1, r, rfl, rfl, HLO.out, hD4, hB0, hb⟩
          case measure => simp [intOf]; omega
      · have hse : slash r = r.length := slash_end (fun j hj => hns j (by omega))
        have HDO : Hid (denOk r 1) := by show denOk _ _; unfold denOk; rw [if_pos hse]
        have HM : Hid (r = r.take (slash r)) := by show _ = _; rw [hse, List.take_of_length_le (Nat.le_refl _)]
        have hDp : 0 < 1 := by omega
        have hDl : (be 1).length ≤ 400 := by rw [be_one]; decide
        have hm4 : r.length ≤ 400 := by omega
        clear hse hns
        go_upto_region 8 with (fail)
        refine jp ?_
        refine jm (.int .i64 (k : Int)) ?_
        refine jm (st r) ?_
        refine jv (.int .i64 (r.length : Int)) (exec_lens Tryd.underlying9 _ (by rfl) r (by rfl) _ rfl) ?_
        refine jv (.bool false) (exec_lss _ _ _ _ (by rfl) .i64 (k : Int) (r.length : Int) (by rfl) (by rfl) false (decide_eq_false (by omega))) ?_
        refine jz fun X1 hX1 => ?_
        have hB0 := hB0.bel hX1
        have hD4 := hD4.bel hX1
        have hb := bel_next hb hX1
        clear hX1
        rcases hpk : pok r with _ | _
        · have HPK := Lib.hid hpk
          have HBAD : Hid (parQ s = .tuple #[.agg #[.bool false, .string ⟨#[]⟩, .string ⟨#[]⟩], .int .i64 27]) := parQ_none (fun y hy => by
            have h9 := (told_by hy (HR0.out ▸ HDO.out)).1
            rw [HR0.out, ← HM.out, HPK.out] at h9
            cases h9)
          clear hpk
          go_upto_region 15 with (fail)
          refine jp ?_
          refine jm (st r) ?_
          refine jc (.tuple #[st [], .int .i64 27]) (fun X hX hF => mo (nparseC r X (by first | omega | (simp only [List.length_take, List.length_drop]; omega))) (by rw [parV_f HPK.out])) ?_
          refine jm (.tuple #[st [], .int .i64 27]) ?_
          refine jm (st []) ?_
          refine jm (.int .i64 27) ?_
          refine jm (st []) ?_
          refine jm (.int .i64 27) ?_
          refine jz fun X2 hX2 => ?_
          have hB0 := hB0.bel hX2
          have hD4 := hD4.bel hX2
          have hb := bel_next hb hX2
          clear hX2
          go_upto_region 16 with (fail)
          refine jq 2 ?_
          refine jm (st []) ?_
          refine jn (.pointer (some ⟨g4, 1, none⟩)) ?_
          refine jz fun X3 hX3 => ?_
          have hB0 := hB0.bel hX3
          have hD4 := hD4.bel hX3
          have hb := bel_next hb hX3
          clear hX3
          refine op_store1 rfl g4 1 78 _ hD4 (.string ⟨([] : List UInt8).toArray⟩) (by simp) (fun X u h1 h2 => exec_sts _ _ (by rfl) _ _ (by rfl) (by rfl) u X h1 h2) ?_
          intro w5 hR5 hO5 hB5
          have hb := hB5 _ _ hb (by omega)
          have hB0 := hO5 _ _ _ (by omega) hB0
          have hD4 := hR5
          clear hR5 hO5 hB5
          go_upto_region 17 with (fail)
          refine jq 2 ?_
          refine ja hD4 Tryd.underlying78 (by rfl) info_fr ?_
          refine jc (rt (rN (0 : Rat)) (rP (0 : Rat)) (rD (0 : Rat))) (fun X hX hF => lowQ (0 : Rat) 1000 _ X ⟨true, 0, 1, rfl, hDp, low_zero _ _, by decide, by omega⟩ (by omega)) ?_
          refine jz fun X4 hX4 => ?_
          have hB0 := hB0.bel hX4
          have hD4 := hD4.bel hX4
          have hb := bel_next hb hX4
          clear hX4
          go_upto_region 18 with (refine osn 26 11 66 #[.bool (rN (0 : Rat)), .string ⟨(rP (0 : Rat)).toArray⟩, .string ⟨(rD (0 : Rat)).toArray⟩] info_rat ?_)
          obtain ⟨Y4, hY9, hD11, hS9⟩ := start1 X4 26 [.bool (rN (0 : Rat)), .string ⟨(rP (0 : Rat)).toArray⟩, .string ⟨(rD (0 : Rat)).toArray⟩]
          rw [← hY9]
          clear hY9
          have hgs11 := hb.size
          have hlt11x0 := hB0.lt
          have hlt11x1 := hD4.lt
          have hB0 := hB0.bel hS9
          have hD4 := hD4.bel hS9
          have hb := bel_next hb hS9
          clear hS9
          generalize X4.heap.size = g11 at *
          go_upto_region 18 with (fail)
          refine jp ?_
          refine jm (.int .i64 27) ?_
          refine jv (.bool false) (exec_eqi _ _ _ _ (by rfl) .i64 27 0 (by rfl) (by rfl) false (decide_eq_false (by omega))) ?_
          refine jm (.bool false) ?_
          refine js ?_
          refine js ?_
          refine js ?_
          refine js ?_
          refine jm (.bool false) ?_
          refine jz fun X5 hX5 => ?_
          have hB0 := hB0.bel hX5
          have hD4 := hD4.bel hX5
          have hD11 := hD11.bel hX5
          have hb := bel_next hb hX5
          clear hX5
          go_upto_region 20 with (fail)
          refine jq 1 ?_
          refine jn (rz) ?_
          refine jz fun X6 hX6 => ?_
          have hB0 := hB0.bel hX6
          have hD4 := hD4.bel hX6
          have hD11 := hD11.bel hX6
          have hb := bel_next hb hX6
          clear hX6
          refine osb 26 2 76 w.heap.size 26 hB0 [.bool false, .string ⟨#[]⟩, .string ⟨#[]⟩] info_rat ?_
          intro w9 hR9 hO9 hB9 hs9
          have hb9 := hB9 _ _ hb (by omega)
          clear hO9 hB9
          go_wp2
          refine post_cell2 (v := .int .i64 27) rfl rfl (by rfl) (by rfl) Tryd.underlying26 rfl hR9 info_rat ⟨by rw [HBAD.out], hb9⟩
        · have HPK := Lib.hid hpk
          have hml : (be (dval r)).length ≤ 400 := Nat.le_trans (be_dval9 hpk) hm4
          clear hpk
          have hsx : szR (mkRat (sg true (dval r)) 1) 1000 := isF_sz (X := default) ⟨true, dval r, 1, rfl, hDp, rfl, by omega, by omega⟩
          have hxP := hsx.rP
          have hxD := hsx.rD
          by_cases htx : rtx (mkRat (sg true (dval r)) 1) = s
          · have HTX := Lib.hid htx
            have HOK : Hid (parQ s = .tuple #[rbv (mkRat (sg true (dval r)) 1), .int .i64 0]) := parQ_some htx
            clear htx
            go_upto_region 15 with (fail)
            refine jp ?_
            refine jm (st r) ?_
            refine jc (.tuple #[st (be (dval r)), .int .i64 0]) (fun X hX hF => mo (nparseC r X (by first | omega | (simp only [List.length_take, List.length_drop]; omega))) (by rw [parV_t HPK.out])) ?_
            refine jm (.tuple #[st (be (dval r)), .int .i64 0]) ?_
            refine jm (st (be (dval r))) ?_
            refine jm (.int .i64 0) ?_
            refine jm (st (be (dval r))) ?_
            refine jm (.int .i64 0) ?_
            refine jz fun X2 hX2 => ?_
            have hB0 := hB0.bel hX2
            have hD4 := hD4.bel hX2
            have hb := bel_next hb hX2
            clear hX2
            go_upto_region 16 with (fail)
            refine jq 2 ?_
            refine jm (st (be (dval r))) ?_
            refine jn (.pointer (some ⟨g4, 1, none⟩)) ?_
            refine jz fun X3 hX3 => ?_
            have hB0 := hB0.bel hX3
            have hD4 := hD4.bel hX3
            have hb := bel_next hb hX3
            clear hX3
            refine op_store1 rfl g4 1 78 _ hD4 (.string ⟨(be (dval r)).toArray⟩) (by simp) (fun X u h1 h2 => exec_sts _ _ (by rfl) _ _ (by rfl) (by rfl) u X h1 h2) ?_
            intro w5 hR5 hO5 hB5
            have hb := hB5 _ _ hb (by omega)
            have hB0 := hO5 _ _ _ (by omega) hB0
            have hD4 := hR5
            clear hR5 hO5 hB5
            go_upto_region 17 with (fail)
            refine jq 2 ?_
            refine ja hD4 Tryd.underlying78 (by rfl) info_fr ?_
            refine jc (.agg #[.bool (rN (mkRat (sg true (dval r)) 1)), st (rP (mkRat (sg true (dval r)) 1)), st (rD (mkRat (sg true (dval r)) 1))]) (fun X hX hF => lowQ (mkRat (sg true (dval r)) 1) 1000 _ X ⟨true, dval r, 1, rfl, hDp, rfl, by omega, by omega⟩ (by omega)) ?_
            refine jz fun X4 hX4 => ?_
            have hB0 := hB0.bel hX4
            have hD4 := hD4.bel hX4
            have hb := bel_next hb hX4
            clear hX4
            go_upto_region 18 with (refine osn 26 11 66 #[.bool (rN (mkRat (sg true (dval r)) 1)), .string ⟨(rP (mkRat (sg true (dval r)) 1)).toArray⟩, .string ⟨(rD (mkRat (sg true (dval r)) 1)).toArray⟩] info_rat ?_)
            obtain ⟨Y4, hY9, hD11, hS9⟩ := start1 X4 26 [.bool (rN (mkRat (sg true (dval r)) 1)), .string ⟨(rP (mkRat (sg true (dval r)) 1)).toArray⟩, .string ⟨(rD (mkRat (sg true (dval r)) 1)).toArray⟩]
            rw [← hY9]
            clear hY9
            have hgs11 := hb.size
            have hlt11x0 := hB0.lt
            have hlt11x1 := hD4.lt
            have hB0 := hB0.bel hS9
            have hD4 := hD4.bel hS9
            have hb := bel_next hb hS9
            clear hS9
            generalize X4.heap.size = g11 at *
            go_upto_region 18 with (fail)
            refine jp ?_
            refine jm (.int .i64 0) ?_
            refine jv (.bool true) (exec_eqi _ _ _ _ (by rfl) .i64 0 0 (by rfl) (by rfl) true (decide_eq_true (by omega))) ?_
            refine jm (.bool true) ?_
            refine ja hD11 Tryd.underlying26 (by rfl) info_rat ?_
            refine jc (st (rtx (mkRat (sg true (dval r)) 1))) (fun X hX hF => mo (textQ (rN (mkRat (sg true (dval r)) 1)) (rP (mkRat (sg true (dval r)) 1)) (rD (mkRat (sg true (dval r)) 1)) X (by omega) (by omega)) (by rw [rq_rb])) ?_
            refine jm (st s) ?_
            refine jv (.bool true) (exec_eqsB _ _ _ _ (by rfl) (rtx (mkRat (sg true (dval r)) 1)) s (by rfl) (by rfl) true (eqs_t HTX.out)) ?_
            refine jm (.bool true) ?_
            refine jz fun X5 hX5 => ?_
            have hB0 := hB0.bel hX5
            have hD4 := hD4.bel hX5
            have hD11 := hD11.bel hX5
            have hb := bel_next hb hX5
            clear hX5
            go_upto_region 19 with (fail)
            refine jq 1 ?_
            refine ja hD11 Tryd.underlying26 (by rfl) info_rat ?_
            refine jz fun X6 hX6 => ?_
            have hB0 := hB0.bel hX6
            have hD4 := hD4.bel hX6
            have hD11 := hD11.bel hX6
            have hb := bel_next hb hX6
            clear hX6
            refine osb 26 2 75 w.heap.size 26 hB0 [.bool (rN (mkRat (sg true (dval r)) 1)), .string ⟨(rP (mkRat (sg true (dval r)) 1)).toArray⟩, .string ⟨(rD (mkRat (sg true (dval r)) 1)).toArray⟩] info_rat ?_
            intro w9 hR9 hO9 hB9 hs9
            have hb9 := hB9 _ _ hb (by omega)
            clear hO9 hB9
            go_wp2
            refine post_cell2 (v := .int .i64 0) rfl rfl (by rfl) (by rfl) Tryd.underlying26 rfl hR9 info_rat ⟨by rw [HOK.out], hb9⟩
          · have HTX : Hid (rtx (mkRat (sg true (dval r)) 1) ≠ s) := htx
            have HBAD : Hid (parQ s = .tuple #[.agg #[.bool false, .string ⟨#[]⟩, .string ⟨#[]⟩], .int .i64 27]) := parQ_none (fun y hy => by
              have h9 := (told_by hy (HR0.out ▸ HDO.out)).2
              rw [HR0.out, ← HM.out, HNG.out] at h9
              exact HTX.out (by rw [h9]; exact hy))
            clear htx
            go_upto_region 15 with (fail)
            refine jp ?_
            refine jm (st r) ?_
            refine jc (.tuple #[st (be (dval r)), .int .i64 0]) (fun X hX hF => mo (nparseC r X (by first | omega | (simp only [List.length_take, List.length_drop]; omega))) (by rw [parV_t HPK.out])) ?_
            refine jm (.tuple #[st (be (dval r)), .int .i64 0]) ?_
            refine jm (st (be (dval r))) ?_
            refine jm (.int .i64 0) ?_
            refine jm (st (be (dval r))) ?_
            refine jm (.int .i64 0) ?_
            refine jz fun X2 hX2 => ?_
            have hB0 := hB0.bel hX2
            have hD4 := hD4.bel hX2
            have hb := bel_next hb hX2
            clear hX2
            go_upto_region 16 with (fail)
            refine jq 2 ?_
            refine jm (st (be (dval r))) ?_
            refine jn (.pointer (some ⟨g4, 1, none⟩)) ?_
            refine jz fun X3 hX3 => ?_
            have hB0 := hB0.bel hX3
            have hD4 := hD4.bel hX3
            have hb := bel_next hb hX3
            clear hX3
            refine op_store1 rfl g4 1 78 _ hD4 (.string ⟨(be (dval r)).toArray⟩) (by simp) (fun X u h1 h2 => exec_sts _ _ (by rfl) _ _ (by rfl) (by rfl) u X h1 h2) ?_
            intro w5 hR5 hO5 hB5
            have hb := hB5 _ _ hb (by omega)
            have hB0 := hO5 _ _ _ (by omega) hB0
            have hD4 := hR5
            clear hR5 hO5 hB5
            go_upto_region 17 with (fail)
            refine jq 2 ?_
            refine ja hD4 Tryd.underlying78 (by rfl) info_fr ?_
            refine jc (.agg #[.bool (rN (mkRat (sg true (dval r)) 1)), st (rP (mkRat (sg true (dval r)) 1)), st (rD (mkRat (sg true (dval r)) 1))]) (fun X hX hF => lowQ (mkRat (sg true (dval r)) 1) 1000 _ X ⟨true, dval r, 1, rfl, hDp, rfl, by omega, by omega⟩ (by omega)) ?_
            refine jz fun X4 hX4 => ?_
            have hB0 := hB0.bel hX4
            have hD4 := hD4.bel hX4
            have hb := bel_next hb hX4
            clear hX4
            go_upto_region 18 with (refine osn 26 11 66 #[.bool (rN (mkRat (sg true (dval r)) 1)), .string ⟨(rP (mkRat (sg true (dval r)) 1)).toArray⟩, .string ⟨(rD (mkRat (sg true (dval r)) 1)).toArray⟩] info_rat ?_)
            obtain ⟨Y4, hY9, hD11, hS9⟩ := start1 X4 26 [.bool (rN (mkRat (sg true (dval r)) 1)), .string ⟨(rP (mkRat (sg true (dval r)) 1)).toArray⟩, .string ⟨(rD (mkRat (sg true (dval r)) 1)).toArray⟩]
            rw [← hY9]
            clear hY9
            have hgs11 := hb.size
            have hlt11x0 := hB0.lt
            have hlt11x1 := hD4.lt
            have hB0 := hB0.bel hS9
            have hD4 := hD4.bel hS9
            have hb := bel_next hb hS9
            clear hS9
            generalize X4.heap.size = g11 at *
            go_upto_region 18 with (fail)
            refine jp ?_
            refine jm (.int .i64 0) ?_
            refine jv (.bool true) (exec_eqi _ _ _ _ (by rfl) .i64 0 0 (by rfl) (by rfl) true (decide_eq_true (by omega))) ?_
            refine jm (.bool true) ?_
            refine ja hD11 Tryd.underlying26 (by rfl) info_rat ?_
            refine jc (st (rtx (mkRat (sg true (dval r)) 1))) (fun X hX hF => mo (textQ (rN (mkRat (sg true (dval r)) 1)) (rP (mkRat (sg true (dval r)) 1)) (rD (mkRat (sg true (dval r)) 1)) X (by omega) (by omega)) (by rw [rq_rb])) ?_
            refine jm (st s) ?_
            refine jv (.bool false) (exec_eqsB _ _ _ _ (by rfl) (rtx (mkRat (sg true (dval r)) 1)) s (by rfl) (by rfl) false (eqs_f HTX.out)) ?_
            refine jm (.bool false) ?_
            refine jz fun X5 hX5 => ?_
            have hB0 := hB0.bel hX5
            have hD4 := hD4.bel hX5
            have hD11 := hD11.bel hX5
            have hb := bel_next hb hX5
            clear hX5
            go_upto_region 20 with (fail)
            refine jq 1 ?_
            refine jn (rz) ?_
            refine jz fun X6 hX6 => ?_
            have hB0 := hB0.bel hX6
            have hD4 := hD4.bel hX6
            have hD11 := hD11.bel hX6
            have hb := bel_next hb hX6
            clear hX6
            refine osb 26 2 76 w.heap.size 26 hB0 [.bool false, .string ⟨#[]⟩, .string ⟨#[]⟩] info_rat ?_
            intro w9 hR9 hO9 hB9 hs9
            have hb9 := hB9 _ _ hb (by omega)
            clear hO9 hB9
            go_wp2
            refine post_cell2 (v := .int .i64 27) rfl rfl (by rfl) (by rfl) Tryd.underlying26 rfl hR9 info_rat ⟨by rw [HBAD.out], hb9⟩
    · have HDO : Hid (denOk r D) := hdo
      have HM : Hid (m = r.take (slash r)) := hme
      have hml2 : m.length ≤ slash r := by rw [hme, List.length_take]; omega
      have hDp := denOk_pos hdo
      have hm4 : m.length ≤ 400 := by omega
      have hDl : (be D).length ≤ 400 := denOk_len hdo (by omega)
      clear hme hdo
      go_upto_region 8 with (fail)
      refine jp ?_
      refine jm (.int .i64 ((slash r + 1 : Nat) : Int)) ?_
      refine jm (st m) ?_
      refine jv (.int .i64 (m.length : Int)) (exec_lens Tryd.underlying9 _ (by rfl) m (by rfl) _ rfl) ?_
      refine jv (.bool false) (exec_lss _ _ _ _ (by rfl) .i64 ((slash r + 1 : Nat) : Int) (m.length : Int) (by rfl) (by rfl) false (decide_eq_false (by omega))) ?_
      refine jz fun X1 hX1 => ?_
      have hB0 := hB0.bel hX1
      have hD4 := hD4.bel hX1
      have hb := bel_next hb hX1
      clear hX1
      rcases hpk : pok m with _ | _
      · have HPK := Lib.hid hpk
        have HBAD : Hid (parQ s = .tuple #[.agg #[.bool false, .string ⟨#[]⟩, .string ⟨#[]⟩], .int .i64 27]) := parQ_none (fun y hy => by
          have h9 := (told_by hy (HR0.out ▸ HDO.out)).1
          rw [HR0.out, ← HM.out, HPK.out] at h9
          cases h9)
        clear hpk
        go_upto_region 15 with (fail)
        refine jp ?_
        refine jm (st m) ?_
        refine jc (.tuple #[st [], .int .i64 27]) (fun X hX hF => mo (nparseC m X (by first | omega | (simp only [List.length_take, List.length_drop]; omega))) (by rw [parV_f HPK.out])) ?_
        refine jm (.tuple #[st [], .int .i64 27]) ?_
        refine jm (st []) ?_
        refine jm (.int .i64 27) ?_
        refine jm (st []) ?_
        refine jm (.int .i64 27) ?_
        refine jz fun X2 hX2 => ?_
        have hB0 := hB0.bel hX2
        have hD4 := hD4.bel hX2
        have hb := bel_next hb hX2
        clear hX2
        go_upto_region 16 with (fail)
        refine jq 2 ?_
        refine jm (st []) ?_
        refine jn (.pointer (some ⟨g4, 1, none⟩)) ?_
        refine jz fun X3 hX3 => ?_
        have hB0 := hB0.bel hX3
        have hD4 := hD4.bel hX3
        have hb := bel_next hb hX3
        clear hX3
        refine op_store1 rfl g4 1 78 _ hD4 (.string ⟨([] : List UInt8).toArray⟩) (by simp) (fun X u h1 h2 => exec_sts _ _ (by rfl) _ _ (by rfl) (by rfl) u X h1 h2) ?_
        intro w5 hR5 hO5 hB5
        have hb := hB5 _ _ hb (by omega)
        have hB0 := hO5 _ _ _ (by omega) hB0
        have hD4 := hR5
        clear hR5 hO5 hB5
        go_upto_region 17 with (fail)
        refine jq 2 ?_
        refine ja hD4 Tryd.underlying78 (by rfl) info_fr ?_
        refine jc (rt (rN (0 : Rat)) (rP (0 : Rat)) (rD (0 : Rat))) (fun X hX hF => lowQ (0 : Rat) 1000 _ X ⟨true, 0, D, rfl, hDp, low_zero _ _, by decide, by omega⟩ (by omega)) ?_
        refine jz fun X4 hX4 => ?_
        have hB0 := hB0.bel hX4
        have hD4 := hD4.bel hX4
        have hb := bel_next hb hX4
        clear hX4
        go_upto_region 18 with (refine osn 26 11 66 #[.bool (rN (0 : Rat)), .string ⟨(rP (0 : Rat)).toArray⟩, .string ⟨(rD (0 : Rat)).toArray⟩] info_rat ?_)
        obtain ⟨Y4, hY9, hD11, hS9⟩ := start1 X4 26 [.bool (rN (0 : Rat)), .string ⟨(rP (0 : Rat)).toArray⟩, .string ⟨(rD (0 : Rat)).toArray⟩]
        rw [← hY9]
        clear hY9
        have hgs11 := hb.size
        have hlt11x0 := hB0.lt
        have hlt11x1 := hD4.lt
        have hB0 := hB0.bel hS9
        have hD4 := hD4.bel hS9
        have hb := bel_next hb hS9
        clear hS9
        generalize X4.heap.size = g11 at *
        go_upto_region 18 with (fail)
        refine jp ?_
        refine jm (.int .i64 27) ?_
        refine jv (.bool false) (exec_eqi _ _ _ _ (by rfl) .i64 27 0 (by rfl) (by rfl) false (decide_eq_false (by omega))) ?_
        refine jm (.bool false) ?_
        refine js ?_
        refine js ?_
        refine js ?_
        refine js ?_
        refine jm (.bool false) ?_
        refine jz fun X5 hX5 => ?_
        have hB0 := hB0.bel hX5
        have hD4 := hD4.bel hX5
        have hD11 := hD11.bel hX5
        have hb := bel_next hb hX5
        clear hX5
        go_upto_region 20 with (fail)
        refine jq 1 ?_
        refine jn (rz) ?_
        refine jz fun X6 hX6 => ?_
        have hB0 := hB0.bel hX6
        have hD4 := hD4.bel hX6
        have hD11 := hD11.bel hX6
        have hb := bel_next hb hX6
        clear hX6
        refine osb 26 2 76 w.heap.size 26 hB0 [.bool false, .string ⟨#[]⟩, .string ⟨#[]⟩] info_rat ?_
        intro w9 hR9 hO9 hB9 hs9
        have hb9 := hB9 _ _ hb (by omega)
        clear hO9 hB9
        go_wp2
        refine post_cell2 (v := .int .i64 27) rfl rfl (by rfl) (by rfl) Tryd.underlying26 rfl hR9 info_rat ⟨by rw [HBAD.out], hb9⟩
      · have HPK := Lib.hid hpk
        have hml : (be (dval m)).length ≤ 400 := Nat.le_trans (be_dval9 hpk) hm4
        clear hpk
        have hsx : szR (mkRat (sg true (dval m)) D) 1000 := isF_sz (X := default) ⟨true, dval m, D, rfl, hDp, rfl, by omega, by omega⟩
        have hxP := hsx.rP
        have hxD := hsx.rD
        by_cases htx : rtx (mkRat (sg true (dval m)) D) = s
        · have HTX := Lib.hid htx
          have HOK : Hid (parQ s = .tuple #[rbv (mkRat (sg true (dval m)) D), .int .i64 0]) := parQ_some htx
          clear htx
          go_upto_region 15 with (fail)
          refine jp ?_
          refine jm (st m) ?_
          refine jc (.tuple #[st (be (dval m)), .int .i64 0]) (fun X hX hF => mo (nparseC m X (by first | omega | (simp only [List.length_take, List.length_drop]; omega))) (by rw [parV_t HPK.out])) ?_
          refine jm (.tuple #[st (be (dval m)), .int .i64 0]) ?_
          refine jm (st (be (dval m))) ?_
          refine jm (.int .i64 0) ?_
          refine jm (st (be (dval m))) ?_
          refine jm (.int .i64 0) ?_
          refine jz fun X2 hX2 => ?_
          have hB0 := hB0.bel hX2
          have hD4 := hD4.bel hX2
          have hb := bel_next hb hX2
          clear hX2
          go_upto_region 16 with (fail)
          refine jq 2 ?_
          refine jm (st (be (dval m))) ?_
          refine jn (.pointer (some ⟨g4, 1, none⟩)) ?_
          refine jz fun X3 hX3 => ?_
          have hB0 := hB0.bel hX3
          have hD4 := hD4.bel hX3
          have hb := bel_next hb hX3
          clear hX3
          refine op_store1 rfl g4 1 78 _ hD4 (.string ⟨(be (dval m)).toArray⟩) (by simp) (fun X u h1 h2 => exec_sts _ _ (by rfl) _ _ (by rfl) (by rfl) u X h1 h2) ?_
          intro w5 hR5 hO5 hB5
          have hb := hB5 _ _ hb (by omega)
          have hB0 := hO5 _ _ _ (by omega) hB0
          have hD4 := hR5
          clear hR5 hO5 hB5
          go_upto_region 17 with (fail)
          refine jq 2 ?_
          refine ja hD4 Tryd.underlying78 (by rfl) info_fr ?_
          refine jc (.agg #[.bool (rN (mkRat (sg true (dval m)) D)), st (rP (mkRat (sg true (dval m)) D)), st (rD (mkRat (sg true (dval m)) D))]) (fun X hX hF => lowQ (mkRat (sg true (dval m)) D) 1000 _ X ⟨true, dval m, D, rfl, hDp, rfl, by omega, by omega⟩ (by omega)) ?_
          refine jz fun X4 hX4 => ?_
          have hB0 := hB0.bel hX4
          have hD4 := hD4.bel hX4
          have hb := bel_next hb hX4
          clear hX4
          go_upto_region 18 with (refine osn 26 11 66 #[.bool (rN (mkRat (sg true (dval m)) D)), .string ⟨(rP (mkRat (sg true (dval m)) D)).toArray⟩, .string ⟨(rD (mkRat (sg true (dval m)) D)).toArray⟩] info_rat ?_)
          obtain ⟨Y4, hY9, hD11, hS9⟩ := start1 X4 26 [.bool (rN (mkRat (sg true (dval m)) D)), .string ⟨(rP (mkRat (sg true (dval m)) D)).toArray⟩, .string ⟨(rD (mkRat (sg true (dval m)) D)).toArray⟩]
          rw [← hY9]
          clear hY9
          have hgs11 := hb.size
          have hlt11x0 := hB0.lt
          have hlt11x1 := hD4.lt
          have hB0 := hB0.bel hS9
          have hD4 := hD4.bel hS9
          have hb := bel_next hb hS9
          clear hS9
          generalize X4.heap.size = g11 at *
          go_upto_region 18 with (fail)
          refine jp ?_
          refine jm (.int .i64 0) ?_
          refine jv (.bool true) (exec_eqi _ _ _ _ (by rfl) .i64 0 0 (by rfl) (by rfl) true (decide_eq_true (by omega))) ?_
          refine jm (.bool true) ?_
          refine ja hD11 Tryd.underlying26 (by rfl) info_rat ?_
          refine jc (st (rtx (mkRat (sg true (dval m)) D))) (fun X hX hF => mo (textQ (rN (mkRat (sg true (dval m)) D)) (rP (mkRat (sg true (dval m)) D)) (rD (mkRat (sg true (dval m)) D)) X (by omega) (by omega)) (by rw [rq_rb])) ?_
          refine jm (st s) ?_
          refine jv (.bool true) (exec_eqsB _ _ _ _ (by rfl) (rtx (mkRat (sg true (dval m)) D)) s (by rfl) (by rfl) true (eqs_t HTX.out)) ?_
          refine jm (.bool true) ?_
          refine jz fun X5 hX5 => ?_
          have hB0 := hB0.bel hX5
          have hD4 := hD4.bel hX5
          have hD11 := hD11.bel hX5
          have hb := bel_next hb hX5
          clear hX5
          go_upto_region 19 with (fail)
          refine jq 1 ?_
          refine ja hD11 Tryd.underlying26 (by rfl) info_rat ?_
          refine jz fun X6 hX6 => ?_
          have hB0 := hB0.bel hX6
          have hD4 := hD4.bel hX6
          have hD11 := hD11.bel hX6
          have hb := bel_next hb hX6
          clear hX6
          refine osb 26 2 75 w.heap.size 26 hB0 [.bool (rN (mkRat (sg true (dval m)) D)), .string ⟨(rP (mkRat (sg true (dval m)) D)).toArray⟩, .string ⟨(rD (mkRat (sg true (dval m)) D)).toArray⟩] info_rat ?_
          intro w9 hR9 hO9 hB9 hs9
          have hb9 := hB9 _ _ hb (by omega)
          clear hO9 hB9
          go_wp2
          refine post_cell2 (v := .int .i64 0) rfl rfl (by rfl) (by rfl) Tryd.underlying26 rfl hR9 info_rat ⟨by rw [HOK.out], hb9⟩
        · have HTX : Hid (rtx (mkRat (sg true (dval m)) D) ≠ s) := htx
          have HBAD : Hid (parQ s = .tuple #[.agg #[.bool false, .string ⟨#[]⟩, .string ⟨#[]⟩], .int .i64 27]) := parQ_none (fun y hy => by
            have h9 := (told_by hy (HR0.out ▸ HDO.out)).2
            rw [HR0.out, ← HM.out, HNG.out] at h9
            exact HTX.out (by rw [h9]; exact hy))
          clear htx
          go_upto_region 15 with (fail)
          refine jp ?_
          refine jm (st m) ?_
          refine jc (.tuple #[st (be (dval m)), .int .i64 0]) (fun X hX hF => mo (nparseC m X (by first | omega | (simp only [List.length_take, List.length_drop]; omega))) (by rw [parV_t HPK.out])) ?_
          refine jm (.tuple #[st (be (dval m)), .int .i64 0]) ?_
          refine jm (st (be (dval m))) ?_
          refine jm (.int .i64 0) ?_
          refine jm (st (be (dval m))) ?_
          refine jm (.int .i64 0) ?_
          refine jz fun X2 hX2 => ?_
          have hB0 := hB0.bel hX2
          have hD4 := hD4.bel hX2
          have hb := bel_next hb hX2
          clear hX2
          go_upto_region 16 with (fail)
          refine jq 2 ?_
          refine jm (st (be (dval m))) ?_
          refine jn (.pointer (some ⟨g4, 1, none⟩)) ?_
          refine jz fun X3 hX3 => ?_
          have hB0 := hB0.bel hX3
          have hD4 := hD4.bel hX3
          have hb := bel_next hb hX3
          clear hX3
          refine op_store1 rfl g4 1 78 _ hD4 (.string ⟨(be (dval m)).toArray⟩) (by simp) (fun X u h1 h2 => exec_sts _ _ (by rfl) _ _ (by rfl) (by rfl) u X h1 h2) ?_
          intro w5 hR5 hO5 hB5
          have hb := hB5 _ _ hb (by omega)
          have hB0 := hO5 _ _ _ (by omega) hB0
          have hD4 := hR5
          clear hR5 hO5 hB5
          go_upto_region 17 with (fail)
          refine jq 2 ?_
          refine ja hD4 Tryd.underlying78 (by rfl) info_fr ?_
          refine jc (.agg #[.bool (rN (mkRat (sg true (dval m)) D)), st (rP (mkRat (sg true (dval m)) D)), st (rD (mkRat (sg true (dval m)) D))]) (fun X hX hF => lowQ (mkRat (sg true (dval m)) D) 1000 _ X ⟨true, dval m, D, rfl, hDp, rfl, by omega, by omega⟩ (by omega)) ?_
          refine jz fun X4 hX4 => ?_
          have hB0 := hB0.bel hX4
          have hD4 := hD4.bel hX4
          have hb := bel_next hb hX4
          clear hX4
          go_upto_region 18 with (refine osn 26 11 66 #[.bool (rN (mkRat (sg true (dval m)) D)), .string ⟨(rP (mkRat (sg true (dval m)) D)).toArray⟩, .string ⟨(rD (mkRat (sg true (dval m)) D)).toArray⟩] info_rat ?_)
          obtain ⟨Y4, hY9, hD11, hS9⟩ := start1 X4 26 [.bool (rN (mkRat (sg true (dval m)) D)), .string ⟨(rP (mkRat (sg true (dval m)) D)).toArray⟩, .string ⟨(rD (mkRat (sg true (dval m)) D)).toArray⟩]
          rw [← hY9]
          clear hY9
          have hgs11 := hb.size
          have hlt11x0 := hB0.lt
          have hlt11x1 := hD4.lt
          have hB0 := hB0.bel hS9
          have hD4 := hD4.bel hS9
          have hb := bel_next hb hS9
          clear hS9
          generalize X4.heap.size = g11 at *
          go_upto_region 18 with (fail)
          refine jp ?_
          refine jm (.int .i64 0) ?_
          refine jv (.bool true) (exec_eqi _ _ _ _ (by rfl) .i64 0 0 (by rfl) (by rfl) true (decide_eq_true (by omega))) ?_
          refine jm (.bool true) ?_
          refine ja hD11 Tryd.underlying26 (by rfl) info_rat ?_
          refine jc (st (rtx (mkRat (sg true (dval m)) D))) (fun X hX hF => mo (textQ (rN (mkRat (sg true (dval m)) D)) (rP (mkRat (sg true (dval m)) D)) (rD (mkRat (sg true (dval m)) D)) X (by omega) (by omega)) (by rw [rq_rb])) ?_
          refine jm (st s) ?_
          refine jv (.bool false) (exec_eqsB _ _ _ _ (by rfl) (rtx (mkRat (sg true (dval m)) D)) s (by rfl) (by rfl) false (eqs_f HTX.out)) ?_
          refine jm (.bool false) ?_
          refine jz fun X5 hX5 => ?_
          have hB0 := hB0.bel hX5
          have hD4 := hD4.bel hX5
          have hD11 := hD11.bel hX5
          have hb := bel_next hb hX5
          clear hX5
          go_upto_region 20 with (fail)
          refine jq 1 ?_
          refine jn (rz) ?_
          refine jz fun X6 hX6 => ?_
          have hB0 := hB0.bel hX6
          have hD4 := hD4.bel hX6
          have hD11 := hD11.bel hX6
          have hb := bel_next hb hX6
          clear hX6
          refine osb 26 2 76 w.heap.size 26 hB0 [.bool false, .string ⟨#[]⟩, .string ⟨#[]⟩] info_rat ?_
          intro w9 hR9 hO9 hB9 hs9
          have hb9 := hB9 _ _ hb (by omega)
          clear hO9 hB9
          go_wp2
          refine post_cell2 (v := .int .i64 27) rfl rfl (by rfl) (by rfl) Tryd.underlying26 rfl hR9 info_rat ⟨by rw [HBAD.out], hb9⟩

set_option maxHeartbeats 4000000 in
theorem parseP (s : List UInt8) (w : World) (hs : s.length ≤ 400) (hps : 0 < s.length) (hc0 : ¬ (s.getD 0 0).toNat = 45) : Calls Tryd.prog 15 #[.string ⟨s.toArray⟩] w fun e w' => e = .returned (parQ s) ∧ Since w w' := by
  have hpos : 0 < s.length := hps
  have HNE : Hid (s ≠ []) := fun h9 => by rw [h9] at hps; exact absurd hps (by decide)
  have hc1 : (s.getD 0 0).toNat < 45 ∨ 45 < (s.getD 0 0).toNat := by omega
  have HNG : Hid (ngS s = false) := decide_eq_false (fun h9 => hc0 h9.2)
  have HR0 : Hid (r0S s = s) := by show _ = _; unfold r0S; rw [HNG.out, if_neg (by decide)]
  clear hc0 hps
  go_enter Tryd.func15, Tryd.ntmps15
  go_upto_region 1 with (fail)
  obtain ⟨W0, hW0, hB0, hb⟩ := start1 w 26 [.bool false, .string ⟨#[]⟩, .string ⟨#[]⟩]
  rw [← hW0]
  clear hW0
  refine jp ?_
  refine jm (st s) ?_
  refine jv (.int .i64 (s.length : Int)) (exec_lens Tryd.underlying9 _ (by rfl) s (by rfl) _ rfl) ?_
  refine jv (.bool false) (exec_gtr _ _ _ _ (by rfl) .i64 (s.length : Int) 400 (by rfl) (by rfl) false (decide_eq_false (by omega))) ?_
  refine jz fun X1 hX1 => ?_
  have hB0 := hB0.bel hX1
  have hb := bel_next hb hX1
  clear hX1
  go_upto_region 3 with (fail)
  refine jq 1 ?_
  refine jn (rt false [] ([1] : List UInt8)) ?_
  refine jz fun X2 hX2 => ?_
  have hB0 := hB0.bel hX2
  have hb := bel_next hb hX2
  clear hX2
  go_upto_region 4 with (refine osn 78 4 16 #[.bool false, .string ⟨([] : List UInt8).toArray⟩, .string ⟨([1] : List UInt8).toArray⟩] info_fr ?_)
  obtain ⟨Y2, hY9, hD4, hS9⟩ := start1 X2 78 [.bool false, .string ⟨([] : List UInt8).toArray⟩, .string ⟨([1] : List UInt8).toArray⟩]
  rw [← hY9]
  clear hY9
  have hgs4 := hb.size
  have hlt4x0 := hB0.lt
  have hB0 := hB0.bel hS9
  have hb := bel_next hb hS9
  clear hS9
  generalize X2.heap.size = g4 at *
  refine jp ?_
  refine jm (st s) ?_
  refine jm (st s) ?_
  refine jz fun X3 hX3 => ?_
  have hB0 := hB0.bel hX3
  have hD4 := hD4.bel hX3
  have hb := bel_next hb hX3
  clear hX3
  go_upto_region 5 with (fail)
  refine jp ?_
  refine jm (st s) ?_
  refine jv (.bool true) (exec_nesB _ _ _ _ (by rfl) s ([] : List UInt8) (by rfl) (by rfl) true (nes_t HNE.out)) ?_
  refine jm (.bool true) ?_
  refine jm (st s) ?_
  refine jv (.int .u8 ((s.getD 0 0).toNat : Int)) (exec_chr _ Tryd.underlying9 _ _ (by rfl) s 0 (by rfl) (by rfl) (by omega) hpos) ?_
  refine jv (.bool false) (exec_eqi _ _ _ _ (by rfl) .u8 ((s.getD 0 0).toNat : Int) 45 (by rfl) (by rfl) false (decide_eq_false (by omega))) ?_
  refine jm (.bool false) ?_
  refine jz fun X4 hX4 => ?_
  have hB0 := hB0.bel hX4
  have hD4 := hD4.bel hX4
  have hb := bel_next hb hX4
  clear hX4
  go_upto_region 7 with (fail)
  refine jp ?_
  refine jm (.int .i64 0) ?_
  refine jz fun X5 hX5 => ?_
  have hB0 := hB0.bel hX5
  have hD4 := hD4.bel hX5
  have hb := bel_next hb hX5
  clear hX5
  have hD4 : Blk X5 g4 78 [.bool false, .string ⟨([] : List UInt8).toArray⟩, .string ⟨(be 1).toArray⟩] := by rw [be_one]; exact hD4
  go_wp2
  go_loopw [5, 6] (fun rv kv wr => ∃ (k D : Nat) (m : List UInt8), rv = .string ⟨m.toArray⟩ ∧ kv = .int .i64 (k : Int) ∧ LoopOk s k D m ∧ Blk wr g4 78 [.bool false, .string ⟨([] : List UInt8).toArray⟩, .string ⟨(be D).toArray⟩] ∧ Blk wr w.heap.size 26 [.bool false, .string ⟨#[]⟩, .string ⟨#[]⟩] ∧ Below w.heap.size w wr) (fun rv kv _ => (match rv with | .string s => s.data.toList.length | _ => 0) - (intOf kv).toNat)
  case atStart => exact ⟨0, 1, s, rfl, rfl, .inl ⟨rfl, rfl, Nat.zero_le _, fun j hj => absurd hj (by omega)⟩, hD4, hB0, hb⟩
  case round =>
    clear hD4 hB0 hb
    obtain ⟨k, D, m, rfl, rfl, hlo, hD4, hB0, hb⟩ := hrel
    rcases hlo with ⟨hmr, rfl, hk, hns⟩ | ⟨hsl, hme, rfl, hdo⟩
    · have hmr := hmr.symm
      subst hmr
      rcases Nat.lt_or_ge k s.length with hlt | hlt
      · by_cases hc : (s.getD k 0).toNat = 47
        · have hsk := slash_eq hlt hc hns
          have hc1 : (s.getD k 0).toNat ≤ 47 ∧ 47 ≤ (s.getD k 0).toNat := by omega
          clear hc
          rcases hpk : pok (s.drop (k + 1)) with _ | _
          · have HPK := Lib.hid hpk
            have HBAD : Hid (parQ s = .tuple #[.agg #[.bool false, .string ⟨#[]⟩, .string ⟨#[]⟩], .int .i64 27]) := parQ_none (fun y hy => by
            have h9 := told_den hy (by rw [HR0.out, hsk]; omega)
            rw [HR0.out, hsk] at h9
            rw [hpk] at h9; exact absurd h9.1 (by decide))
            clear hpk hsk
            go_upto_region 8 with (fail)
            refine jp ?_
            refine jm (.int .i64 (k : Int)) ?_
            refine jm (st s) ?_
            refine jv (.int .i64 (s.length : Int)) (exec_lens Tryd.underlying9 _ (by rfl) s (by rfl) _ rfl) ?_
            refine jv (.bool true) (exec_lss _ _ _ _ (by rfl) .i64 (k : Int) (s.length : Int) (by rfl) (by rfl) true (decide_eq_true (by omega))) ?_
            refine jz fun X1 hX1 => ?_
            have hB0 := hB0.bel hX1
            have hD4 := hD4.bel hX1
            have hb := bel_next hb hX1
            clear hX1
            go_upto_region 10 with (fail)
            refine jp ?_
            refine jm (st s) ?_
            refine jm (.int .i64 (k : Int)) ?_
            refine jv (.int .u8 ((s.getD k 0).toNat : Int)) (exec_chr _ Tryd.underlying9 _ _ (by rfl) s k (by rfl) (by rfl) (by omega) hlt) ?_
            refine jv (.bool false) (exec_nei _ _ _ _ (by rfl) .u8 ((s.getD k 0).toNat : Int) 47 (by rfl) (by rfl) false (by rw [decide_eq_true (by omega)]; rfl)) ?_
            refine jz fun X2 hX2 => ?_
            have hB0 := hB0.bel hX2
            have hD4 := hD4.bel hX2
            have hb := bel_next hb hX2
            clear hX2
            go_upto_region 11 with (fail)
            refine jp ?_
            refine jm (st s) ?_
            refine jm (.int .i64 (k : Int)) ?_
            refine jv (.int .i64 ((k + 1 : Nat) : Int)) (exec_add _ _ _ _ (by rfl) (k : Int) 1 ((k + 1 : Nat) : Int) (by rfl) (by rfl) (by omega) (by omega) (by omega)) ?_
            refine jv (st (s.drop (k + 1))) (exec_frm _ Tryd.underlying9 _ _ (by rfl) s (k + 1) (by rfl) (by rfl) (by omega) hlt) ?_
            refine jc (.tuple #[st [], .int .i64 27]) (fun X hX hF => mo (nparseC (s.drop (k + 1)) X (by first | omega | (simp only [List.length_take, List.length_drop]; omega))) (by rw [parV_f HPK.out])) ?_
            refine jm (.tuple #[st [], .int .i64 27]) ?_
            refine jm (st []) ?_
            refine jm (.int .i64 27) ?_
            refine jm (st []) ?_
            refine jm (.int .i64 27) ?_
            refine jz fun X3 hX3 => ?_
            have hB0 := hB0.bel hX3
            have hD4 := hD4.bel hX3
            have hb := bel_next hb hX3
            clear hX3
            go_upto_region 12 with (fail)
            refine jp ?_
            refine jm (.int .i64 27) ?_
            refine jv (.bool true) (exec_nei _ _ _ _ (by rfl) .i64 27 0 (by rfl) (by rfl) true (by rw [decide_eq_false (by omega)]; rfl)) ?_
            refine jm (.bool true) ?_
            refine js ?_
            refine js ?_
            refine jm (.bool true) ?_
            refine jz fun X4 hX4 => ?_
            have hB0 := hB0.bel hX4
            have hD4 := hD4.bel hX4
            have hb := bel_next hb hX4
            clear hX4
            go_upto_region 13 with (fail)
            refine jq 1 ?_
            refine jn (rz) ?_
            refine jz fun X5 hX5 => ?_
            have hB0 := hB0.bel hX5
            have hD4 := hD4.bel hX5
            have hb := bel_next hb hX5
            clear hX5
            refine osb 26 2 52 w.heap.size 26 hB0 [.bool false, .string ⟨#[]⟩, .string ⟨#[]⟩] info_rat ?_
            intro w9 hR9 hO9 hB9 hs9
            have hb9 := hB9 _ _ hb (by omega)
            clear hO9 hB9
            go_wp2
            refine post_cell2 (v := .int .i64 27) rfl rfl (by rfl) (by rfl) Tryd.underlying26 rfl hR9 info_rat ⟨by rw [HBAD.out], hb9⟩
          · have HPK := Lib.hid hpk
            have hdl := be_dval9 hpk
            rcases Nat.eq_zero_or_pos (dval (s.drop (k + 1))) with h0 | h0
            · have HZE : Hid (be (dval (s.drop (k + 1))) = []) := be_nil.2 h0
              have HBAD : Hid (parQ s = .tuple #[.agg #[.bool false, .string ⟨#[]⟩, .string ⟨#[]⟩], .int .i64 27]) := parQ_none (fun y hy => by
            have h9 := told_den hy (by rw [HR0.out, hsk]; omega)
            rw [HR0.out, hsk] at h9
            omega)
              clear hpk hsk h0
              go_upto_region 8 with (fail)
              refine jp ?_
              refine jm (.int .i64 (k : Int)) ?_
              refine jm (st s) ?_
              refine jv (.int .i64 (s.length : Int)) (exec_lens Tryd.underlying9 _ (by rfl) s (by rfl) _ rfl) ?_
              refine jv (.bool true) (exec_lss _ _ _ _ (by rfl) .i64 (k : Int) (s.length : Int) (by rfl) (by rfl) true (decide_eq_true (by omega))) ?_
              refine jz fun X1 hX1 => ?_
              have hB0 := hB0.bel hX1
              have hD4 := hD4.bel hX1
              have hb := bel_next hb hX1
              clear hX1
              go_upto_region 10 with (fail)
              refine jp ?_
              refine jm (st s) ?_
              refine jm (.int .i64 (k : Int)) ?_
              refine jv (.int .u8 ((s.getD k 0).toNat : Int)) (exec_chr _ Tryd.underlying9 _ _ (by rfl) s k (by rfl) (by rfl) (by omega) hlt) ?_
              refine jv (.bool false) (exec_nei _ _ _ _ (by rfl) .u8 ((s.getD k 0).toNat : Int) 47 (by rfl) (by rfl) false (by rw [decide_eq_true (by omega)]; rfl)) ?_
              refine jz fun X2 hX2 => ?_
              have hB0 := hB0.bel hX2
              have hD4 := hD4.bel hX2
              have hb := bel_next hb hX2
              clear hX2
              go_upto_region 11 with (fail)
              refine jp ?_
              refine jm (st s) ?_
              refine jm (.int .i64 (k : Int)) ?_
              refine jv (.int .i64 ((k + 1 : Nat) : Int)) (exec_add _ _ _ _ (by rfl) (k : Int) 1 ((k + 1 : Nat) : Int) (by rfl) (by rfl) (by omega) (by omega) (by omega)) ?_
              refine jv (st (s.drop (k + 1))) (exec_frm _ Tryd.underlying9 _ _ (by rfl) s (k + 1) (by rfl) (by rfl) (by omega) hlt) ?_
              refine jc (.tuple #[st (be (dval (s.drop (k + 1)))), .int .i64 0]) (fun X hX hF => mo (nparseC (s.drop (k + 1)) X (by first | omega | (simp only [List.length_take, List.length_drop]; omega))) (by rw [parV_t HPK.out])) ?_
              refine jm (.tuple #[st (be (dval (s.drop (k + 1)))), .int .i64 0]) ?_
              refine jm (st (be (dval (s.drop (k + 1))))) ?_
              refine jm (.int .i64 0) ?_
              refine jm (st (be (dval (s.drop (k + 1))))) ?_
              refine jm (.int .i64 0) ?_
              refine jz fun X3 hX3 => ?_
              have hB0 := hB0.bel hX3
              have hD4 := hD4.bel hX3
              have hb := bel_next hb hX3
              clear hX3
              go_upto_region 12 with (fail)
              refine jp ?_
              refine jm (.int .i64 0) ?_
              refine jv (.bool false) (exec_nei _ _ _ _ (by rfl) .i64 0 0 (by rfl) (by rfl) false (by rw [decide_eq_true (by omega)]; rfl)) ?_
              refine jm (.bool false) ?_
              refine jm (st (be (dval (s.drop (k + 1))))) ?_
              refine jv (.bool true) (exec_eqsB _ _ _ _ (by rfl) (be (dval (s.drop (k + 1)))) ([] : List UInt8) (by rfl) (by rfl) true (eqs_t HZE.out)) ?_
              refine jm (.bool true) ?_
              refine jz fun X4 hX4 => ?_
              have hB0 := hB0.bel hX4
              have hD4 := hD4.bel hX4
              have hb := bel_next hb hX4
              clear hX4
              go_upto_region 13 with (fail)
              refine jq 1 ?_
              refine jn (rz) ?_
              refine jz fun X5 hX5 => ?_
              have hB0 := hB0.bel hX5
              have hD4 := hD4.bel hX5
              have hb := bel_next hb hX5
              clear hX5
              refine osb 26 2 52 w.heap.size 26 hB0 [.bool false, .string ⟨#[]⟩, .string ⟨#[]⟩] info_rat ?_
              intro w9 hR9 hO9 hB9 hs9
              have hb9 := hB9 _ _ hb (by omega)
              clear hO9 hB9
              go_wp2
              refine post_cell2 (v := .int .i64 27) rfl rfl (by rfl) (by rfl) Tryd.underlying26 rfl hR9 info_rat ⟨by rw [HBAD.out], hb9⟩
            · have HZE : Hid (be (dval (s.drop (k + 1))) ≠ []) := be_ne h0
              have HLO : Hid (LoopOk s (k + 1) (dval (s.drop (k + 1))) (s.take k)) := .inr ⟨by rw [hsk]; exact hlt, by rw [hsk], by rw [hsk], by unfold denOk; rw [hsk, if_neg (by omega)]; exact ⟨hpk, rfl, h0⟩⟩
              clear hpk hsk h0
              go_upto_region 8 with (fail)
              refine jp ?_
              refine jm (.int .i64 (k : Int)) ?_
              refine jm (st s) ?_
              refine jv (.int .i64 (s.length : Int)) (exec_lens Tryd.underlying9 _ (by rfl) s (by rfl) _ rfl) ?_
              refine jv (.bool true) (exec_lss _ _ _ _ (by rfl) .i64 (k : Int) (s.length : Int) (by rfl) (by rfl) true (decide_eq_true (by omega))) ?_
              refine jz fun X1 hX1 => ?_
              have hB0 := hB0.bel hX1
              have hD4 := hD4.bel hX1
              have hb := bel_next hb hX1
              clear hX1
              go_upto_region 10 with (fail)
              refine jp ?_
              refine jm (st s) ?_
              refine jm (.int .i64 (k : Int)) ?_
              refine jv (.int .u8 ((s.getD k 0).toNat : Int)) (exec_chr _ Tryd.underlying9 _ _ (by rfl) s k (by rfl) (by rfl) (by omega) hlt) ?_
              refine jv (.bool false) (exec_nei _ _ _ _ (by rfl) .u8 ((s.getD k 0).toNat : Int) 47 (by rfl) (by rfl) false (by rw [decide_eq_true (by omega)]; rfl)) ?_
              refine jz fun X2 hX2 => ?_
              have hB0 := hB0.bel hX2
              have hD4 := hD4.bel hX2
              have hb := bel_next hb hX2
              clear hX2
              go_upto_region 11 with (fail)
              refine jp ?_
              refine jm (st s) ?_
              refine jm (.int .i64 (k : Int)) ?_
              refine jv (.int .i64 ((k + 1 : Nat) : Int)) (exec_add _ _ _ _ (by rfl) (k : Int) 1 ((k + 1 : Nat) : Int) (by rfl) (by rfl) (by omega) (by omega) (by omega)) ?_
              refine jv (st (s.drop (k + 1))) (exec_frm _ Tryd.underlying9 _ _ (by rfl) s (k + 1) (by rfl) (by rfl) (by omega) hlt) ?_
              refine jc (.tuple #[st (be (dval (s.drop (k + 1)))), .int .i64 0]) (fun X hX hF => mo (nparseC (s.drop (k + 1)) X (by first | omega | (simp only [List.length_take, List.length_drop]; omega))) (by rw [parV_t HPK.out])) ?_
              refine jm (.tuple #[st (be (dval (s.drop (k + 1)))), .int .i64 0]) ?_
              refine jm (st (be (dval (s.drop (k + 1))))) ?_
              refine jm (.int .i64 0) ?_
              refine jm (st (be (dval (s.drop (k + 1))))) ?_
              refine jm (.int .i64 0) ?_
              refine jz fun X3 hX3 => ?_
              have hB0 := hB0.bel hX3
              have hD4 := hD4.bel hX3
              have hb := bel_next hb hX3
              clear hX3
              go_upto_region 12 with (fail)
              refine jp ?_
              refine jm (.int .i64 0) ?_
              refine jv (.bool false) (exec_nei _ _ _ _ (by rfl) .i64 0 0 (by rfl) (by rfl) false (by rw [decide_eq_true (by omega)]; rfl)) ?_
              refine jm (.bool false) ?_
              refine jm (st (be (dval (s.drop (k + 1))))) ?_
              refine jv (.bool false) (exec_eqsB _ _ _ _ (by rfl) (be (dval (s.drop (k + 1)))) ([] : List UInt8) (by rfl) (by rfl) false (eqs_f HZE.out)) ?_
              refine jm (.bool false) ?_
              refine jz fun X4 hX4 => ?_
              have hB0 := hB0.bel hX4
              have hD4 := hD4.bel hX4
              have hb := bel_next hb hX4
              clear hX4
              go_upto_region 14 with (fail)
              refine lx_region_st g4 78 [.bool false, .string ⟨([] : List UInt8).toArray⟩, .string ⟨(be 1).toArray⟩] [.bool false, .string ⟨([] : List UInt8).toArray⟩, .string ⟨(be (dval (s.drop (k + 1)))).toArray⟩] (List.replicate 5 none ++ [some (fun _ X => Blk X g4 78 [.bool false, .string ⟨([] : List UInt8).toArray⟩, .string ⟨(be (dval (s.drop (k + 1)))).toArray⟩])]) (by kernel_rfl) (by kernel_rfl) turns_one ?_
              simp only [its, List.replicate, List.cons_append, List.nil_append, Nat.zero_add, Nat.reduceAdd]
              refine jm (st (be (dval (s.drop (k + 1))))) ?_
              refine jm (st s) ?_
              refine jm (.int .i64 (k : Int)) ?_
              refine jv (st (s.take k)) (exec_cut _ Tryd.underlying9 _ _ (by rfl) s k (by rfl) (by rfl) (by omega) (by omega)) ?_
              refine jn (.pointer (some ⟨g4, 2, none⟩)) ?_
              refine lx_store (by rfl) 9 _ _ (by rfl) rfl 2 (by rfl) (.string ⟨(be (dval (s.drop (k + 1)))).toArray⟩) (by rfl) hD4 rfl (by simp) (fun X u h1 h2 => exec_sts _ _ (by rfl) _ _ (by rfl) (by rfl) u X h1 h2) ?_
              refine jm (st (s.take k)) ?_
              refine lx_nil ?_
              intro X5 hX5 hF
              have hS := hF _ _ List.mem_cons_self
              have hb := hX5.below hb hb.size (by omega)
              have hB0 := Turns.blk hX5 hB0 (by omega)
              have hD4 := hS
              clear hF hS hX5
              go_upto_region 9 with (fail)
              refine jp ?_
              refine jm (.int .i64 (k : Int)) ?_
              refine jv (.int .i64 ((k + 1 : Nat) : Int)) (exec_add _ _ _ _ (by rfl) (k : Int) 1 ((k + 1 : Nat) : Int) (by rfl) (by rfl) (by omega) (by omega) (by omega)) ?_
              refine jm (.int .i64 ((k + 1 : Nat) : Int)) ?_
              refine jz fun X6 hX6 => ?_
              have hB0 := hB0.bel hX6
              have hD4 := hD4.bel hX6
              have hb := bel_next hb hX6
              clear hX6
              go_wp2
              go_roundw
              case rel => exact ⟨k + 1, dval (s.drop (k + 1)), s.take k, rfl, rfl, HLO.out, hD4, hB0, hb⟩
              case measure => simp [intOf]; omega
        · have HLO : Hid (LoopOk s (k + 1) 1 s) := .inl ⟨rfl, rfl, hlt, fun j hj => by
            rcases Nat.lt_or_ge j k with h | h
            · exact hns j h
            · rw [show j = k by omega]; exact hc⟩
          have hc1 : (s.getD k 0).toNat < 47 ∨ 47 < (s.getD k 0).toNat := by omega
          clear hc
          go_upto_region 8 with (fail)
          refine jp ?_
          refine jm (.int .i64 (k : Int)) ?_
          refine jm (st s) ?_
          refine jv (.int .i64 (s.length : Int)) (exec_lens Tryd.underlying9 _ (by rfl) s (by rfl) _ rfl) ?_
          refine jv (.bool true) (exec_lss _ _ _ _ (by rfl) .i64 (k : Int) (s.length : Int) (by rfl) (by rfl) true (decide_eq_true (by omega))) ?_
          refine jz fun X1 hX1 => ?_
          have hB0 := hB0.bel hX1
          have hD4 := hD4.bel hX1
          have hb := bel_next hb hX1
          clear hX1
          go_upto_region 10 with (fail)
          refine jp ?_
          refine jm (st s) ?_
          refine jm (.int .i64 (k : Int)) ?_
          refine jv (.int .u8 ((s.getD k 0).toNat : Int)) (exec_chr _ Tryd.underlying9 _ _ (by rfl) s k (by rfl) (by rfl) (by omega) hlt) ?_
          refine jv (.bool true) (exec_nei _ _ _ _ (by rfl) .u8 ((s.getD k 0).toNat : Int) 47 (by rfl) (by rfl) true (by rw [decide_eq_false (by omega)]; rfl)) ?_
          refine jz fun X2 hX2 => ?_
          have hB0 := hB0.bel hX2
          have hD4 := hD4.bel hX2
          have hb := bel_next hb hX2
          clear hX2
          go_upto_region 9 with (fail)
          refine jp ?_
          refine jm (.int .i64 (k : Int)) ?_
          refine jv (.int .i64 ((k + 1 : Nat) : Int)) (exec_add _ _ _ _ (by rfl) (k : Int) 1 ((k + 1 : Nat) : Int) (by rfl) (by rfl) (by omega) (by omega) (by omega)) ?_
          refine jm (.int .i64 ((k + 1 : Nat) : Int)) ?_
          refine jz fun X3 hX3 => ?_
          have hB0 := hB0.bel hX3
          have hD4 := hD4.bel hX3
          have hb := bel_next hb hX3
          clear hX3
          go_wp2
          go_roundw
          case rel => exact ⟨k + 1, 1, s, rfl, rfl, HLO.out, hD4, hB0, hb⟩
          case measure => simp [intOf]; omega
      · have hse : slash s = s.length := slash_end (fun j hj => hns j (by omega))
        have HDO : Hid (denOk s 1) := by show denOk _ _; unfold denOk; rw [if_pos hse]
        have HM : Hid (s = s.take (slash s)) := by show _ = _; rw [hse, List.take_of_length_le (Nat.le_refl _)]
        have hDp : 0 < 1 := by omega
        have hDl : (be 1).length ≤ 400 := by rw [be_one]; decide
        have hm4 : s.length ≤ 400 := by omega
        clear hse hns
        go_upto_region 8 with (fail)
        refine jp ?_
        refine jm (.int .i64 (k : Int)) ?_
        refine jm (st s) ?_
        refine jv (.int .i64 (s.length : Int)) (exec_lens Tryd.underlying9 _ (by rfl) s (by rfl) _ rfl) ?_
        refine jv (.bool false) (exec_lss _ _ _ _ (by rfl) .i64 (k : Int) (s.length : Int) (by rfl) (by rfl) false (decide_eq_false (by omega))) ?_
        refine jz fun X1 hX1 => ?_
        have hB0 := hB0.bel hX1
        have hD4 := hD4.bel hX1
        have hb := bel_next hb hX1
        clear hX1
        rcases hpk : pok s with _ | _
        · have HPK := Lib.hid hpk
          have HBAD : Hid (parQ s = .tuple #[.agg #[.bool false, .string ⟨#[]⟩, .string ⟨#[]⟩], .int .i64 27]) := parQ_none (fun y hy => by
            have h9 := (told_by hy (HR0.out ▸ HDO.out)).1
            rw [HR0.out, ← HM.out, HPK.out] at h9
            cases h9)
          clear hpk
          go_upto_region 15 with (fail)
          refine jp ?_
          refine jm (st s) ?_
          refine jc (.tuple #[st [], .int .i64 27]) (fun X hX hF => mo (nparseC s X (by first | omega | (simp only [List.length_take, List.length_drop]; omega))) (by rw [parV_f HPK.out])) ?_
          refine jm (.tuple #[st [], .int .i64 27]) ?_
          refine jm (st []) ?_
          refine jm (.int .i64 27) ?_
          refine jm (st []) ?_
          refine jm (.int .i64 27) ?_
          refine jz fun X2 hX2 => ?_
          have hB0 := hB0.bel hX2
          have hD4 := hD4.bel hX2
          have hb := bel_next hb hX2
          clear hX2
          go_upto_region 16 with (fail)
          refine jq 2 ?_
          refine jm (st []) ?_
          refine jn (.pointer (some ⟨g4, 1, none⟩)) ?_
          refine jz fun X3 hX3 => ?_
          have hB0 := hB0.bel hX3
          have hD4 := hD4.bel hX3
          have hb := bel_next hb hX3
          clear hX3
          refine op_store1 rfl g4 1 78 _ hD4 (.string ⟨([] : List UInt8).toArray⟩) (by simp) (fun X u h1 h2 => exec_sts _ _ (by rfl) _ _ (by rfl) (by rfl) u X h1 h2) ?_
          intro w5 hR5 hO5 hB5
          have hb := hB5 _ _ hb (by omega)
          have hB0 := hO5 _ _ _ (by omega) hB0
          have hD4 := hR5
          clear hR5 hO5 hB5
          go_upto_region 17 with (fail)
          refine jq 2 ?_
          refine ja hD4 Tryd.underlying78 (by rfl) info_fr ?_
          refine jc (rt (rN (0 : Rat)) (rP (0 : Rat)) (rD (0 : Rat))) (fun X hX hF => lowQ (0 : Rat) 1000 _ X ⟨false, 0, 1, rfl, hDp, low_zero _ _, by decide, by omega⟩ (by omega)) ?_
          refine jz fun X4 hX4 => ?_
          have hB0 := hB0.bel hX4
          have hD4 := hD4.bel hX4
          have hb := bel_next hb hX4
          clear hX4
          go_upto_region 18 with (refine osn 26 11 66 #[.bool (rN (0 : Rat)), .string ⟨(rP (0 : Rat)).toArray⟩, .string ⟨(rD (0 : Rat)).toArray⟩] info_rat ?_)
          obtain ⟨Y4, hY9, hD11, hS9⟩ := start1 X4 26 [.bool (rN (0 : Rat)), .string ⟨(rP (0 : Rat)).toArray⟩, .string ⟨(rD (0 : Rat)).toArray⟩]
          rw [← hY9]
          clear hY9
          have hgs11 := hb.size
          have hlt11x0 := hB0.lt
          have hlt11x1 := hD4.lt
          have hB0 := hB0.bel hS9
          have hD4 := hD4.bel hS9
          have hb := bel_next hb hS9
          clear hS9
          generalize X4.heap.size = g11 at *
          go_upto_region 18 with (fail)
          refine jp ?_
          refine jm (.int .i64 27) ?_
          refine jv (.bool false) (exec_eqi _ _ _ _ (by rfl) .i64 27 0 (by rfl) (by rfl) false (decide_eq_false (by omega))) ?_
          refine jm (.bool false) ?_
          refine js ?_
          refine js ?_
          refine js ?_
          refine js ?_
          refine jm (.bool false) ?_
          refine jz fun X5 hX5 => ?_
          have hB0 := hB0.bel hX5
          have hD4 := hD4.bel hX5
          have hD11 := hD11.bel hX5
          have hb := bel_next hb hX5
          clear hX5
          go_upto_region 20 with (fail)
          refine jq 1 ?_
          refine jn (rz) ?_
          refine jz fun X6 hX6 => ?_
          have hB0 := hB0.bel hX6
          have hD4 := hD4.bel hX6
          have hD11 := hD11.bel hX6
          have hb := bel_next hb hX6
          clear hX6
          refine osb 26 2 76 w.heap.size 26 hB0 [.bool false, .string ⟨#[]⟩, .string ⟨#[]⟩] info_rat ?_
          intro w9 hR9 hO9 hB9 hs9
          have hb9 := hB9 _ _ hb (by omega)
          clear hO9 hB9
          go_wp2
          refine post_cell2 (v := .int .i64 27) rfl rfl (by rfl) (by rfl) Tryd.underlying26 rfl hR9 info_rat ⟨by rw [HBAD.out], hb9⟩
        · have HPK := Lib.hid hpk
          have hml : (be (dval s)).length ≤ 400 := Nat.le_trans (be_dval9 hpk) hm4
          clear hpk
          have hsx : szR (mkRat (sg false (dval s)) 1) 1000 := isF_sz (X := default) ⟨false, dval s, 1, rfl, hDp, rfl, by omega, by omega⟩
          have hxP := hsx.rP
          have hxD := hsx.rD
          by_cases htx : rtx (mkRat (sg false (dval s)) 1) = s
          · have HTX := Lib.hid htx
            have HOK : Hid (parQ s = .tuple #[rbv (mkRat (sg false (dval s)) 1), .int .i64 0]) := parQ_some htx
            clear htx
            go_upto_region 15 with (fail)
            refine jp ?_
            refine jm (st s) ?_
            refine jc (.tuple #[st (be (dval s)), .int .i64 0]) (fun X hX hF => mo (nparseC s X (by first | omega | (simp only [List.length_take, List.length_drop]; omega))) (by rw [parV_t HPK.out])) ?_
            refine jm (.tuple #[st (be (dval s)), .int .i64 0]) ?_
            refine jm (st (be (dval s))) ?_
            refine jm (.int .i64 0) ?_
            refine jm (st (be (dval s))) ?_
            refine jm (.int .i64 0) ?_
            refine jz fun X2 hX2 => ?_
            have hB0 := hB0.bel hX2
            have hD4 := hD4.bel hX2
            have hb := bel_next hb hX2
            clear hX2
            go_upto_region 16 with (fail)
            refine jq 2 ?_
            refine jm (st (be (dval s))) ?_
            refine jn (.pointer (some ⟨g4, 1, none⟩)) ?_
            refine jz fun X3 hX3 => ?_
            have hB0 := hB0.bel hX3
            have hD4 := hD4.bel hX3
            have hb := bel_next hb hX3
            clear hX3
            refine op_store1 rfl g4 1 78 _ hD4 (.string ⟨(be (dval s)).toArray⟩) (by simp) (fun X u h1 h2 => exec_sts _ _ (by rfl) _ _ (by rfl) (by rfl) u X h1 h2) ?_
            intro w5 hR5 hO5 hB5
            have hb := hB5 _ _ hb (by omega)
            have hB0 := hO5 _ _ _ (by omega) hB0
            have hD4 := hR5
            clear hR5 hO5 hB5
            go_upto_region 17 with (fail)
            refine jq 2 ?_
            refine ja hD4 Tryd.underlying78 (by rfl) info_fr ?_
            refine jc (.agg #[.bool (rN (mkRat (sg false (dval s)) 1)), st (rP (mkRat (sg false (dval s)) 1)), st (rD (mkRat (sg false (dval s)) 1))]) (fun X hX hF => lowQ (mkRat (sg false (dval s)) 1) 1000 _ X ⟨false, dval s, 1, rfl, hDp, rfl, by omega, by omega⟩ (by omega)) ?_
            refine jz fun X4 hX4 => ?_
            have hB0 := hB0.bel hX4
            have hD4 := hD4.bel hX4
            have hb := bel_next hb hX4
            clear hX4
            go_upto_region 18 with (refine osn 26 11 66 #[.bool (rN (mkRat (sg false (dval s)) 1)), .string ⟨(rP (mkRat (sg false (dval s)) 1)).toArray⟩, .string ⟨(rD (mkRat (sg false (dval s)) 1)).toArray⟩] info_rat ?_)
            obtain ⟨Y4, hY9, hD11, hS9⟩ := start1 X4 26 [.bool (rN (mkRat (sg false (dval s)) 1)), .string ⟨(rP (mkRat (sg false (dval s)) 1)).toArray⟩, .string ⟨(rD (mkRat (sg false (dval s)) 1)).toArray⟩]
            rw [← hY9]
            clear hY9
            have hgs11 := hb.size
            have hlt11x0 := hB0.lt
            have hlt11x1 := hD4.lt
            have hB0 := hB0.bel hS9
            have hD4 := hD4.bel hS9
            have hb := bel_next hb hS9
            clear hS9
            generalize X4.heap.size = g11 at *
            go_upto_region 18 with (fail)
            refine jp ?_
            refine jm (.int .i64 0) ?_
            refine jv (.bool true) (exec_eqi _ _ _ _ (by rfl) .i64 0 0 (by rfl) (by rfl) true (decide_eq_true (by omega))) ?_
            refine jm (.bool true) ?_
            refine ja hD11 Tryd.underlying26 (by rfl) info_rat ?_
            refine jc (st (rtx (mkRat (sg false (dval s)) 1))) (fun X hX hF => mo (textQ (rN (mkRat (sg false (dval s)) 1)) (rP (mkRat (sg false (dval s)) 1)) (rD (mkRat (sg false (dval s)) 1)) X (by omega) (by omega)) (by rw [rq_rb])) ?_
            refine jm (st s) ?_
            refine jv (.bool true) (exec_eqsB _ _ _ _ (by rfl) (rtx (mkRat (sg false (dval s)) 1)) s (by rfl) (by rfl) true (eqs_t HTX.out)) ?_
            refine jm (.bool true) ?_
            refine jz fun X5 hX5 => ?_
            have hB0 := hB0.bel hX5
            have hD4 := hD4.bel hX5
            have hD11 := hD11.bel hX5
            have hb := bel_next hb hX5
            clear hX5
            go_upto_region 19 with (fail)
            refine jq 1 ?_
            refine ja hD11 Tryd.underlying26 (by rfl) info_rat ?_
            refine jz fun X6 hX6 => ?_
            have hB0 := hB0.bel hX6
            have hD4 := hD4.bel hX6
            have hD11 := hD11.bel hX6
            have hb := bel_next hb hX6
            clear hX6
            refine osb 26 2 75 w.heap.size 26 hB0 [.bool (rN (mkRat (sg false (dval s)) 1)), .string ⟨(rP (mkRat (sg false (dval s)) 1)).toArray⟩, .string ⟨(rD (mkRat (sg false (dval s)) 1)).toArray⟩] info_rat ?_
            intro w9 hR9 hO9 hB9 hs9
            have hb9 := hB9 _ _ hb (by omega)
            clear hO9 hB9
            go_wp2
            refine post_cell2 (v := .int .i64 0) rfl rfl (by rfl) (by rfl) Tryd.underlying26 rfl hR9 info_rat ⟨by rw [HOK.out], hb9⟩
          · have HTX : Hid (rtx (mkRat (sg false (dval s)) 1) ≠ s) := htx
            have HBAD : Hid (parQ s = .tuple #[.agg #[.bool false, .string ⟨#[]⟩, .string ⟨#[]⟩], .int .i64 27]) := parQ_none (fun y hy => by
              have h9 := (told_by hy (HR0.out ▸ HDO.out)).2
              rw [HR0.out, ← HM.out, HNG.out] at h9
              exact HTX.out (by rw [h9]; exact hy))
            clear htx
            go_upto_region 15 with (fail)
            refine jp ?_
            refine jm (st s) ?_
            refine jc (.tuple #[st (be (dval s)), .int .i64 0]) (fun X hX hF => mo (nparseC s X (by first | omega | (simp only [List.length_take, List.length_drop]; omega))) (by rw [parV_t HPK.out])) ?_
            refine jm (.tuple #[st (be (dval s)), .int .i64 0]) ?_
            refine jm (st (be (dval s))) ?_
            refine jm (.int .i64 0) ?_
            refine jm (st (be (dval s))) ?_
            refine jm (.int .i64 0) ?_
            refine jz fun X2 hX2 => ?_
            have hB0 := hB0.bel hX2
            have hD4 := hD4.bel hX2
            have hb := bel_next hb hX2
            clear hX2
            go_upto_region 16 with (fail)
            refine jq 2 ?_
            refine jm (st (be (dval s))) ?_
            refine jn (.pointer (some ⟨g4, 1, none⟩)) ?_
            refine jz fun X3 hX3 => ?_
            have hB0 := hB0.bel hX3
            have hD4 := hD4.bel hX3
            have hb := bel_next hb hX3
            clear hX3
            refine op_store1 rfl g4 1 78 _ hD4 (.string ⟨(be (dval s)).toArray⟩) (by simp) (fun X u h1 h2 => exec_sts _ _ (by rfl) _ _ (by rfl) (by rfl) u X h1 h2) ?_
            intro w5 hR5 hO5 hB5
            have hb := hB5 _ _ hb (by omega)
            have hB0 := hO5 _ _ _ (by omega) hB0
            have hD4 := hR5
            clear hR5 hO5 hB5
            go_upto_region 17 with (fail)
            refine jq 2 ?_
            refine ja hD4 Tryd.underlying78 (by rfl) info_fr ?_
            refine jc (.agg #[.bool (rN (mkRat (sg false (dval s)) 1)), st (rP (mkRat (sg false (dval s)) 1)), st (rD (mkRat (sg false (dval s)) 1))]) (fun X hX hF => lowQ (mkRat (sg false (dval s)) 1) 1000 _ X ⟨false, dval s, 1, rfl, hDp, rfl, by omega, by omega⟩ (by omega)) ?_
            refine jz fun X4 hX4 => ?_
            have hB0 := hB0.bel hX4
            have hD4 := hD4.bel hX4
            have hb := bel_next hb hX4
            clear hX4
            go_upto_region 18 with (refine osn 26 11 66 #[.bool (rN (mkRat (sg false (dval s)) 1)), .string ⟨(rP (mkRat (sg false (dval s)) 1)).toArray⟩, .string ⟨(rD (mkRat (sg false (dval s)) 1)).toArray⟩] info_rat ?_)
            obtain ⟨Y4, hY9, hD11, hS9⟩ := start1 X4 26 [.bool (rN (mkRat (sg false (dval s)) 1)), .string ⟨(rP (mkRat (sg false (dval s)) 1)).toArray⟩, .string ⟨(rD (mkRat (sg false (dval s)) 1)).toArray⟩]
            rw [← hY9]
            clear hY9
            have hgs11 := hb.size
            have hlt11x0 := hB0.lt
            have hlt11x1 := hD4.lt
            have hB0 := hB0.bel hS9
            have hD4 := hD4.bel hS9
            have hb := bel_next hb hS9
            clear hS9
            generalize X4.heap.size = g11 at *
            go_upto_region 18 with (fail)
            refine jp ?_
            refine jm (.int .i64 0) ?_
            refine jv (.bool true) (exec_eqi _ _ _ _ (by rfl) .i64 0 0 (by rfl) (by rfl) true (decide_eq_true (by omega))) ?_
            refine jm (.bool true) ?_
            refine ja hD11 Tryd.underlying26 (by rfl) info_rat ?_
            refine jc (st (rtx (mkRat (sg false (dval s)) 1))) (fun X hX hF => mo (textQ (rN (mkRat (sg false (dval s)) 1)) (rP (mkRat (sg false (dval s)) 1)) (rD (mkRat (sg false (dval s)) 1)) X (by omega) (by omega)) (by rw [rq_rb])) ?_
            refine jm (st s) ?_
            refine jv (.bool false) (exec_eqsB _ _ _ _ (by rfl) (rtx (mkRat (sg false (dval s)) 1)) s (by rfl) (by rfl) false (eqs_f HTX.out)) ?_
            refine jm (.bool false) ?_
            refine jz fun X5 hX5 => ?_
            have hB0 := hB0.bel hX5
            have hD4 := hD4.bel hX5
            have hD11 := hD11.bel hX5
            have hb := bel_next hb hX5
            clear hX5
            go_upto_region 20 with (fail)
            refine jq 1 ?_
            refine jn (rz) ?_
            refine jz fun X6 hX6 => ?_
            have hB0 := hB0.bel hX6
            have hD4 := hD4.bel hX6
            have hD11 := hD11.bel hX6
            have hb := bel_next hb hX6
            clear hX6
            refine osb 26 2 76 w.heap.size 26 hB0 [.bool false, .string ⟨#[]⟩, .string ⟨#[]⟩] info_rat ?_
            intro w9 hR9 hO9 hB9 hs9
            have hb9 := hB9 _ _ hb (by omega)
            clear hO9 hB9
            go_wp2
            refine post_cell2 (v := .int .i64 27) rfl rfl (by rfl) (by rfl) Tryd.underlying26 rfl hR9 info_rat ⟨by rw [HBAD.out], hb9⟩
    · have HDO : Hid (denOk s D) := hdo
      have HM : Hid (m = s.take (slash s)) := hme
      have hml2 : m.length ≤ slash s := by rw [hme, List.length_take]; omega
      have hDp := denOk_pos hdo
      have hm4 : m.length ≤ 400 := by omega
      have hDl : (be D).length ≤ 400 := denOk_len hdo (by omega)
      clear hme hdo
      go_upto_region 8 with (fail)
      refine jp ?_
      refine jm (.int .i64 ((slash s + 1 : Nat) : Int)) ?_
      refine jm (st m) ?_
      refine jv (.int .i64 (m.length : Int)) (exec_lens Tryd.underlying9 _ (by rfl) m (by rfl) _ rfl) ?_
      refine jv (.bool false) (exec_lss _ _ _ _ (by rfl) .i64 ((slash s + 1 : Nat) : Int) (m.length : Int) (by rfl) (by rfl) false (decide_eq_false (by omega))) ?_
      refine jz fun X1 hX1 => ?_
      have hB0 := hB0.bel hX1
      have hD4 := hD4.bel hX1
      have hb := bel_next hb hX1
      clear hX1
      rcases hpk : pok m with _ | _
      · have HPK := Lib.hid hpk
        have HBAD : Hid (parQ s = .tuple #[.agg #[.bool false, .string ⟨#[]⟩, .string ⟨#[]⟩], .int .i64 27]) := parQ_none (fun y hy => by
          have h9 := (told_by hy (HR0.out ▸ HDO.out)).1
          rw [HR0.out, ← HM.out, HPK.out] at h9
          cases h9)
        clear hpk
        go_upto_region 15 with (fail)
        refine jp ?_
        refine jm (st m) ?_
        refine jc (.tuple #[st [], .int .i64 27]) (fun X hX hF => mo (nparseC m X (by first | omega | (simp only [List.length_take, List.length_drop]; omega))) (by rw [parV_f HPK.out])) ?_
        refine jm (.tuple #[st [], .int .i64 27]) ?_
        refine jm (st []) ?_
        refine jm (.int .i64 27) ?_
        refine jm (st []) ?_
        refine jm (.int .i64 27) ?_
        refine jz fun X2 hX2 => ?_
        have hB0 := hB0.bel hX2
        have hD4 := hD4.bel hX2
        have hb := bel_next hb hX2
        clear hX2
        go_upto_region 16 with (fail)
        refine jq 2 ?_
        refine jm (st []) ?_
        refine jn (.pointer (some ⟨g4, 1, none⟩)) ?_
        refine jz fun X3 hX3 => ?_
        have hB0 := hB0.bel hX3
        have hD4 := hD4.bel hX3
        have hb := bel_next hb hX3
        clear hX3
        refine op_store1 rfl g4 1 78 _ hD4 (.string ⟨([] : List UInt8).toArray⟩) (by simp) (fun X u h1 h2 => exec_sts _ _ (by rfl) _ _ (by rfl) (by rfl) u X h1 h2) ?_
        intro w5 hR5 hO5 hB5
        have hb := hB5 _ _ hb (by omega)
        have hB0 := hO5 _ _ _ (by omega) hB0
        have hD4 := hR5
        clear hR5 hO5 hB5
        go_upto_region 17 with (fail)
        refine jq 2 ?_
        refine ja hD4 Tryd.underlying78 (by rfl) info_fr ?_
        refine jc (rt (rN (0 : Rat)) (rP (0 : Rat)) (rD (0 : Rat))) (fun X hX hF => lowQ (0 : Rat) 1000 _ X ⟨false, 0, D, rfl, hDp, low_zero _ _, by decide, by omega⟩ (by omega)) ?_
        refine jz fun X4 hX4 => ?_
        have hB0 := hB0.bel hX4
        have hD4 := hD4.bel hX4
        have hb := bel_next hb hX4
        clear hX4
        go_upto_region 18 with (refine osn 26 11 66 #[.bool (rN (0 : Rat)), .string ⟨(rP (0 : Rat)).toArray⟩, .string ⟨(rD (0 : Rat)).toArray⟩] info_rat ?_)
        obtain ⟨Y4, hY9, hD11, hS9⟩ := start1 X4 26 [.bool (rN (0 : Rat)), .string ⟨(rP (0 : Rat)).toArray⟩, .string ⟨(rD (0 : Rat)).toArray⟩]
        rw [← hY9]
        clear hY9
        have hgs11 := hb.size
        have hlt11x0 := hB0.lt
        have hlt11x1 := hD4.lt
        have hB0 := hB0.bel hS9
        have hD4 := hD4.bel hS9
        have hb := bel_next hb hS9
        clear hS9
        generalize X4.heap.size = g11 at *
        go_upto_region 18 with (fail)
        refine jp ?_
        refine jm (.int .i64 27) ?_
        refine jv (.bool false) (exec_eqi _ _ _ _ (by rfl) .i64 27 0 (by rfl) (by rfl) false (decide_eq_false (by omega))) ?_
        refine jm (.bool false) ?_
        refine js ?_
        refine js ?_
        refine js ?_
        refine js ?_
        refine jm (.bool false) ?_
        refine jz fun X5 hX5 => ?_
        have hB0 := hB0.bel hX5
        have hD4 := hD4.bel hX5
        have hD11 := hD11.bel hX5
        have hb := bel_next hb hX5
        clear hX5
        go_upto_region 20 with (fail)
        refine jq 1 ?_
        refine jn (rz) ?_
        refine jz fun X6 hX6 => ?_
        have hB0 := hB0.bel hX6
        have hD4 := hD4.bel hX6
        have hD11 := hD11.bel hX6
        have hb := bel_next hb hX6
        clear hX6
        refine osb 26 2 76 w.heap.size 26 hB0 [.bool false, .string ⟨#[]⟩, .string ⟨#[]⟩] info_rat ?_
        intro w9 hR9 hO9 hB9 hs9
        have hb9 := hB9 _ _ hb (by omega)
        clear hO9 hB9
        go_wp2
        refine post_cell2 (v := .int .i64 27) rfl rfl (by rfl) (by rfl) Tryd.underlying26 rfl hR9 info_rat ⟨by rw [HBAD.out], hb9⟩
      · have HPK := Lib.hid hpk
        have hml : (be (dval m)).length ≤ 400 := Nat.le_trans (be_dval9 hpk) hm4
        clear hpk
        have hsx : szR (mkRat (sg false (dval m)) D) 1000 := isF_sz (X := default) ⟨false, dval m, D, rfl, hDp, rfl, by omega, by omega⟩
        have hxP := hsx.rP
        have hxD := hsx.rD
        by_cases htx : rtx (mkRat (sg false (dval m)) D) = s
        · have HTX := Lib.hid htx
          have HOK : Hid (parQ s = .tuple #[rbv (mkRat (sg false (dval m)) D), .int .i64 0]) := parQ_some htx
          clear htx
          go_upto_region 15 with (fail)
          refine jp ?_
          refine jm (st m) ?_
          refine jc (.tuple #[st (be (dval m)), .int .i64 0]) (fun X hX hF => mo (nparseC m X (by first | omega | (simp only [List.length_take, List.length_drop]; omega))) (by rw [parV_t HPK.out])) ?_
          refine jm (.tuple #[st (be (dval m)), .int .i64 0]) ?_
          refine jm (st (be (dval m))) ?_
          refine jm (.int .i64 0) ?_
          refine jm (st (be (dval m))) ?_
          refine jm (.int .i64 0) ?_
          refine jz fun X2 hX2 => ?_
          have hB0 := hB0.bel hX2
          have hD4 := hD4.bel hX2
          have hb := bel_next hb hX2
          clear hX2
          go_upto_region 16 with (fail)
          refine jq 2 ?_
          refine jm (st (be (dval m))) ?_
          refine jn (.pointer (some ⟨g4, 1, none⟩)) ?_
          refine jz fun X3 hX3 => ?_
          have hB0 := hB0.bel hX3
          have hD4 := hD4.bel hX3
          have hb := bel_next hb hX3
          clear hX3
          refine op_store1 rfl g4 1 78 _ hD4 (.string ⟨(be (dval m)).toArray⟩) (by simp) (fun X u h1 h2 => exec_sts _ _ (by rfl) _ _ (by rfl) (by rfl) u X h1 h2) ?_
          intro w5 hR5 hO5 hB5
          have hb := hB5 _ _ hb (by omega)
          have hB0 := hO5 _ _ _ (by omega) hB0
          have hD4 := hR5
          clear hR5 hO5 hB5
          go_upto_region 17 with (fail)
          refine jq 2 ?_
          refine ja hD4 Tryd.underlying78 (by rfl) info_fr ?_
          refine jc (.agg #[.bool (rN (mkRat (sg false (dval m)) D)), st (rP (mkRat (sg false (dval m)) D)), st (rD (mkRat (sg false (dval m)) D))]) (fun X hX hF => lowQ (mkRat (sg false (dval m)) D) 1000 _ X ⟨false, dval m, D, rfl, hDp, rfl, by omega, by omega⟩ (by omega)) ?_
          refine jz fun X4 hX4 => ?_
          have hB0 := hB0.bel hX4
          have hD4 := hD4.bel hX4
          have hb := bel_next hb hX4
          clear hX4
          go_upto_region 18 with (refine osn 26 11 66 #[.bool (rN (mkRat (sg false (dval m)) D)), .string ⟨(rP (mkRat (sg false (dval m)) D)).toArray⟩, .string ⟨(rD (mkRat (sg false (dval m)) D)).toArray⟩] info_rat ?_)
          obtain ⟨Y4, hY9, hD11, hS9⟩ := start1 X4 26 [.bool (rN (mkRat (sg false (dval m)) D)), .string ⟨(rP (mkRat (sg false (dval m)) D)).toArray⟩, .string ⟨(rD (mkRat (sg false (dval m)) D)).toArray⟩]
          rw [← hY9]
          clear hY9
          have hgs11 := hb.size
          have hlt11x0 := hB0.lt
          have hlt11x1 := hD4.lt
          have hB0 := hB0.bel hS9
          have hD4 := hD4.bel hS9
          have hb := bel_next hb hS9
          clear hS9
          generalize X4.heap.size = g11 at *
          go_upto_region 18 with (fail)
          refine jp ?_
          refine jm (.int .i64 0) ?_
          refine jv (.bool true) (exec_eqi _ _ _ _ (by rfl) .i64 0 0 (by rfl) (by rfl) true (decide_eq_true (by omega))) ?_
          refine jm (.bool true) ?_
          refine ja hD11 Tryd.underlying26 (by rfl) info_rat ?_
          refine jc (st (rtx (mkRat (sg false (dval m)) D))) (fun X hX hF => mo (textQ (rN (mkRat (sg false (dval m)) D)) (rP (mkRat (sg false (dval m)) D)) (rD (mkRat (sg false (dval m)) D)) X (by omega) (by omega)) (by rw [rq_rb])) ?_
          refine jm (st s) ?_
          refine jv (.bool true) (exec_eqsB _ _ _ _ (by rfl) (rtx (mkRat (sg false (dval m)) D)) s (by rfl) (by rfl) true (eqs_t HTX.out)) ?_
          refine jm (.bool true) ?_
          refine jz fun X5 hX5 => ?_
          have hB0 := hB0.bel hX5
          have hD4 := hD4.bel hX5
          have hD11 := hD11.bel hX5
          have hb := bel_next hb hX5
          clear hX5
          go_upto_region 19 with (fail)
          refine jq 1 ?_
          refine ja hD11 Tryd.underlying26 (by rfl) info_rat ?_
          refine jz fun X6 hX6 => ?_
          have hB0 := hB0.bel hX6
          have hD4 := hD4.bel hX6
          have hD11 := hD11.bel hX6
          have hb := bel_next hb hX6
          clear hX6
          refine osb 26 2 75 w.heap.size 26 hB0 [.bool (rN (mkRat (sg false (dval m)) D)), .string ⟨(rP (mkRat (sg false (dval m)) D)).toArray⟩, .string ⟨(rD (mkRat (sg false (dval m)) D)).toArray⟩] info_rat ?_
          intro w9 hR9 hO9 hB9 hs9
          have hb9 := hB9 _ _ hb (by omega)
          clear hO9 hB9
          go_wp2
          refine post_cell2 (v := .int .i64 0) rfl rfl (by rfl) (by rfl) Tryd.underlying26 rfl hR9 info_rat ⟨by rw [HOK.out], hb9⟩
        · have HTX : Hid (rtx (mkRat (sg false (dval m)) D) ≠ s) := htx
          have HBAD : Hid (parQ s = .tuple #[.agg #[.bool false, .string ⟨#[]⟩, .string ⟨#[]⟩], .int .i64 27]) := parQ_none (fun y hy => by
            have h9 := (told_by hy (HR0.out ▸ HDO.out)).2
            rw [HR0.out, ← HM.out, HNG.out] at h9
            exact HTX.out (by rw [h9]; exact hy))
          clear htx
          go_upto_region 15 with (fail)
          refine jp ?_
          refine jm (st m) ?_
          refine jc (.tuple #[st (be (dval m)), .int .i64 0]) (fun X hX hF => mo (nparseC m X (by first | omega | (simp only [List.length_take, List.length_drop]; omega))) (by rw [parV_t HPK.out])) ?_
          refine jm (.tuple #[st (be (dval m)), .int .i64 0]) ?_
          refine jm (st (be (dval m))) ?_
          refine jm (.int .i64 0) ?_
          refine jm (st (be (dval m))) ?_
          refine jm (.int .i64 0) ?_
          refine jz fun X2 hX2 => ?_
          have hB0 := hB0.bel hX2
          have hD4 := hD4.bel hX2
          have hb := bel_next hb hX2
          clear hX2
          go_upto_region 16 with (fail)
          refine jq 2 ?_
          refine jm (st (be (dval m))) ?_
          refine jn (.pointer (some ⟨g4, 1, none⟩)) ?_
          refine jz fun X3 hX3 => ?_
          have hB0 := hB0.bel hX3
          have hD4 := hD4.bel hX3
          have hb := bel_next hb hX3
          clear hX3
          refine op_store1 rfl g4 1 78 _ hD4 (.string ⟨(be (dval m)).toArray⟩) (by simp) (fun X u h1 h2 => exec_sts _ _ (by rfl) _ _ (by rfl) (by rfl) u X h1 h2) ?_
          intro w5 hR5 hO5 hB5
          have hb := hB5 _ _ hb (by omega)
          have hB0 := hO5 _ _ _ (by omega) hB0
          have hD4 := hR5
          clear hR5 hO5 hB5
          go_upto_region 17 with (fail)
          refine jq 2 ?_
          refine ja hD4 Tryd.underlying78 (by rfl) info_fr ?_
          refine jc (.agg #[.bool (rN (mkRat (sg false (dval m)) D)), st (rP (mkRat (sg false (dval m)) D)), st (rD (mkRat (sg false (dval m)) D))]) (fun X hX hF => lowQ (mkRat (sg false (dval m)) D) 1000 _ X ⟨false, dval m, D, rfl, hDp, rfl, by omega, by omega⟩ (by omega)) ?_
          refine jz fun X4 hX4 => ?_
          have hB0 := hB0.bel hX4
          have hD4 := hD4.bel hX4
          have hb := bel_next hb hX4
          clear hX4
          go_upto_region 18 with (refine osn 26 11 66 #[.bool (rN (mkRat (sg false (dval m)) D)), .string ⟨(rP (mkRat (sg false (dval m)) D)).toArray⟩, .string ⟨(rD (mkRat (sg false (dval m)) D)).toArray⟩] info_rat ?_)
          obtain ⟨Y4, hY9, hD11, hS9⟩ := start1 X4 26 [.bool (rN (mkRat (sg false (dval m)) D)), .string ⟨(rP (mkRat (sg false (dval m)) D)).toArray⟩, .string ⟨(rD (mkRat (sg false (dval m)) D)).toArray⟩]
          rw [← hY9]
          clear hY9
          have hgs11 := hb.size
          have hlt11x0 := hB0.lt
          have hlt11x1 := hD4.lt
          have hB0 := hB0.bel hS9
          have hD4 := hD4.bel hS9
          have hb := bel_next hb hS9
          clear hS9
          generalize X4.heap.size = g11 at *
          go_upto_region 18 with (fail)
          refine jp ?_
          refine jm (.int .i64 0) ?_
          refine jv (.bool true) (exec_eqi _ _ _ _ (by rfl) .i64 0 0 (by rfl) (by rfl) true (decide_eq_true (by omega))) ?_
          refine jm (.bool true) ?_
          refine ja hD11 Tryd.underlying26 (by rfl) info_rat ?_
          refine jc (st (rtx (mkRat (sg false (dval m)) D))) (fun X hX hF => mo (textQ (rN (mkRat (sg false (dval m)) D)) (rP (mkRat (sg false (dval m)) D)) (rD (mkRat (sg false (dval m)) D)) X (by omega) (by omega)) (by rw [rq_rb])) ?_
          refine jm (st s) ?_
          refine jv (.bool false) (exec_eqsB _ _ _ _ (by rfl) (rtx (mkRat (sg false (dval m)) D)) s (by rfl) (by rfl) false (eqs_f HTX.out)) ?_
          refine jm (.bool false) ?_
          refine jz fun X5 hX5 => ?_
          have hB0 := hB0.bel hX5
          have hD4 := hD4.bel hX5
          have hD11 := hD11.bel hX5
          have hb := bel_next hb hX5
          clear hX5
          go_upto_region 20 with (fail)
          refine jq 1 ?_
          refine jn (rz) ?_
          refine jz fun X6 hX6 => ?_
          have hB0 := hB0.bel hX6
          have hD4 := hD4.bel hX6
          have hD11 := hD11.bel hX6
          have hb := bel_next hb hX6
          clear hX6
          refine osb 26 2 76 w.heap.size 26 hB0 [.bool false, .string ⟨#[]⟩, .string ⟨#[]⟩] info_rat ?_
          intro w9 hR9 hO9 hB9 hs9
          have hb9 := hB9 _ _ hb (by omega)
          clear hO9 hB9
          go_wp2
          refine post_cell2 (v := .int .i64 27) rfl rfl (by rfl) (by rfl) Tryd.underlying26 rfl hR9 info_rat ⟨by rw [HBAD.out], hb9⟩

end Go.Proofs.YtchhlgcakjjncaaDoor
