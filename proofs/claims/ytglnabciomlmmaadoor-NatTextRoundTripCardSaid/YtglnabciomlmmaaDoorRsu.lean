/-
  The reference: Sub.
-/
import Derived.Test.YtglnabciomlmmaaDoorRad
namespace Go.Proofs.YtglnabciomlmmaaDoor
open Go.RowKit

theorem info_made : (Tryd.prog.info? 29).map (·.size) = some 2 := by kernel_rfl
set_option maxRecDepth 100000 in
set_option maxHeartbeats 1600000 in
theorem rsubE (a b : List UInt8) (w : World) (ha : a.length ≤ 4194304) (hb0 : b.length ≤ 4194304) (hlt : val a < val b) : Calls Tryd.prog 12 #[.string ⟨a.toArray⟩, .string ⟨b.toArray⟩] w fun e w' => e = .returned (.agg #[.string ⟨#[]⟩, .int .i64 3]) ∧ Since w w' := by
  go_enter Tryd.func12, Tryd.ntmps12
  go_upto_region 1 with (fail)
  have hR0 : Blk (w.alloc (.cells #[.string ⟨#[]⟩, .int .i64 0] 29)) w.heap.size 29 [.string ⟨#[]⟩, .int .i64 0] := Blk.new rfl
  have hb : Below w.heap.size w (w.alloc (.cells #[.string ⟨#[]⟩, .int .i64 0] 29)) := (Below.refl _ _).alloc (Nat.le_refl _) _
  generalize w.alloc (.cells #[.string ⟨#[]⟩, .int .i64 0] 29) = W0 at hR0 hb ⊢
  refine lx_plain [] (lasts_nil) ?_
  simp only [its, Nat.zero_add, Nat.reduceAdd]
  refine lx_val (by rfl) (.string ⟨a.toArray⟩) (fun X hX hF => by rfl) ?_
  simp only [Act.put, List.setIfInBounds_toArray, List.set_cons_succ, List.set_cons_zero]
  refine lx_val (by rfl) (.string ⟨b.toArray⟩) (fun X hX hF => by rfl) ?_
  simp only [Act.put, List.setIfInBounds_toArray, List.set_cons_succ, List.set_cons_zero]
  refine lx_call (by rfl) 19 _ _ (by rfl) (.int .i64 (cmpI (val a) (val b))) [.string ⟨a.toArray⟩, .string ⟨b.toArray⟩] (by rfl) (by kernel_rfl) (fun _ => by go_simp) (fun X hX hF => rcmpC a b X (by omega) (by omega)) ?_
  simp only [Act.put, List.setIfInBounds_toArray, List.set_cons_succ, List.set_cons_zero]
  refine lx_val (by rfl) (.bool true) (fun X hX hF => exec_lss _ _ _ _ (by rfl) .i64 (cmpI (val a) (val b)) 0 (by rfl) (by rfl) true (by rw [cmpI_lt (by omega)]; rfl) X) ?_
  simp only [Act.put, List.setIfInBounds_toArray, List.set_cons_succ, List.set_cons_zero]
  refine lx_nil ?_
  intro X1 hX1 hF
  have hR0 := hR0.bel hX1
  have hb := bel_next hb hX1
  clear hF hX1
  go_upto_region 2 with (fail)
  refine lx_plain_to 1 [] (lasts_nil) ?_
  simp only [its, List.take, List.drop, Nat.zero_add, Nat.reduceAdd]
  refine lx_val (by rfl) (.agg #[.string ⟨#[]⟩, .int .i64 3]) (fun X hX hF => by (unfold execOp; go_simp)) ?_
  simp only [Act.put, List.setIfInBounds_toArray, List.set_cons_succ, List.set_cons_zero]
  refine lx_nil ?_
  intro X2 hX2 hF
  have hR0 := hR0.bel hX2
  have hb := bel_next hb hX2
  clear hF hX2
  refine op_store_blk rfl 29 (.tmp 4) (.tmp 13) rfl w.heap.size 29 _ hR0 rfl [.string ⟨#[]⟩, .int .i64 3] rfl (by rfl) (by intro u hu; simp only [List.mem_cons, List.not_mem_nil, or_false] at hu; rcases hu with rfl | rfl <;> rfl) info_made ?_
  intro w9 hR9 hO9 hB9 hs9
  have hb9 := hB9 _ _ hb (Nat.le_refl _)
  clear hO9 hB9
  go_wp2
  refine post_cell rfl rfl (by rfl) Tryd.underlying29 rfl hR9 info_made ⟨rfl, hb9⟩

theorem sub_step0 {ds : List Nat} {a b : List UInt8} {k c n : Nat} (hk : ds.length = k) (h : lo a k + 256 ^ k * c = lvN 256 ds + lo b k) (hn : n + dgt b k + c = dgt a k) :
    lo a (k + 1) + 256 ^ (k + 1) * 0 = lvN 256 (ds ++ [n]) + lo b (k + 1) := by
  rw [lvN_snoc, lo_succ, lo_succ, hk, ← hn, Nat.mul_add, Nat.mul_add]
  omega
theorem sub_step1 {ds : List Nat} {a b : List UInt8} {k c n : Nat} (hk : ds.length = k) (h : lo a k + 256 ^ k * c = lvN 256 ds + lo b k) (hn : n + dgt b k + c = dgt a k + 256) :
    lo a (k + 1) + 256 ^ (k + 1) * 1 = lvN 256 (ds ++ [n]) + lo b (k + 1) := by
  have h1 : 256 ^ k * n + 256 ^ k * dgt b k + 256 ^ k * c = 256 ^ k * dgt a k + 256 ^ k * 256 := by
    rw [← Nat.mul_add, ← Nat.mul_add, hn, Nat.mul_add]
  rw [lvN_snoc, lo_succ, lo_succ, hk, Nat.pow_succ, Nat.mul_one]
  omega
theorem sub_end {ds : List Nat} {a b : List UInt8} {c : Nat} (hd : ∀ d ∈ ds, d < 256) (hk : ds.length = a.length) (h : lo a a.length + 256 ^ a.length * c = lvN 256 ds + lo b a.length) (hle : val b ≤ val a) : lvN 256 ds = val a - val b := by
  have h1 := lvN_lt (B := 256) (by omega) hd
  rw [hk] at h1
  rw [lo_all (Nat.le_refl _), lo_eq (a := b) (Nat.lt_of_le_of_lt hle (val_lt a))] at h
  rcases Nat.eq_zero_or_pos c with hc | hc
  · rw [hc, Nat.mul_zero] at h
    omega
  · have := Nat.mul_le_mul_left (256 ^ a.length) hc
    omega
set_option maxRecDepth 100000 in
set_option maxHeartbeats 1600000 in
theorem rsubC (a b : List UInt8) (w : World) (ha : a.length ≤ 4194304) (hb0 : b.length ≤ 4194304) (hle : val b ≤ val a) : Calls Tryd.prog 12 #[.string ⟨a.toArray⟩, .string ⟨b.toArray⟩] w fun e w' => e = .returned (.agg #[.string ⟨(be (val a - val b)).toArray⟩, .int .i64 0]) ∧ Since w w' := by
  have hcmp : 0 ≤ cmpI (val a) (val b) := by unfold cmpI; rw [if_neg (by omega)]; split <;> omega
  have HLE := Lib.hid hle
  clear hle
  go_enter Tryd.func12, Tryd.ntmps12
  go_upto_region 1 with (fail)
  have hR0 : Blk (w.alloc (.cells #[.string ⟨#[]⟩, .int .i64 0] 29)) w.heap.size 29 [.string ⟨#[]⟩, .int .i64 0] := Blk.new rfl
  have hb : Below w.heap.size w (w.alloc (.cells #[.string ⟨#[]⟩, .int .i64 0] 29)) := (Below.refl _ _).alloc (Nat.le_refl _) _
  generalize w.alloc (.cells #[.string ⟨#[]⟩, .int .i64 0] 29) = W0 at hR0 hb ⊢
  refine lx_plain [] (lasts_nil) ?_
  simp only [its, Nat.zero_add, Nat.reduceAdd]
  refine lx_val (by rfl) (.string ⟨a.toArray⟩) (fun X hX hF => by rfl) ?_
  simp only [Act.put, List.setIfInBounds_toArray, List.set_cons_succ, List.set_cons_zero]
  refine lx_val (by rfl) (.string ⟨b.toArray⟩) (fun X hX hF => by rfl) ?_
  simp only [Act.put, List.setIfInBounds_toArray, List.set_cons_succ, List.set_cons_zero]
  refine lx_call (by rfl) 19 _ _ (by rfl) (.int .i64 (cmpI (val a) (val b))) [.string ⟨a.toArray⟩, .string ⟨b.toArray⟩] (by rfl) (by kernel_rfl) (fun _ => by go_simp) (fun X hX hF => rcmpC a b X (by omega) (by omega)) ?_
  simp only [Act.put, List.setIfInBounds_toArray, List.set_cons_succ, List.set_cons_zero]
  refine lx_val (by rfl) (.bool false) (fun X hX hF => exec_lss _ _ _ _ (by rfl) .i64 (cmpI (val a) (val b)) 0 (by rfl) (by rfl) false (decide_eq_false (by omega)) X) ?_
  simp only [Act.put, List.setIfInBounds_toArray, List.set_cons_succ, List.set_cons_zero]
  refine lx_nil ?_
  intro X1 hX1 hF
  have hR0 := hR0.bel hX1
  have hb := bel_next hb hX1
  clear hF hX1
  generalize cmpI (val a) (val b) = cc at hcmp ⊢
  clear hcmp
  go_wp2
  go_loopw [5, 6, 7] (fun ov cv kv wr => ∃ (k c : Nat) (ds : List Nat), k ≤ a.length ∧ kv = .int .i64 (k : Int) ∧ c ≤ 1 ∧ cv = .int .i64 (c : Int) ∧ ds.length = k ∧ (∀ d ∈ ds, d < 256) ∧ lo a k + 256 ^ k * c = lvN 256 ds + lo b k ∧ wr.ownsRow (w.heap.size + 1) 3 1 ov k (ds.map Ni) ∧ Blk wr w.heap.size 29 [.string ⟨#[]⟩, .int .i64 0] ∧ Below w.heap.size w wr) (fun _ _ kv _ => a.length - (intOf kv).toNat)
  case atStart => exact ⟨0, 0, [], by omega, rfl, by omega, rfl, rfl, (fun d hd => by cases hd), rfl, own_nil _ _ _, hR0, hb⟩
  case round =>
    clear hR0 hb
    obtain ⟨k, c, ds, hk, rfl, hc, rfl, hdl, hdg, hst, hown, hR0, hb⟩ := hrel
    obtain ⟨A1, c1, rfl, hc1, hc1'⟩ := (Rd.of_own hown).form
    have HDL := Lib.hid hdl
    have HDG := Lib.hid hdg
    have HST := Lib.hid hst
    clear hdl hdg hst
    rcases Nat.lt_or_ge k a.length with hlt | hlt
    · have ga := dgt_lt a k
      have gb := dgt_lt b k
      by_cases hn : dgt b k + c ≤ dgt a k
      · obtain ⟨n, hn'⟩ : ∃ n, n + dgt b k + c = dgt a k := ⟨dgt a k - dgt b k - c, by omega⟩
        have HNI : Hid ((dgt a k : Int) - (dgt b k : Int) - (c : Int) = (n : Int)) := by show _ = _; omega
        have HST2 := Lib.hid (sub_step0 HDL.out HST.out hn')
        have HDG2 : Hid (∀ d ∈ ds ++ [n], d < 256) := digits_snoc HDG.out (by omega)
        have HD : Hid (#[Value.int .i64 (n : Int)] = [Ni n].toArray) := rfl
        clear hn'
        go_upto_region 6 with (fail)
        refine lx_plain [] (lasts_nil) ?_
        simp only [its, Nat.zero_add, Nat.reduceAdd]
        refine lx_val (by rfl) (.int .i64 (k : Int)) (fun X hX hF => by rfl) ?_
        simp only [Act.put, List.setIfInBounds_toArray, List.set_cons_succ, List.set_cons_zero]
        refine lx_val (by rfl) (.string ⟨a.toArray⟩) (fun X hX hF => by rfl) ?_
        simp only [Act.put, List.setIfInBounds_toArray, List.set_cons_succ, List.set_cons_zero]
        refine lx_val (by rfl) (.int .i64 (a.length : Int)) (fun X hX hF => exec_lens Tryd.underlying9 _ (by rfl) a (by rfl) _ rfl X) ?_
        simp only [Act.put, List.setIfInBounds_toArray, List.set_cons_succ, List.set_cons_zero]
        refine lx_val (by rfl) (.bool true) (fun X hX hF => exec_lss _ _ _ _ (by rfl) .i64 (k : Int) (a.length : Int) (by rfl) (by rfl) true (decide_eq_true (by omega)) X) ?_
        simp only [Act.put, List.setIfInBounds_toArray, List.set_cons_succ, List.set_cons_zero]
        refine lx_nil ?_
        intro X1 hX1 hF
        have hown := own_below hown hX1
        have hR0 := hR0.bel hX1
        have hb := bel_next hb hX1
        clear hF hX1
        go_upto_region 8 with (fail)
        refine lx_plain [] (lasts_nil) ?_
        simp only [its, Nat.zero_add, Nat.reduceAdd]
        refine lx_val (by rfl) (.string ⟨a.toArray⟩) (fun X hX hF => by rfl) ?_
        simp only [Act.put, List.setIfInBounds_toArray, List.set_cons_succ, List.set_cons_zero]
        refine lx_val (by rfl) (.int .i64 (k : Int)) (fun X hX hF => by rfl) ?_
        simp only [Act.put, List.setIfInBounds_toArray, List.set_cons_succ, List.set_cons_zero]
        refine lx_call (by rfl) 39 _ _ (by rfl) (.int .i64 (dgt a k : Int)) [.string ⟨a.toArray⟩, .int .i64 (k : Int)] (by rfl) (by kernel_rfl) (fun _ => by go_simp) (fun X hX hF => rdigitC a k X (by omega)) ?_
        simp only [Act.put, List.setIfInBounds_toArray, List.set_cons_succ, List.set_cons_zero]
        refine lx_val (by rfl) (.string ⟨b.toArray⟩) (fun X hX hF => by rfl) ?_
        simp only [Act.put, List.setIfInBounds_toArray, List.set_cons_succ, List.set_cons_zero]
        refine lx_val (by rfl) (.int .i64 (k : Int)) (fun X hX hF => by rfl) ?_
        simp only [Act.put, List.setIfInBounds_toArray, List.set_cons_succ, List.set_cons_zero]
        refine lx_call (by rfl) 39 _ _ (by rfl) (.int .i64 (dgt b k : Int)) [.string ⟨b.toArray⟩, .int .i64 (k : Int)] (by rfl) (by kernel_rfl) (fun _ => by go_simp) (fun X hX hF => rdigitC b k X (by omega)) ?_
        simp only [Act.put, List.setIfInBounds_toArray, List.set_cons_succ, List.set_cons_zero]
        refine lx_val (by rfl) (.int .i64 ((dgt a k : Int) - (dgt b k : Int))) (fun X hX hF => exec_sub _ _ _ _ (by rfl) (dgt a k : Int) (dgt b k : Int) ((dgt a k : Int) - (dgt b k : Int)) (by rfl) (by rfl) (by omega) (by omega) (by omega) X) ?_
        simp only [Act.put, List.setIfInBounds_toArray, List.set_cons_succ, List.set_cons_zero]
        refine lx_val (by rfl) (.int .i64 (c : Int)) (fun X hX hF => by rfl) ?_
        simp only [Act.put, List.setIfInBounds_toArray, List.set_cons_succ, List.set_cons_zero]
        refine lx_val (by rfl) (.int .i64 (((dgt a k : Int) - (dgt b k : Int)) - (c : Int))) (fun X hX hF => exec_sub _ _ _ _ (by rfl) ((dgt a k : Int) - (dgt b k : Int)) (c : Int) (((dgt a k : Int) - (dgt b k : Int)) - (c : Int)) (by rfl) (by rfl) (by omega) (by omega) (by omega) X) ?_
        simp only [Act.put, List.setIfInBounds_toArray, List.set_cons_succ, List.set_cons_zero]
        refine lx_val (by rfl) (.int .i64 (((dgt a k : Int) - (dgt b k : Int)) - (c : Int))) (fun X hX hF => by rfl) ?_
        simp only [Act.put, List.setIfInBounds_toArray, List.set_cons_succ, List.set_cons_zero]
        refine lx_nil ?_
        intro X2 hX2 hF
        have hown := own_below hown hX2
        have hR0 := hR0.bel hX2
        have hb := bel_next hb hX2
        clear hF hX2
        go_upto_region 9 with (fail)
        refine lx_plain [] (lasts_nil) ?_
        simp only [its, Nat.zero_add, Nat.reduceAdd]
        refine lx_val (by rfl) (.int .i64 0) (fun X hX hF => by rfl) ?_
        simp only [Act.put, List.setIfInBounds_toArray, List.set_cons_succ, List.set_cons_zero]
        refine lx_nil ?_
        intro X3 hX3 hF
        have hown := own_below hown hX3
        have hR0 := hR0.bel hX3
        have hb := bel_next hb hX3
        clear hF hX3
        go_upto_region 10 with (fail)
        refine lx_plain [] (lasts_nil) ?_
        simp only [its, Nat.zero_add, Nat.reduceAdd]
        refine lx_val (by rfl) (.int .i64 (((dgt a k : Int) - (dgt b k : Int)) - (c : Int))) (fun X hX hF => by rfl) ?_
        simp only [Act.put, List.setIfInBounds_toArray, List.set_cons_succ, List.set_cons_zero]
        refine lx_val (by rfl) (.bool false) (fun X hX hF => exec_lss _ _ _ _ (by rfl) .i64 (((dgt a k : Int) - (dgt b k : Int)) - (c : Int)) 0 (by rfl) (by rfl) false (decide_eq_false (by omega)) X) ?_
        simp only [Act.put, List.setIfInBounds_toArray, List.set_cons_succ, List.set_cons_zero]
        refine lx_nil ?_
        intro X4 hX4 hF
        have hown := own_below hown hX4
        have hR0 := hR0.bel hX4
        have hb := bel_next hb hX4
        clear hF hX4
        have hsz := hR0.lt
        go_upto_region 13 with (fail)
        rw [HNI.out]
        go_upto_region 7 with (at_builtin; refine app_newG rfl rfl Tryd.underlying58 info_int rfl (w.heap.size + 1) _ k _ [Ni n] HD.out rfl hown (m := 1) rfl rfl (fun u hu => by rw [List.mem_singleton.1 hu]; rfl) (by omega) (by omega) hsz ?_; intro A3 c3 w3 hown3 hc4 hc5 hb3 hgr3)
        have hR3 := hR0.below hb3 (by omega)
        have hb := hb.trans (hb3.mono (by omega))
        go_wp2
        go_roundw
        case rel => exact ⟨k + 1, 0, ds ++ [n], by omega, by go_num, by omega, rfl, by rw [List.length_append, HDL.out]; rfl, HDG2.out, HST2.out, by rw [List.map_append]; exact hown3, hR3, hb⟩
        case measure => simp [intOf]; omega
      · obtain ⟨n, hn'⟩ : ∃ n, n + dgt b k + c = dgt a k + 256 := ⟨dgt a k + 256 - dgt b k - c, by omega⟩
        have hn1 : n + dgt b k + c ≤ dgt a k + 256 := by omega
        have hn2 : dgt a k + 256 ≤ n + dgt b k + c := by omega
        have HST2 := Lib.hid (sub_step1 HDL.out HST.out hn')
        have HDG2 : Hid (∀ d ∈ ds ++ [n], d < 256) := digits_snoc HDG.out (by omega)
        have HD : Hid (#[Value.int .i64 (n : Int)] = [Ni n].toArray) := rfl
        clear hn'
        go_upto_region 6 with (fail)
        refine lx_plain [] (lasts_nil) ?_
        simp only [its, Nat.zero_add, Nat.reduceAdd]
        refine lx_val (by rfl) (.int .i64 (k : Int)) (fun X hX hF => by rfl) ?_
        simp only [Act.put, List.setIfInBounds_toArray, List.set_cons_succ, List.set_cons_zero]
        refine lx_val (by rfl) (.string ⟨a.toArray⟩) (fun X hX hF => by rfl) ?_
        simp only [Act.put, List.setIfInBounds_toArray, List.set_cons_succ, List.set_cons_zero]
        refine lx_val (by rfl) (.int .i64 (a.length : Int)) (fun X hX hF => exec_lens Tryd.underlying9 _ (by rfl) a (by rfl) _ rfl X) ?_
        simp only [Act.put, List.setIfInBounds_toArray, List.set_cons_succ, List.set_cons_zero]
        refine lx_val (by rfl) (.bool true) (fun X hX hF => exec_lss _ _ _ _ (by rfl) .i64 (k : Int) (a.length : Int) (by rfl) (by rfl) true (decide_eq_true (by omega)) X) ?_
        simp only [Act.put, List.setIfInBounds_toArray, List.set_cons_succ, List.set_cons_zero]
        refine lx_nil ?_
        intro X1 hX1 hF
        have hown := own_below hown hX1
        have hR0 := hR0.bel hX1
        have hb := bel_next hb hX1
        clear hF hX1
        go_upto_region 8 with (fail)
        refine lx_plain [] (lasts_nil) ?_
        simp only [its, Nat.zero_add, Nat.reduceAdd]
        refine lx_val (by rfl) (.string ⟨a.toArray⟩) (fun X hX hF => by rfl) ?_
        simp only [Act.put, List.setIfInBounds_toArray, List.set_cons_succ, List.set_cons_zero]
        refine lx_val (by rfl) (.int .i64 (k : Int)) (fun X hX hF => by rfl) ?_
        simp only [Act.put, List.setIfInBounds_toArray, List.set_cons_succ, List.set_cons_zero]
        refine lx_call (by rfl) 39 _ _ (by rfl) (.int .i64 (dgt a k : Int)) [.string ⟨a.toArray⟩, .int .i64 (k : Int)] (by rfl) (by kernel_rfl) (fun _ => by go_simp) (fun X hX hF => rdigitC a k X (by omega)) ?_
        simp only [Act.put, List.setIfInBounds_toArray, List.set_cons_succ, List.set_cons_zero]
        refine lx_val (by rfl) (.string ⟨b.toArray⟩) (fun X hX hF => by rfl) ?_
        simp only [Act.put, List.setIfInBounds_toArray, List.set_cons_succ, List.set_cons_zero]
        refine lx_val (by rfl) (.int .i64 (k : Int)) (fun X hX hF => by rfl) ?_
        simp only [Act.put, List.setIfInBounds_toArray, List.set_cons_succ, List.set_cons_zero]
        refine lx_call (by rfl) 39 _ _ (by rfl) (.int .i64 (dgt b k : Int)) [.string ⟨b.toArray⟩, .int .i64 (k : Int)] (by rfl) (by kernel_rfl) (fun _ => by go_simp) (fun X hX hF => rdigitC b k X (by omega)) ?_
        simp only [Act.put, List.setIfInBounds_toArray, List.set_cons_succ, List.set_cons_zero]
        refine lx_val (by rfl) (.int .i64 ((dgt a k : Int) - (dgt b k : Int))) (fun X hX hF => exec_sub _ _ _ _ (by rfl) (dgt a k : Int) (dgt b k : Int) ((dgt a k : Int) - (dgt b k : Int)) (by rfl) (by rfl) (by omega) (by omega) (by omega) X) ?_
        simp only [Act.put, List.setIfInBounds_toArray, List.set_cons_succ, List.set_cons_zero]
        refine lx_val (by rfl) (.int .i64 (c : Int)) (fun X hX hF => by rfl) ?_
        simp only [Act.put, List.setIfInBounds_toArray, List.set_cons_succ, List.set_cons_zero]
        refine lx_val (by rfl) (.int .i64 (((dgt a k : Int) - (dgt b k : Int)) - (c : Int))) (fun X hX hF => exec_sub _ _ _ _ (by rfl) ((dgt a k : Int) - (dgt b k : Int)) (c : Int) (((dgt a k : Int) - (dgt b k : Int)) - (c : Int)) (by rfl) (by rfl) (by omega) (by omega) (by omega) X) ?_
        simp only [Act.put, List.setIfInBounds_toArray, List.set_cons_succ, List.set_cons_zero]
        refine lx_val (by rfl) (.int .i64 (((dgt a k : Int) - (dgt b k : Int)) - (c : Int))) (fun X hX hF => by rfl) ?_
        simp only [Act.put, List.setIfInBounds_toArray, List.set_cons_succ, List.set_cons_zero]
        refine lx_nil ?_
        intro X2 hX2 hF
        have hown := own_below hown hX2
        have hR0 := hR0.bel hX2
        have hb := bel_next hb hX2
        clear hF hX2
        go_upto_region 9 with (fail)
        refine lx_plain [] (lasts_nil) ?_
        simp only [its, Nat.zero_add, Nat.reduceAdd]
        refine lx_val (by rfl) (.int .i64 0) (fun X hX hF => by rfl) ?_
        simp only [Act.put, List.setIfInBounds_toArray, List.set_cons_succ, List.set_cons_zero]
        refine lx_nil ?_
        intro X3 hX3 hF
        have hown := own_below hown hX3
        have hR0 := hR0.bel hX3
        have hb := bel_next hb hX3
        clear hF hX3
        go_upto_region 10 with (fail)
        refine lx_plain [] (lasts_nil) ?_
        simp only [its, Nat.zero_add, Nat.reduceAdd]
        refine lx_val (by rfl) (.int .i64 (((dgt a k : Int) - (dgt b k : Int)) - (c : Int))) (fun X hX hF => by rfl) ?_
        simp only [Act.put, List.setIfInBounds_toArray, List.set_cons_succ, List.set_cons_zero]
        refine lx_val (by rfl) (.bool true) (fun X hX hF => exec_lss _ _ _ _ (by rfl) .i64 (((dgt a k : Int) - (dgt b k : Int)) - (c : Int)) 0 (by rfl) (by rfl) true (decide_eq_true (by omega)) X) ?_
        simp only [Act.put, List.setIfInBounds_toArray, List.set_cons_succ, List.set_cons_zero]
        refine lx_nil ?_
        intro X4 hX4 hF
        have hown := own_below hown hX4
        have hR0 := hR0.bel hX4
        have hb := bel_next hb hX4
        clear hF hX4
        go_upto_region 11 with (fail)
        refine lx_plain [] (lasts_nil) ?_
        simp only [its, Nat.zero_add, Nat.reduceAdd]
        refine lx_val (by rfl) (.int .i64 (((dgt a k : Int) - (dgt b k : Int)) - (c : Int))) (fun X hX hF => by rfl) ?_
        simp only [Act.put, List.setIfInBounds_toArray, List.set_cons_succ, List.set_cons_zero]
        refine lx_val (by rfl) (.int .i64 (n : Int)) (fun X hX hF => exec_add _ _ _ _ (by rfl) (((dgt a k : Int) - (dgt b k : Int)) - (c : Int)) 256 (n : Int) (by rfl) (by rfl) (by omega) (by omega) (by omega) X) ?_
        simp only [Act.put, List.setIfInBounds_toArray, List.set_cons_succ, List.set_cons_zero]
        refine lx_val (by rfl) (.int .i64 (n : Int)) (fun X hX hF => by rfl) ?_
        simp only [Act.put, List.setIfInBounds_toArray, List.set_cons_succ, List.set_cons_zero]
        refine lx_nil ?_
        intro X5 hX5 hF
        have hown := own_below hown hX5
        have hR0 := hR0.bel hX5
        have hb := bel_next hb hX5
        clear hF hX5
        go_upto_region 12 with (fail)
        refine lx_plain [] (lasts_nil) ?_
        simp only [its, Nat.zero_add, Nat.reduceAdd]
        refine lx_val (by rfl) (.int .i64 1) (fun X hX hF => by rfl) ?_
        simp only [Act.put, List.setIfInBounds_toArray, List.set_cons_succ, List.set_cons_zero]
        refine lx_nil ?_
        intro X6 hX6 hF
        have hown := own_below hown hX6
        have hR0 := hR0.bel hX6
        have hb := bel_next hb hX6
        clear hF hX6
        have hsz := hR0.lt
        go_upto_region 13 with (fail)
        go_upto_region 7 with (at_builtin; refine app_newG rfl rfl Tryd.underlying58 info_int rfl (w.heap.size + 1) _ k _ [Ni n] HD.out rfl hown (m := 1) rfl rfl (fun u hu => by rw [List.mem_singleton.1 hu]; rfl) (by omega) (by omega) hsz ?_; intro A3 c3 w3 hown3 hc4 hc5 hb3 hgr3)
        have hR3 := hR0.below hb3 (by omega)
        have hb := hb.trans (hb3.mono (by omega))
        go_wp2
        go_roundw
        case rel => exact ⟨k + 1, 1, ds ++ [n], by omega, by go_num, by omega, rfl, by rw [List.length_append, HDL.out]; rfl, HDG2.out, HST2.out, by rw [List.map_append]; exact hown3, hR3, hb⟩
        case measure => simp [intOf]; omega
    · obtain rfl : k = a.length := by omega
      have HE : Hid (lvN 256 ds = val a - val b) := sub_end HDG.out HDL.out HST.out HLE.out
      have hds : ds.length ≤ a.length := by rw [HDL.out]; exact Nat.le_refl _
      go_upto_region 6 with (fail)
      refine lx_plain [] (lasts_nil) ?_
      simp only [its, Nat.zero_add, Nat.reduceAdd]
      refine lx_val (by rfl) (.int .i64 (a.length : Int)) (fun X hX hF => by rfl) ?_
      simp only [Act.put, List.setIfInBounds_toArray, List.set_cons_succ, List.set_cons_zero]
      refine lx_val (by rfl) (.string ⟨a.toArray⟩) (fun X hX hF => by rfl) ?_
      simp only [Act.put, List.setIfInBounds_toArray, List.set_cons_succ, List.set_cons_zero]
      refine lx_val (by rfl) (.int .i64 (a.length : Int)) (fun X hX hF => exec_lens Tryd.underlying9 _ (by rfl) a (by rfl) _ rfl X) ?_
      simp only [Act.put, List.setIfInBounds_toArray, List.set_cons_succ, List.set_cons_zero]
      refine lx_val (by rfl) (.bool false) (fun X hX hF => exec_lss _ _ _ _ (by rfl) .i64 (a.length : Int) (a.length : Int) (by rfl) (by rfl) false (decide_eq_false (by omega)) X) ?_
      simp only [Act.put, List.setIfInBounds_toArray, List.set_cons_succ, List.set_cons_zero]
      refine lx_nil ?_
      intro X1 hX1 hF
      have hown := own_below hown hX1
      have hR0 := hR0.bel hX1
      have hb := bel_next hb hX1
      clear hF hX1
      have hv5 : ∀ X, Since X1 X → Is ds (.slice A1 a.length c1) X := fun X hX => by
        have := (Rd.of_own hown).below hX
        exact ⟨A1, c1, by rw [HDL.out], by rw [HDL.out]; exact this⟩
      go_upto_region 14 with (fail)
      refine lx_plain_to 3 [] (lasts_nil) ?_
      simp only [its, List.take, List.drop, Nat.zero_add, Nat.reduceAdd]
      refine lx_val (by rfl) (.slice A1 a.length c1) (fun X hX hF => by rfl) ?_
      simp only [Act.put, List.setIfInBounds_toArray, List.set_cons_succ, List.set_cons_zero]
      refine lx_call (by rfl) 40 _ _ (by rfl) (.string ⟨(be (lvN 256 ds)).toArray⟩) [.slice A1 a.length c1] (by rfl) (by kernel_rfl) (fun _ => by go_simp) (fun X hX hF => rnumberC _ ds X (hv5 X hX) HDG.out (by omega)) ?_
      simp only [Act.put, List.setIfInBounds_toArray, List.set_cons_succ, List.set_cons_zero]
      refine lx_val (by rfl) (.agg #[.string ⟨(be (lvN 256 ds)).toArray⟩, .int .i64 0]) (fun X hX hF => by (unfold execOp; go_simp)) ?_
      simp only [Act.put, List.setIfInBounds_toArray, List.set_cons_succ, List.set_cons_zero]
      refine lx_nil ?_
      intro X2 hX2 hF
      have hown := own_below hown hX2
      have hR0 := hR0.bel hX2
      have hb := bel_next hb hX2
      clear hF hX2
      refine op_store_blk rfl 29 (.tmp 4) (.tmp 39) rfl w.heap.size 29 _ hR0 rfl [.string ⟨(be (lvN 256 ds)).toArray⟩, .int .i64 0] rfl (by rfl) (by intro u hu; simp only [List.mem_cons, List.not_mem_nil, or_false] at hu; rcases hu with rfl | rfl <;> rfl) info_made ?_
      intro w9 hR9 hO9 hB9 hs9
      have hb9 := hB9 _ _ hb (Nat.le_refl _)
      clear hO9 hB9
      go_wp2
      refine post_cell rfl rfl (by rfl) Tryd.underlying29 rfl hR9 info_made ⟨by rw [HE.out], hb9⟩

end Go.Proofs.YtglnabciomlmmaaDoor
