/-
  The references: Add, Sub.
-/
import Derived.Test.YtglnabciomlmmaaDoorRcm
namespace Go.Proofs.YtglnabciomlmmaaDoor
open Go.RowKit

/-- The number of the lowest k digits. -/
def lo (a : List UInt8) (k : Nat) : Nat := lvN 256 ((a.map (·.toNat)).reverse.take k)
theorem lo_zero (a : List UInt8) : lo a 0 = 0 := rfl
theorem lo_succ (a : List UInt8) (k : Nat) : lo a (k + 1) = lo a k + 256 ^ k * dgt a k := by
  unfold lo
  rw [lvN_take_succ]
  congr 2
  unfold dgt
  rw [← List.map_reverse]
  simp only [List.getD, List.getElem?_map]
  cases a.reverse[k]? <;> rfl
theorem lo_all {a : List UInt8} {k : Nat} (h : a.length ≤ k) : lo a k = val a := by
  unfold lo val
  rw [List.take_of_length_le (by rw [List.length_reverse, List.length_map]; exact h)]
theorem lo_mod (a : List UInt8) (k : Nat) : lo a k = val a % 256 ^ k := by
  rcases Nat.lt_or_ge k a.length with h | h
  · have hl : ((a.map (·.toNat)).reverse.take k).length = k := by rw [List.length_take, List.length_reverse, List.length_map]; omega
    have h1 : val a = lo a k + 256 ^ k * lvN 256 ((a.map (·.toNat)).reverse.drop k) := by
      unfold val lo
      conv => lhs; rw [← List.take_append_drop k (a.map (·.toNat)).reverse, lvN_append, hl]
    have h2 : lo a k < 256 ^ k := by
      have := lvN_lt (B := 256) (by omega) (l := (a.map (·.toNat)).reverse.take k) (by
        intro d hd
        have := List.mem_of_mem_take hd
        rw [List.mem_reverse, List.mem_map] at this
        obtain ⟨b, _, rfl⟩ := this
        exact u8_lt b)
      rwa [hl] at this
    rw [h1, Nat.add_mul_mod_self_left, Nat.mod_eq_of_lt h2]
  · rw [lo_all h, Nat.mod_eq_of_lt (Nat.lt_of_lt_of_le (val_lt a) (Nat.pow_le_pow_right (by omega) h))]
theorem lo_eq {a : List UInt8} {k : Nat} (h : val a < 256 ^ k) : lo a k = val a := by rw [lo_mod, Nat.mod_eq_of_lt h]
theorem lvN_snoc (l : List Nat) (d : Nat) : lvN 256 (l ++ [d]) = lvN 256 l + 256 ^ l.length * d := by
  rw [lvN_append]
  congr 2
theorem add_step {ds : List Nat} {a b : List UInt8} {k c n : Nat} (hk : ds.length = k) (h : lvN 256 ds + 256 ^ k * c = lo a k + lo b k) (hn : n = dgt a k + dgt b k + c) :
    lvN 256 (ds ++ [n % 256]) + 256 ^ (k + 1) * (n / 256) = lo a (k + 1) + lo b (k + 1) := by
  rw [lvN_snoc, lo_succ, lo_succ, hk, Nat.pow_succ, Nat.mul_assoc, Nat.add_assoc, ← Nat.mul_add, Nat.mod_add_div, hn, Nat.mul_add, Nat.mul_add]
  omega
theorem add_end {ds : List Nat} {a b : List UInt8} {m c : Nat} (ha : a.length ≤ m) (hb : b.length ≤ m) (h : lvN 256 ds + 256 ^ (m + 1) * c = lo a (m + 1) + lo b (m + 1)) : lvN 256 ds = val a + val b := by
  rw [lo_all (by omega), lo_all (by omega)] at h
  have h1 := Nat.lt_of_lt_of_le (val_lt a) (Nat.pow_le_pow_right (n := 256) (by omega) ha)
  have h2 := Nat.lt_of_lt_of_le (val_lt b) (Nat.pow_le_pow_right (n := 256) (by omega) hb)
  rw [Nat.pow_succ] at h
  rcases Nat.eq_zero_or_pos c with hc | hc
  · rw [hc, Nat.mul_zero] at h
    exact h
  · exfalso
    have h3 := Nat.mul_le_mul_left (256 ^ m * 256) hc
    omega
theorem digits_snoc {ds : List Nat} (h : ∀ d ∈ ds, d < 256) {n : Nat} (hn : n < 256) : ∀ d ∈ ds ++ [n], d < 256 := by
  intro d hd
  rcases List.mem_append.1 hd with h1 | h1
  · exact h d h1
  · rw [List.mem_singleton.1 h1]
    exact hn
set_option maxRecDepth 100000 in
set_option maxHeartbeats 1600000 in
theorem raddC (a b : List UInt8) (w : World) (ha : a.length ≤ 4194304) (hb0 : b.length ≤ 4194304) : Calls Tryd.prog 21 #[.string ⟨a.toArray⟩, .string ⟨b.toArray⟩] w fun e w' => e = .returned (.string ⟨(be (val a + val b)).toArray⟩) ∧ Since w w' := by
  obtain ⟨m, hm⟩ : ∃ m, m = max a.length b.length := ⟨_, rfl⟩
  have hma : a.length ≤ m := by omega
  have hmb : b.length ≤ m := by omega
  have hmm : m ≤ 4194304 := by omega
  have hm1 : (max (a.length : Int) (b.length : Int)) = (m : Int) := by omega
  have HM := Lib.hid hm1
  clear hm hm1
  go_enter Tryd.func21, Tryd.ntmps21
  go_wp2
  go_loopw [5, 6, 7] (fun ov cv kv wr => ∃ (k c : Nat) (ds : List Nat), k ≤ m + 1 ∧ kv = .int .i64 (k : Int) ∧ c ≤ 1 ∧ cv = .int .i64 (c : Int) ∧ ds.length = k ∧ (∀ d ∈ ds, d < 256) ∧ lvN 256 ds + 256 ^ k * c = lo a k + lo b k ∧ wr.ownsRow w.heap.size 3 1 ov k (ds.map Ni) ∧ Below w.heap.size w wr) (fun _ _ kv _ => m + 1 - (intOf kv).toNat)
  case atStart => exact ⟨0, 0, [], by omega, rfl, by omega, rfl, rfl, (fun d hd => by cases hd), rfl, own_nil _ _ _, Below.refl _ _⟩
  case round =>
    obtain ⟨k, c, ds, hk, rfl, hc, rfl, hdl, hdg, hst, hown, hb⟩ := hrel
    obtain ⟨A1, c1, rfl, hc1, hc1'⟩ := (Rd.of_own hown).form
    have HDL := Lib.hid hdl
    have HDG := Lib.hid hdg
    have HST := Lib.hid hst
    clear hdl hdg hst
    rcases Nat.lt_or_ge m k with hlt | hlt
    · obtain rfl : k = m + 1 := by omega
      have HE : Hid (lvN 256 ds = val a + val b) := add_end hma hmb HST.out
      have hds : ds.length ≤ m + 1 := by rw [HDL.out]; exact Nat.le_refl _
      go_upto_region 4 with (fail)
      refine lx_plain [] (lasts_nil) ?_
      simp only [its, Nat.zero_add, Nat.reduceAdd]
      refine lx_val (by rfl) (.int .i64 ((m + 1 : Nat) : Int)) (fun X hX hF => by rfl) ?_
      simp only [Act.put, List.setIfInBounds_toArray, List.set_cons_succ, List.set_cons_zero]
      refine lx_val (by rfl) (.string ⟨a.toArray⟩) (fun X hX hF => by rfl) ?_
      simp only [Act.put, List.setIfInBounds_toArray, List.set_cons_succ, List.set_cons_zero]
      refine lx_val (by rfl) (.int .i64 (a.length : Int)) (fun X hX hF => exec_lens Tryd.underlying9 _ (by rfl) a (by rfl) _ rfl X) ?_
      simp only [Act.put, List.setIfInBounds_toArray, List.set_cons_succ, List.set_cons_zero]
      refine lx_val (by rfl) (.string ⟨b.toArray⟩) (fun X hX hF => by rfl) ?_
      simp only [Act.put, List.setIfInBounds_toArray, List.set_cons_succ, List.set_cons_zero]
      refine lx_val (by rfl) (.int .i64 (b.length : Int)) (fun X hX hF => exec_lens Tryd.underlying9 _ (by rfl) b (by rfl) _ rfl X) ?_
      simp only [Act.put, List.setIfInBounds_toArray, List.set_cons_succ, List.set_cons_zero]
      refine lx_val (by rfl) (.int .i64 (m : Int)) (fun X hX hF => exec_max _ _ (by rfl) .i64 (a.length : Int) (b.length : Int) (m : Int) (by rfl) (by rfl) HM.out X) ?_
      simp only [Act.put, List.setIfInBounds_toArray, List.set_cons_succ, List.set_cons_zero]
      refine lx_val (by rfl) (.bool false) (fun X hX hF => exec_leq _ _ _ _ (by rfl) .i64 ((m + 1 : Nat) : Int) (m : Int) (by rfl) (by rfl) false (decide_eq_false (by omega)) X) ?_
      simp only [Act.put, List.setIfInBounds_toArray, List.set_cons_succ, List.set_cons_zero]
      refine lx_nil ?_
      intro X1 hX1 hF
      have hown := own_below hown hX1
      have hb := bel_next hb hX1
      clear hF hX1
      have hv5 : ∀ X, Since X1 X → Is ds (.slice A1 (m + 1) c1) X := fun X hX => by
        have := (Rd.of_own hown).below hX
        exact ⟨A1, c1, by rw [HDL.out], by rw [HDL.out]; exact this⟩
      go_upto_region 9 with (fail)
      refine lx_plain [] (lasts_nil) ?_
      simp only [its, Nat.zero_add, Nat.reduceAdd]
      refine lx_val (by rfl) (.slice A1 (m + 1) c1) (fun X hX hF => by rfl) ?_
      simp only [Act.put, List.setIfInBounds_toArray, List.set_cons_succ, List.set_cons_zero]
      refine lx_call (by rfl) 40 _ _ (by rfl) (.string ⟨(be (lvN 256 ds)).toArray⟩) [.slice A1 (m + 1) c1] (by rfl) (by kernel_rfl) (fun _ => by go_simp) (fun X hX hF => rnumberC _ ds X (hv5 X hX) HDG.out (by omega)) ?_
      simp only [Act.put, List.setIfInBounds_toArray, List.set_cons_succ, List.set_cons_zero]
      refine lx_val (by rfl) (.string ⟨(be (lvN 256 ds)).toArray⟩) (fun X hX hF => by rfl) ?_
      simp only [Act.put, List.setIfInBounds_toArray, List.set_cons_succ, List.set_cons_zero]
      refine lx_nil ?_
      intro X2 hX2 hF
      have hown := own_below hown hX2
      have hb := bel_next hb hX2
      clear hF hX2
      rw [HE.out]
      go_wp2
      go_ret
      exact ⟨rfl, hb⟩
    · have ga := dgt_lt a k
      have gb := dgt_lt b k
      obtain ⟨n, hn⟩ : ∃ n, n = dgt a k + dgt b k + c := ⟨_, rfl⟩
      have HST2 : Hid (lvN 256 (ds ++ [n % 256]) + 256 ^ (k + 1) * (n / 256) = lo a (k + 1) + lo b (k + 1)) := add_step HDL.out HST.out hn
      have hn1 : n ≤ dgt a k + dgt b k + c := by omega
      have hn2 : dgt a k + dgt b k + c ≤ n := by omega
      have HDG2 : Hid (∀ d ∈ ds ++ [n % 256], d < 256) := digits_snoc HDG.out (by omega)
      have HD : Hid (#[Value.int .i64 ((n % 256 : Nat) : Int)] = [Ni (n % 256)].toArray) := rfl
      clear hn
      go_upto_region 4 with (fail)
      refine lx_plain [] (lasts_nil) ?_
      simp only [its, Nat.zero_add, Nat.reduceAdd]
      refine lx_val (by rfl) (.int .i64 (k : Int)) (fun X hX hF => by rfl) ?_
      simp only [Act.put, List.setIfInBounds_toArray, List.set_cons_succ, List.set_cons_zero]
      refine lx_val (by rfl) (.string ⟨a.toArray⟩) (fun X hX hF => by rfl) ?_
      simp only [Act.put, List.setIfInBounds_toArray, List.set_cons_succ, List.set_cons_zero]
      refine lx_val (by rfl) (.int .i64 (a.length : Int)) (fun X hX hF => exec_lens Tryd.underlying9 _ (by rfl) a (by rfl) _ rfl X) ?_
      simp only [Act.put, List.setIfInBounds_toArray, List.set_cons_succ, List.set_cons_zero]
      refine lx_val (by rfl) (.string ⟨b.toArray⟩) (fun X hX hF => by rfl) ?_
      simp only [Act.put, List.setIfInBounds_toArray, List.set_cons_succ, List.set_cons_zero]
      refine lx_val (by rfl) (.int .i64 (b.length : Int)) (fun X hX hF => exec_lens Tryd.underlying9 _ (by rfl) b (by rfl) _ rfl X) ?_
      simp only [Act.put, List.setIfInBounds_toArray, List.set_cons_succ, List.set_cons_zero]
      refine lx_val (by rfl) (.int .i64 (m : Int)) (fun X hX hF => exec_max _ _ (by rfl) .i64 (a.length : Int) (b.length : Int) (m : Int) (by rfl) (by rfl) HM.out X) ?_
      simp only [Act.put, List.setIfInBounds_toArray, List.set_cons_succ, List.set_cons_zero]
      refine lx_val (by rfl) (.bool true) (fun X hX hF => exec_leq _ _ _ _ (by rfl) .i64 (k : Int) (m : Int) (by rfl) (by rfl) true (decide_eq_true (by omega)) X) ?_
      simp only [Act.put, List.setIfInBounds_toArray, List.set_cons_succ, List.set_cons_zero]
      refine lx_nil ?_
      intro X1 hX1 hF
      have hown := own_below hown hX1
      have hb := bel_next hb hX1
      clear hF hX1
      go_upto_region 6 with (fail)
      refine lx_plain [] (lasts_nil) ?_
      simp only [its, Nat.zero_add, Nat.reduceAdd]
      refine lx_val (by rfl) (.string ⟨a.toArray⟩) (fun X hX hF => by rfl) ?_
      simp only [Act.put, List.setIfInBounds_toArray, List.set_cons_succ, List.set_cons_zero]
      refine lx_val (by rfl) (.int .i64 (k : Int)) (fun X hX hF => by rfl) ?_
      simp only [Act.put, List.setIfInBounds_toArray, List.set_cons_succ, List.set_cons_zero]
      refine lx_call (by rfl) 39 _ _ (by rfl) (.int .i64 (dgt a k : Int)) [.string ⟨a.toArray⟩, .int .i64 (k : Int)] (by rfl) (by kernel_rfl) (fun _ => by go_simp) (fun X hX hF => rdigitC a k X (by omega)) ?_
      simp only [Act.put, List.setIfInBounds_toArray, List.set_cons_succ, List.set_cons_zero]
      refine lx_val (by rfl) (.string ⟨b.toArray⟩) (fun X hX hF => by rfl) ?_
      simp only [Act.put, List.setIfInBounds_toArray, List.set_cons_succ, List.set_cons_zero]
      refine lx_val (by rfl) (.int .i64 (k : Int)) (fun X hX hF => by rfl) ?_
      simp only [Act.put, List.setIfInBounds_toArray, List.set_cons_succ, List.set_cons_zero]
      refine lx_call (by rfl) 39 _ _ (by rfl) (.int .i64 (dgt b k : Int)) [.string ⟨b.toArray⟩, .int .i64 (k : Int)] (by rfl) (by kernel_rfl) (fun _ => by go_simp) (fun X hX hF => rdigitC b k X (by omega)) ?_
      simp only [Act.put, List.setIfInBounds_toArray, List.set_cons_succ, List.set_cons_zero]
      refine lx_val (by rfl) (.int .i64 ((dgt a k : Int) + (dgt b k : Int))) (fun X hX hF => exec_add _ _ _ _ (by rfl) (dgt a k : Int) (dgt b k : Int) ((dgt a k : Int) + (dgt b k : Int)) (by rfl) (by rfl) (by omega) (by omega) (by omega) X) ?_
      simp only [Act.put, List.setIfInBounds_toArray, List.set_cons_succ, List.set_cons_zero]
      refine lx_val (by rfl) (.int .i64 (c : Int)) (fun X hX hF => by rfl) ?_
      simp only [Act.put, List.setIfInBounds_toArray, List.set_cons_succ, List.set_cons_zero]
      refine lx_val (by rfl) (.int .i64 (n : Int)) (fun X hX hF => exec_add _ _ _ _ (by rfl) ((dgt a k : Int) + (dgt b k : Int)) (c : Int) (n : Int) (by rfl) (by rfl) (by omega) (by omega) (by omega) X) ?_
      simp only [Act.put, List.setIfInBounds_toArray, List.set_cons_succ, List.set_cons_zero]
      refine lx_val (by rfl) (.int .i64 (n : Int)) (fun X hX hF => by rfl) ?_
      simp only [Act.put, List.setIfInBounds_toArray, List.set_cons_succ, List.set_cons_zero]
      refine lx_nil ?_
      intro X2 hX2 hF
      have hown := own_below hown hX2
      have hb := bel_next hb hX2
      clear hF hX2
      go_upto_region 7 with (fail)
      refine lx_plain_to 3 [] (lasts_nil) ?_
      simp only [its, List.take, List.drop, Nat.zero_add, Nat.reduceAdd]
      refine lx_val (by rfl) (.slice A1 k c1) (fun X hX hF => by rfl) ?_
      simp only [Act.put, List.setIfInBounds_toArray, List.set_cons_succ, List.set_cons_zero]
      refine lx_val (by rfl) (.int .i64 (n : Int)) (fun X hX hF => by rfl) ?_
      simp only [Act.put, List.setIfInBounds_toArray, List.set_cons_succ, List.set_cons_zero]
      refine lx_val (by rfl) (.int .i64 ((n % 256 : Nat) : Int)) (fun X hX hF => exec_rem _ _ _ _ (by rfl) .i64 (n : Int) 256 ((n % 256 : Nat) : Int) (by rfl) (by rfl) (by omega) (by omega) (by omega) X) ?_
      simp only [Act.put, List.setIfInBounds_toArray, List.set_cons_succ, List.set_cons_zero]
      refine lx_nil ?_
      intro X3 hX3 hF
      have hown := own_below hown hX3
      have hb := bel_next hb hX3
      clear hF hX3
      go_upto_region 8 with (at_builtin; refine app_new rfl rfl Tryd.underlying58 info_int rfl (w.heap.size) _ k _ [Ni (n % 256)] HD.out rfl hown (m := 1) rfl rfl (fun u hu => by rw [List.mem_singleton.1 hu]; rfl) (by omega) (by omega) hb.size ?_; intro A3 c3 w3 hown3 hc4 hc5 hb3)
      have hb := hb.trans hb3
      clear hown hb3
      refine lx_plain [] (lasts_nil) ?_
      simp only [its, Nat.zero_add, Nat.reduceAdd]
      refine lx_val (by rfl) (.int .i64 (n : Int)) (fun X hX hF => by rfl) ?_
      simp only [Act.put, List.setIfInBounds_toArray, List.set_cons_succ, List.set_cons_zero]
      refine lx_val (by rfl) (.int .i64 ((n / 256 : Nat) : Int)) (fun X hX hF => exec_quo _ _ _ _ (by rfl) .i64 (n : Int) 256 ((n / 256 : Nat) : Int) (by rfl) (by rfl) (by omega) (by omega) (by omega) (IntWalk.i64_in _ (by omega)) X) ?_
      simp only [Act.put, List.setIfInBounds_toArray, List.set_cons_succ, List.set_cons_zero]
      refine lx_val (by rfl) (.int .i64 ((n / 256 : Nat) : Int)) (fun X hX hF => by rfl) ?_
      simp only [Act.put, List.setIfInBounds_toArray, List.set_cons_succ, List.set_cons_zero]
      refine lx_nil ?_
      intro X4 hX4 hF
      have hown3 := own_below hown3 hX4
      have hb := bel_next hb hX4
      clear hF hX4
      go_wp2
      go_roundw
      case rel => exact ⟨k + 1, n / 256, ds ++ [n % 256], by omega, by go_num, by omega, rfl, by rw [List.length_append, HDL.out]; rfl, HDG2.out, HST2.out, by rw [List.map_append]; exact hown3, hb⟩
      case measure => simp [intOf]; omega


end Go.Proofs.YtglnabciomlmmaaDoor
