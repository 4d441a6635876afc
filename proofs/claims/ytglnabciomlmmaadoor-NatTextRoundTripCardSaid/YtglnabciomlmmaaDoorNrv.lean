/-
  Reverse; the bytes of digits.
-/
import Derived.Test.YtglnabciomlmmaaDoorNcl
namespace Go.Proofs.YtglnabciomlmmaaDoor
open Go.RowKit

theorem Blk.of_own {w : World} {base n c : Nat} {A : Option Addr} {e : TypeId} {xs : List Value} (h : w.ownsRow base e 1 (.slice A n c) n xs) (hn : 0 < n) :
    ∃ g tl, A = some ⟨g, 0, none⟩ ∧ base ≤ g ∧ c ≤ maxLen ∧ n ≤ c ∧ tl.length = c - n ∧ Blk w g e (xs ++ tl) := by
  obtain ⟨hl, hr⟩ := h
  rcases hr with ⟨h1, h2⟩ | ⟨g, cap, cur, hv, hb, hg, hnc, hm, hs, ht⟩
  · injection h1 with _ h3 _
    omega
  · injection hv with h1 h2 h3
    subst h1 h3
    rw [Nat.mul_one] at hs ht
    refine ⟨g, cur.toList.drop n, rfl, hb, hm, hnc, by rw [List.length_drop, Array.length_toList]; omega, ?_⟩
    unfold Blk
    rw [hg, ← ht, List.take_append_drop]
theorem own_of_blk {w : World} {base g n c : Nat} {e : TypeId} {xs tl : List Value} (h : Blk w g e (xs ++ tl)) (hb : base ≤ g) (hx : xs.length = n) (htl : tl.length = c - n) (hn : n ≤ c) (hm : c ≤ maxLen) : w.ownsRow base e 1 (.slice (some ⟨g, 0, none⟩) n c) n xs :=
  ⟨by rw [hx, Nat.mul_one], .inr ⟨g, c, (xs ++ tl).toArray, rfl, hb, h, hn, hm, by simp; omega, by rw [Nat.mul_one]; simp [hx]⟩⟩
/-- The list whose first and last k elements have changed places. -/
def rv (xs : List UInt8) (k : Nat) : List UInt8 := (List.range xs.length).map fun i => if i < k ∨ xs.length ≤ i + k then xs.getD (xs.length - 1 - i) 0 else xs.getD i 0
theorem rv_len (xs : List UInt8) (k : Nat) : (rv xs k).length = xs.length := by simp [rv]
theorem rv_at (xs : List UInt8) (k : Nat) {i : Nat} (h : i < xs.length) : (rv xs k)[i]'(by rw [rv_len]; exact h) = if i < k ∨ xs.length ≤ i + k then xs.getD (xs.length - 1 - i) 0 else xs.getD i 0 := by simp [rv]
theorem rv_0 (xs : List UInt8) : rv xs 0 = xs := by
  refine List.ext_getElem (rv_len _ _) fun i h1 h2 => ?_
  rw [rv_at xs 0 h2, if_neg (by omega)]
  simp [List.getD, h2]
theorem rv_all (xs : List UInt8) {k : Nat} (h : xs.length ≤ 2 * k + 1) : rv xs k = xs.reverse := by
  refine List.ext_getElem (by rw [rv_len, List.length_reverse]) fun i h1 h2 => ?_
  have h3 : i < xs.length := by rw [rv_len] at h1; exact h1
  rw [rv_at xs k h3, List.getElem_reverse]
  by_cases hc : i < k ∨ xs.length ≤ i + k
  · rw [if_pos hc]
    have : xs.length - 1 - i < xs.length := by omega
    simp [List.getD, this]
  · rw [if_neg hc]
    have : xs.length - 1 - i = i := by omega
    simp [List.getD, h3, this]
theorem rv_step (xs : List UInt8) {k : Nat} (h : 2 * k + 1 < xs.length) : ((rv xs k).set k (xs.getD (xs.length - 1 - k) 0)).set (xs.length - 1 - k) (xs.getD k 0) = rv xs (k + 1) ∧ ((rv xs k).set (xs.length - 1 - k) (xs.getD k 0)).set k (xs.getD (xs.length - 1 - k) 0) = rv xs (k + 1) := by
  have hA : ((rv xs k).set k (xs.getD (xs.length - 1 - k) 0)).set (xs.length - 1 - k) (xs.getD k 0) = rv xs (k + 1) := by
    refine List.ext_getElem (by simp [rv_len]) fun i h1 h2 => ?_
    have h3 : i < xs.length := by rw [rv_len] at h2; exact h2
    rw [rv_at xs (k + 1) h3, List.getElem_set, List.getElem_set]
    by_cases e1 : xs.length - 1 - k = i
    · rw [if_pos e1, if_pos (by omega)]
      congr 1
      omega
    · rw [if_neg e1]
      by_cases e2 : k = i
      · rw [if_pos e2, if_pos (by omega), e2]
      · rw [if_neg e2, rv_at xs k h3]
        by_cases hc : i < k ∨ xs.length ≤ i + k
        · rw [if_pos hc, if_pos (by omega)]
        · rw [if_neg hc, if_neg (by omega)]
  refine ⟨hA, ?_⟩
  rw [List.set_comm _ _ (by omega)]
  exact hA
theorem setL_app {xs tl : List Value} {j : Nat} {v : Value} (h : j < xs.length) : (xs ++ tl).set j v = xs.set j v ++ tl := List.set_append_left _ _ h

set_option maxRecDepth 100000 in
set_option maxHeartbeats 1600000 in
theorem reverseC (base : Nat) (A : Option Addr) (n c : Nat) (xs : List UInt8) (w : World) (hown : w.ownsRow base 5 1 (.slice A n c) n (xs.map B8)) (hbs : base ≤ w.heap.size) :
    Calls Tryd.prog 48 #[.slice A n c] w fun e w' => e = .returned (.tuple #[]) ∧ w'.ownsRow base 5 1 (.slice A n c) n (xs.reverse.map B8) ∧ Below base w w' := by
  have hxl : xs.length = n := by have := hown.1; simpa using this
  rcases Nat.eq_zero_or_pos n with h0 | hpos
  · subst h0
    have hx0 : xs = [] := List.eq_nil_of_length_eq_zero hxl
    subst hx0
    clear hxl
    have HO := Lib.hid hown
    clear hown
    go_enter Tryd.func48, Tryd.ntmps48
    go_wp2
    refine wp_loop_rounds 1 ?_
    rw [rounds_succ]
    go_wp2
    go_end0
    exact ⟨rfl, HO.out, Below.refl _ _⟩
  · obtain ⟨g, tl, rfl, hgb, hcm, hnc, htl, hB⟩ := Blk.of_own hown hpos
    unfold maxLen at hcm
    rw [← rv_0 xs] at hB
    have HX := Lib.hid hxl
    have HT := Lib.hid htl
    clear hxl htl hown
    go_enter Tryd.func48, Tryd.ntmps48
    go_wp2
    go_loopw [2, 3] (fun iv jv wr => ∃ k : Nat, 2 * k ≤ n + 1 ∧ iv = .int .i64 (k : Int) ∧ jv = .int .i64 ((n : Int) - 1 - (k : Int)) ∧ Blk wr g 5 ((rv xs k).map B8 ++ tl) ∧ Below base w wr) (fun iv _ _ => n + 1 - (intOf iv).toNat)
    case atStart => exact ⟨0, by omega, rfl, int_eq (by omega), hB, Below.refl _ _⟩
    case round =>
      clear hB
      obtain ⟨k, hk, rfl, rfl, hB, hb⟩ := hrel
      by_cases hlt : 2 * k + 1 < n
      · obtain ⟨m, hm⟩ : ∃ m, m = n - 1 - k := ⟨_, rfl⟩
        have em : ((n : Int) - 1 - (k : Int)) = (m : Int) := by omega
        rw [em]
        have hmn : m < n := by omega
        have hkm : k < m := by omega
        have hst := rv_step xs (k := k) (by rw [HX.out]; exact hlt)
        rw [HX.out, ← hm] at hst
        have HST := Lib.hid hst
        have a1 : ((rv xs k).map B8 ++ tl)[k]? = some (.int .u8 ((xs.getD k 0).toNat : Int)) := by
          have h1 : k < (rv xs k).length := by rw [rv_len, HX.out]; omega
          rw [List.getElem?_append_left (by rw [List.length_map]; exact h1), List.getElem?_map, List.getElem?_eq_getElem h1, rv_at xs k (by rw [HX.out]; omega), if_neg (by rw [HX.out]; omega)]
          rfl
        have a2 : ((rv xs k).map B8 ++ tl)[m]? = some (.int .u8 ((xs.getD m 0).toNat : Int)) := by
          have h1 : m < (rv xs k).length := by rw [rv_len, HX.out]; omega
          rw [List.getElem?_append_left (by rw [List.length_map]; exact h1), List.getElem?_map, List.getElem?_eq_getElem h1, rv_at xs k (by rw [HX.out]; omega), if_neg (by rw [HX.out]; omega)]
          rfl
        have c1 := hB.cell a1
        have c2 := hB.cell a2
        have f1 := hB.free k
        have f2 := hB.free m
        have HA : Hid (∀ u : UInt8, ((rv xs k).map B8 ++ tl).set k (.int .u8 (u.toNat : Int)) = ((rv xs k).set k u).map B8 ++ tl) := fun u => by
          rw [List.set_append_left _ _ (by rw [List.length_map, rv_len, HX.out]; omega), List.map_set]; rfl
        have HB : Hid (∀ (r : List UInt8) (u : UInt8), r.length = xs.length → (r.map B8 ++ tl).set m (.int .u8 (u.toNat : Int)) = (r.set m u).map B8 ++ tl) := fun r u hr => by
          rw [List.set_append_left _ _ (by rw [List.length_map, hr, HX.out]; omega), List.map_set]; rfl
        have hm1 : m + k + 1 ≤ n := by omega
        have hm2 : n ≤ m + k + 1 := by omega
        clear hst hm em a1 a2
        have hne : k ≠ m := by omega
        have hni : ¬ (k : Int) = (m : Int) := by omega
        have i1 : (0 : Int) ≤ (k : Int) := by omega
        have i2 : (k : Int) < (n : Int) := by omega
        have i3 : (0 : Int) ≤ (m : Int) := by omega
        have i4 : (m : Int) < (n : Int) := by omega
        have hq1 := hB.lt
        go_upto_region 3 with (fail)
        generalize xs.getD k 0 = u at c1 HST
        generalize xs.getD m 0 = v at c2 HST
        go_region
        have h9 := (hB.set k (.int .u8 (v.toNat : Int))).set m (.int .u8 (u.toNat : Int))
        rw [HA.out v, HB.out ((rv xs k).set k v) u (by rw [List.length_set, rv_len]), HST.out.1] at h9
        have h8 := ((hb.setCell (p := ⟨g, k, none⟩) (by simpa using hgb) (.int .u8 (v.toNat : Int))).setCell (p := ⟨g, m, none⟩) (by simpa using hgb) (.int .u8 (u.toNat : Int))).drew
        have h7 := h9.drew
        clear h9
        generalize ((wr.setCell ⟨g, k, none⟩ (.int .u8 (v.toNat : Int))).setCell ⟨g, m, none⟩ (.int .u8 (u.toNat : Int))).drew = W9 at h7 h8 ⊢
        go_wp2
        go_roundw
        case rel => exact ⟨k + 1, by omega, by go_num, int_eq (by omega), h7, h8⟩
        case measure => simp [intOf]; omega
      · have hfin : rv xs k = xs.reverse := rv_all xs (by rw [HX.out]; omega)
        rw [hfin] at hB
        have ho := own_of_blk (n := n) (c := c) hB hgb (by rw [List.length_map, List.length_reverse]; exact HX.out) HT.out hnc (by unfold maxLen; omega)
        have HO := Lib.hid ho
        clear ho hfin
        go_wp2
        go_end0
        exact ⟨rfl, HO.out, hb⟩

theorem u8n (n : Nat) : (UInt8.ofNat n).toNat = n % 256 := UInt8.toNat_ofNat'
/-- The four bytes of a digit, the lowest first. -/
def b4 (x : Nat) : List UInt8 := [UInt8.ofNat x, UInt8.ofNat (x / 256), UInt8.ofNat (x / 65536), UInt8.ofNat (x / 16777216)]
def bb (l : List UInt32) : List UInt8 := (l.map fun x => b4 x.toNat).flatten
theorem bb_len (l : List UInt32) : (bb l).length = 4 * l.length := by
  induction l with
  | nil => rfl
  | cons x l ih =>
    have : bb (x :: l) = b4 x.toNat ++ bb l := rfl
    rw [this, List.length_append, ih, List.length_cons]
    show 4 + _ = _
    omega
theorem bb_snoc (l : List UInt32) {k : Nat} (h : k < l.length) : bb (l.take (k + 1)) = bb (l.take k) ++ b4 (l.getD k 0).toNat := by
  rw [take_snoc h]
  unfold bb
  rw [List.map_append, List.flatten_append]
  simp [List.getD, h]
theorem val_b4 {x : Nat} (h : x < 4294967296) : val (b4 x).reverse = x := by
  have e : (b4 x).reverse = [UInt8.ofNat (x / 16777216), UInt8.ofNat (x / 65536), UInt8.ofNat (x / 256), UInt8.ofNat x] := rfl
  rw [e, val_cons, val_cons, val_cons, val_cons, val_nil, u8n, u8n, u8n, u8n]
  simp only [List.length_cons, List.length_nil]
  omega
theorem val_bb (l : List UInt32) : val (bb l).reverse = lw l := by
  induction l with
  | nil => rfl
  | cons x l ih =>
    have : bb (x :: l) = b4 x.toNat ++ bb l := rfl
    rw [this, List.reverse_append, val_append, ih, val_b4 (u32_lt x), lw_cons]
    have h4 : (b4 x.toNat).reverse.length = 4 := rfl
    rw [h4]
    omega
theorem B8n (n : Nat) : B8 (UInt8.ofNat n) = .int .u8 ((n % 256 : Nat) : Int) := by unfold B8; rw [u8n]

set_option maxRecDepth 100000 in
set_option maxHeartbeats 1600000 in
theorem textL (v : Value) (x0 : Nat) (w : World) (hr : Lm x0 v w) (hx : (ld x0).length ≤ 16777216) :
    Calls Tryd.prog 37 #[v] w fun e w' => e = .returned (.string ⟨(be x0).toArray⟩) ∧ Below w.heap.size w w' := by
  obtain ⟨A, c0, rfl, hr⟩ := hr
  have hL := lw_ld x0
  generalize ld x0 = l at hr hx hL ⊢
  obtain ⟨n, hn⟩ : ∃ n, n = l.length := ⟨_, rfl⟩
  rw [← hn] at hr hx ⊢
  have HLL := Lib.hid hn
  have HL := Lib.hid hL
  have hrX : ∀ X, Below w.heap.size w X → Rd X 1 (.slice A n c0) n (l.map W32) := fun X h => hr.below h
  have hrX := Lib.hid hrX
  clear hn hL
  go_enter Tryd.func37, Tryd.ntmps37
  go_wp2
  go_loopw [3, 8] (fun ov kv wr => ∃ k : Nat, k ≤ n ∧ kv = .int .i64 (k : Int) ∧ wr.ownsRow w.heap.size 5 1 ov (4 * k) ((bb (l.take k)).map B8) ∧ Below w.heap.size w wr) (fun _ kv _ => n - (intOf kv).toNat)
  case atStart => exact ⟨0, by omega, rfl, own_nil _ _ _, Below.refl _ _⟩
  case round =>
    obtain ⟨k, hk, rfl, hown, hb⟩ := hrel
    have hR := Rd.of_own hown
    obtain ⟨A1, c2, rfl, hc2, hc3⟩ := hR.form
    by_cases hlt : k < n
    · obtain ⟨b1, o1, rfl, hb1, hc1⟩ := (hrX.out _ hb).digit hlt
      obtain ⟨x, hx2⟩ : ∃ x, x = (l.getD k 0).toNat := ⟨_, rfl⟩
      rw [← hx2] at hc1
      have bx : x < 4294967296 := hx2 ▸ u32_lt _
      have hsn := bb_snoc l (k := k) (by rw [← HLL.out]; exact hlt)
      rw [← hx2] at hsn
      have HS := Lib.hid hsn
      clear hsn hx2 hR
      go_upto_region 4 with (fail)
      refine lx_plain_eq ?_
      simp only [its, Nat.zero_add, Nat.reduceAdd]
      refine lx_vale (by rfl) (.pointer (some ⟨b1, o1 + k, none⟩)) (exec_ix1 Tryd.underlying51 size_u32 _ _ (by rfl) b1 (o1) n c0 k (by omega) (by rfl) (by rfl) (by omega) _) ?_
      simp only [Act.put, List.setIfInBounds_toArray, List.set_cons_succ, List.set_cons_zero]
      refine lx_vale (by rfl) (.int .u32 (x : Int)) (exec_ld 63 _ (by rfl) b1 (o1 + k) (by rfl) _ _ (hc1) (fun X u h => load_u32 b1 (o1 + k) X u h)) ?_
      simp only [Act.put, List.setIfInBounds_toArray, List.set_cons_succ, List.set_cons_zero]
      refine lx_vale (by rfl) (.int .u32 (x : Int)) (by rfl) ?_
      simp only [Act.put, List.setIfInBounds_toArray, List.set_cons_succ, List.set_cons_zero]
      refine lx_nil ?_
      rintro _ rfl _
      go_upto_region 5 with (fail)
      refine lx_plain_eq_to 12 ?_
      simp only [its, List.take, List.drop, Nat.zero_add, Nat.reduceAdd]
      refine lx_vale (by rfl) (.slice A1 (4 * k) c2) (by rfl) ?_
      simp only [Act.put, List.setIfInBounds_toArray, List.set_cons_succ, List.set_cons_zero]
      refine lx_vale (by rfl) (.int .u32 (x : Int)) (by rfl) ?_
      simp only [Act.put, List.setIfInBounds_toArray, List.set_cons_succ, List.set_cons_zero]
      refine lx_vale (by rfl) (.int .u8 ((x : Int) % 256)) (exec_cnv _ _ .u32 .u8 Tryd.underlying63 Tryd.underlying5 _ (by rfl) (x : Int) ((x : Int) % 256) (by rfl) (by rw [IntKind.wrap_u8]) _) ?_
      simp only [Act.put, List.setIfInBounds_toArray, List.set_cons_succ, List.set_cons_zero]
      refine lx_vale (by rfl) (.int .u32 (x : Int)) (by rfl) ?_
      simp only [Act.put, List.setIfInBounds_toArray, List.set_cons_succ, List.set_cons_zero]
      refine lx_vale (by rfl) (.int .u32 ((x : Int) / 256)) (exec_shr _ _ _ _ (by rfl) .u32 .u64 (x : Int) ((x : Int) / 256) 8 (by rfl) (by rfl) rfl (by decide) (by omega) _) ?_
      simp only [Act.put, List.setIfInBounds_toArray, List.set_cons_succ, List.set_cons_zero]
      refine lx_vale (by rfl) (.int .u8 ((x : Int) / 256 % 256)) (exec_cnv _ _ .u32 .u8 Tryd.underlying63 Tryd.underlying5 _ (by rfl) ((x : Int) / 256) ((x : Int) / 256 % 256) (by rfl) (by rw [IntKind.wrap_u8]) _) ?_
      simp only [Act.put, List.setIfInBounds_toArray, List.set_cons_succ, List.set_cons_zero]
      refine lx_vale (by rfl) (.int .u32 (x : Int)) (by rfl) ?_
      simp only [Act.put, List.setIfInBounds_toArray, List.set_cons_succ, List.set_cons_zero]
      refine lx_vale (by rfl) (.int .u32 ((x : Int) / 65536)) (exec_shr _ _ _ _ (by rfl) .u32 .u64 (x : Int) ((x : Int) / 65536) 16 (by rfl) (by rfl) rfl (by decide) (by omega) _) ?_
      simp only [Act.put, List.setIfInBounds_toArray, List.set_cons_succ, List.set_cons_zero]
      refine lx_vale (by rfl) (.int .u8 ((x : Int) / 65536 % 256)) (exec_cnv _ _ .u32 .u8 Tryd.underlying63 Tryd.underlying5 _ (by rfl) ((x : Int) / 65536) ((x : Int) / 65536 % 256) (by rfl) (by rw [IntKind.wrap_u8]) _) ?_
      simp only [Act.put, List.setIfInBounds_toArray, List.set_cons_succ, List.set_cons_zero]
      refine lx_vale (by rfl) (.int .u32 (x : Int)) (by rfl) ?_
      simp only [Act.put, List.setIfInBounds_toArray, List.set_cons_succ, List.set_cons_zero]
      refine lx_vale (by rfl) (.int .u32 ((x : Int) / 16777216)) (exec_shr _ _ _ _ (by rfl) .u32 .u64 (x : Int) ((x : Int) / 16777216) 24 (by rfl) (by rfl) rfl (by decide) (by omega) _) ?_
      simp only [Act.put, List.setIfInBounds_toArray, List.set_cons_succ, List.set_cons_zero]
      refine lx_vale (by rfl) (.int .u8 ((x : Int) / 16777216 % 256)) (exec_cnv _ _ .u32 .u8 Tryd.underlying63 Tryd.underlying5 _ (by rfl) ((x : Int) / 16777216) ((x : Int) / 16777216 % 256) (by rfl) (by rw [IntKind.wrap_u8]) _) ?_
      simp only [Act.put, List.setIfInBounds_toArray, List.set_cons_succ, List.set_cons_zero]
      refine lx_nil ?_
      rintro _ rfl _
      have HD : Hid (#[Value.int .u8 ((x : Int) % 256), .int .u8 ((x : Int) / 256 % 256), .int .u8 ((x : Int) / 65536 % 256), .int .u8 ((x : Int) / 16777216 % 256)] = ((b4 x).map B8).toArray) := by
        show _ = _
        unfold b4
        simp only [List.map_cons, List.map_nil, B8n]
        have e1 : ((x % 256 : Nat) : Int) = (x : Int) % 256 := by omega
        have e2 : ((x / 256 % 256 : Nat) : Int) = (x : Int) / 256 % 256 := by omega
        have e3 : ((x / 65536 % 256 : Nat) : Int) = (x : Int) / 65536 % 256 := by omega
        have e4 : ((x / 16777216 % 256 : Nat) : Int) = (x : Int) / 16777216 % 256 := by omega
        rw [e1, e2, e3, e4]
      clear hc1
      go_wp2_with (at_builtin; refine app_new rfl rfl Tryd.underlying61 info_u8 rfl (w.heap.size) _ (4 * k) _ ((b4 x).map B8) HD.out rfl hown (m := 4) rfl rfl (B8s_one _) (by omega) (by omega) hb.size ?_; intro A3 c3 w3 hown3 hc4 hc5 hb3)
      go_roundw
      case rel => exact ⟨k + 1, by omega, by go_num, by rw [HS.out, List.map_append, Nat.mul_add]; exact hown3, hb.trans hb3⟩
      case measure => simp [intOf]; omega
    · obtain rfl : k = n := by omega
      have ht : l.take k = l := List.take_of_length_le (by rw [← HLL.out]; omega)
      rw [ht] at hown
      have hv : val (bb l).reverse = x0 := by rw [val_bb, HL.out]
      have HV := Lib.hid hv
      clear ht hv hR
      go_wp2_with fail
      refine (reverseC w.heap.size A1 (4 * k) c2 (bb l) _ hown hb.size).mono ?_
      rintro e w2 ⟨rfl, hown2, hb2⟩
      have hs1 := run_str 61 9 5 Tryd.underlying61 Tryd.underlying5 Tryd.underlying9 (Rd.of_own hown2)
      have bb2 := hb.trans hb2
      clear hown hown2 hb hb2
      go_wp2_with fail
      refine (cleanC (bb l).reverse _).mono ?_
      rintro e w3 ⟨rfl, rfl⟩
      rw [HV.out]
      clear hs1
      go_wp2
      go_ret
      exact ⟨rfl, bb2⟩

end Go.Proofs.YtglnabciomlmmaaDoor
