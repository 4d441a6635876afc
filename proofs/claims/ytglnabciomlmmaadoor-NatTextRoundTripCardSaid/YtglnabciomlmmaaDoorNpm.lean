/-
  plus, minus.
-/
import Derived.Test.YtglnabciomlmmaaDoorNcp
namespace Go.Proofs.YtglnabciomlmmaaDoor
open Go.RowKit

theorem u32n (s : Nat) : (UInt32.ofNat s).toNat = s % 4294967296 := UInt32.toNat_ofNat'
theorem lw_take_all {l : List UInt32} {k : Nat} (h : l.length ≤ k) : lw (l.take k) = lw l := by rw [List.take_of_length_le h]
theorem plus_step (l m o : List UInt32) {k c : Nat} (hk : o.length = k) (h : lw o + 4294967296 ^ k * c = lw (l.take k) + lw (m.take k)) (s : Nat) (hs : s = (l.getD k 0).toNat + (m.getD k 0).toNat + c) :
    lw (o ++ [UInt32.ofNat s]) + 4294967296 ^ (k + 1) * (s / 4294967296) = lw (l.take (k + 1)) + lw (m.take (k + 1)) := by
  rw [lw_snoc, lw_take_succ, lw_take_succ, hk, u32n, Nat.pow_succ]
  have e : s % 4294967296 + 4294967296 * (s / 4294967296) = s := Nat.mod_add_div _ _
  have e2 : 4294967296 ^ k * (s % 4294967296) + 4294967296 ^ k * 4294967296 * (s / 4294967296) = 4294967296 ^ k * s := by
    rw [Nat.mul_assoc, ← Nat.mul_add, e]
  rw [hs] at e2
  rw [hs]
  rw [Nat.mul_add, Nat.mul_add] at e2
  omega
theorem minus_step (l m o : List UInt32) {k c : Nat} (hk : o.length = k) (hc : c ≤ 1) (h : lw (l.take k) + 4294967296 ^ k * c = lw o + lw (m.take k)) (d c' : Nat) (hd : (l.getD k 0).toNat + 4294967296 * c' = d + (m.getD k 0).toNat + c) (hd2 : d < 4294967296) :
    lw (l.take (k + 1)) + 4294967296 ^ (k + 1) * c' = lw (o ++ [UInt32.ofNat d]) + lw (m.take (k + 1)) := by
  rw [lw_snoc, lw_take_succ, lw_take_succ, hk, u32n, Nat.mod_eq_of_lt hd2, Nat.pow_succ]
  have e2 : 4294967296 ^ k * (l.getD k 0).toNat + 4294967296 ^ k * 4294967296 * c' = 4294967296 ^ k * d + 4294967296 ^ k * (m.getD k 0).toNat + 4294967296 ^ k * c := by
    rw [Nat.mul_assoc, ← Nat.mul_add, hd, Nat.mul_add, Nat.mul_add]
  omega
theorem W32_of {s : Nat} : Value.int .u32 ((s % 4294967296 : Nat) : Int) = W32 (UInt32.ofNat s) := by
  unfold W32
  rw [u32n]

set_option maxRecDepth 100000 in
set_option maxHeartbeats 1600000 in
theorem plusC (v v' : Value) (x0 y0 : Nat) (w : World) (hr : Lm x0 v w) (hr' : Lm y0 v' w) (hx : (ld x0).length ≤ 16777216) (hy : (ld y0).length ≤ 16777216) :
    Calls Tryd.prog 42 #[v, v'] w fun e w' => ∃ u, e = .returned u ∧ Lm (x0 + y0) u w' ∧ Below w.heap.size w w' := by
  obtain ⟨A, c0, rfl, hr⟩ := hr
  obtain ⟨A', c1, rfl, hr'⟩ := hr'
  have hL := lw_ld x0
  have hM := lw_ld y0
  generalize ld x0 = l at hr hx hL ⊢
  generalize ld y0 = m' at hr' hy hM ⊢
  obtain ⟨n, hn⟩ : ∃ n, n = l.length := ⟨_, rfl⟩
  obtain ⟨m, hm⟩ : ∃ m, m = m'.length := ⟨_, rfl⟩
  rw [← hn] at hr hx ⊢
  rw [← hm] at hr' hy ⊢
  have HLL := Lib.hid hn
  have HMM := Lib.hid hm
  have HSUM : Hid (lw l + lw m' = x0 + y0) := by show _ = _; rw [hL, hM]
  clear hn hm hL hM
  obtain ⟨N, hN⟩ : ∃ N, N = max n m := ⟨_, rfl⟩
  have hNn : n ≤ N := by omega
  have hNm : m ≤ N := by omega
  have hNb : N ≤ 16777216 := by omega
  have hrX : ∀ X, Below w.heap.size w X → Rd X 1 (.slice A n c0) n (l.map W32) := fun X h => hr.below h
  have hr'X : ∀ X, Below w.heap.size w X → Rd X 1 (.slice A' m c1) m (m'.map W32) := fun X h => hr'.below h
  have hrX := Lib.hid hrX
  have hr'X := Lib.hid hr'X
  go_enter Tryd.func42, Tryd.ntmps42
  go_upto_region 3 with (fail)
  refine lx_plain_eq ?_
  simp only [its, Nat.zero_add, Nat.reduceAdd]
  refine lx_vale (by rfl) (.slice A n c0) (by rfl) ?_
  simp only [Act.put, List.setIfInBounds_toArray, List.set_cons_succ, List.set_cons_zero]
  refine lx_vale (by rfl) (.int .i64 (n : Int)) (exec_lenv Tryd.underlying51 _ (by rfl) A n c0 (by rfl) _ rfl _) ?_
  simp only [Act.put, List.setIfInBounds_toArray, List.set_cons_succ, List.set_cons_zero]
  refine lx_vale (by rfl) (.slice A' m c1) (by rfl) ?_
  simp only [Act.put, List.setIfInBounds_toArray, List.set_cons_succ, List.set_cons_zero]
  refine lx_vale (by rfl) (.int .i64 (m : Int)) (exec_lenv Tryd.underlying51 _ (by rfl) A' m c1 (by rfl) _ rfl _) ?_
  simp only [Act.put, List.setIfInBounds_toArray, List.set_cons_succ, List.set_cons_zero]
  refine lx_vale (by rfl) (.int .i64 (N : Int)) (exec_max _ _ (by rfl) .i64 (n : Int) (m : Int) (N : Int) (by rfl) (by rfl) (by omega) _) ?_
  simp only [Act.put, List.setIfInBounds_toArray, List.set_cons_succ, List.set_cons_zero]
  refine lx_vale (by rfl) (.int .i64 ((N : Int) + 1)) (exec_add _ _ _ _ (by rfl) (N : Int) 1 ((N : Int) + 1) (by rfl) (by rfl) (by omega) (by omega) (by omega) _) ?_
  simp only [Act.put, List.setIfInBounds_toArray, List.set_cons_succ, List.set_cons_zero]
  refine lx_vale (by rfl) (.int .i64 0) ((by rfl)) ?_
  simp only [Act.put, List.setIfInBounds_toArray, List.set_cons_succ, List.set_cons_zero]
  refine lx_nil ?_
  rintro _ rfl _
  clear hN
  go_wp2
  go_loopw [5, 6, 15] (fun ov cv kv wr => ∃ (o : List UInt32) (c : Nat), o.length ≤ N + 1 ∧ c ≤ 1 ∧ kv = .int .i64 (o.length : Int) ∧ cv = .int .u64 (c : Int) ∧ lw o + 4294967296 ^ o.length * c = lw (l.take o.length) + lw (m'.take o.length) ∧ wr.ownsRow w.heap.size 63 1 ov o.length (o.map W32) ∧ Below w.heap.size w wr) (fun _ _ kv _ => N + 1 - (intOf kv).toNat)
  case atStart => exact ⟨[], 0, by simp, by omega, rfl, rfl, by simp [lw_nil], own_nil _ _ _, Below.refl _ _⟩
  case round =>
    obtain ⟨o, c, ho, hc, rfl, rfl, hlw, hown, hb⟩ := hrel
    have hR := Rd.of_own hown
    obtain ⟨A1, c2, rfl, hc2, hc3⟩ := hR.form
    obtain ⟨k, hk⟩ : ∃ k, k = o.length := ⟨_, rfl⟩
    rw [← hk] at hlw hown hc2 ho hR ⊢
    have HK : Hid (o.length = k) := hk.symm
    by_cases hlt : k < N + 1
    · obtain ⟨x, hx2⟩ : ∃ x, x = (l.getD k 0).toNat := ⟨_, rfl⟩
      obtain ⟨y, hy2⟩ : ∃ y, y = (m'.getD k 0).toNat := ⟨_, rfl⟩
      have hst := plus_step l m' o hk.symm hlw (x + y + c) (by rw [hx2, hy2])
      have HST := Lib.hid hst
      have bx : x < 4294967296 := hx2 ▸ u32_lt _
      have by' : y < 4294967296 := hy2 ▸ u32_lt _
      have HX : Hid ((l.getD k 0).toNat = x) := hx2.symm
      have HY : Hid ((m'.getD k 0).toNat = y) := hy2.symm
      clear hx2 hy2 hst hlw hk hR
      go_upto_region 6 with (fail)
      refine lx_plain [] (lasts_nil) ?_
      simp only [its, Nat.zero_add, Nat.reduceAdd]
      refine lx_val (by rfl) (.slice A n c0) (fun X _ _ => by rfl) ?_
      simp only [Act.put, List.setIfInBounds_toArray, List.set_cons_succ, List.set_cons_zero]
      refine lx_val (by rfl) (.int .i64 (k : Int)) (fun X _ _ => by rfl) ?_
      simp only [Act.put, List.setIfInBounds_toArray, List.set_cons_succ, List.set_cons_zero]
      refine lx_call (by rfl) 46 _ _ (by rfl) (.int .u64 (x : Int)) [.slice A n c0, .int .i64 (k : Int)] (by rfl) (by kernel_rfl) (fun _ => by go_simp) (fun X hX hF => (atC A n c0 l k X (hrX.out X (bel_next hb hX))).mono fun e X' ⟨h1, h2⟩ => ⟨by rw [h1, HX.out], since_eq h2⟩) ?_
      simp only [Act.put, List.setIfInBounds_toArray, List.set_cons_succ, List.set_cons_zero]
      refine lx_val (by rfl) (.slice A' m c1) (fun X _ _ => by rfl) ?_
      simp only [Act.put, List.setIfInBounds_toArray, List.set_cons_succ, List.set_cons_zero]
      refine lx_val (by rfl) (.int .i64 (k : Int)) (fun X _ _ => by rfl) ?_
      simp only [Act.put, List.setIfInBounds_toArray, List.set_cons_succ, List.set_cons_zero]
      refine lx_call (by rfl) 46 _ _ (by rfl) (.int .u64 (y : Int)) [.slice A' m c1, .int .i64 (k : Int)] (by rfl) (by kernel_rfl) (fun _ => by go_simp) (fun X hX hF => (atC A' m c1 m' k X (hr'X.out X (bel_next hb hX))).mono fun e X' ⟨h1, h2⟩ => ⟨by rw [h1, HY.out], since_eq h2⟩) ?_
      simp only [Act.put, List.setIfInBounds_toArray, List.set_cons_succ, List.set_cons_zero]
      refine lx_val (by rfl) (.int .u64 ((x + y : Nat) : Int)) (fun X hX hF => exec_addk _ _ _ _ (by rfl) .u64 (x : Int) (y : Int) ((x + y : Nat) : Int) (by rfl) (by rfl) (by rw [w64 (by omega) (by omega)]; omega) X) ?_
      simp only [Act.put, List.setIfInBounds_toArray, List.set_cons_succ, List.set_cons_zero]
      refine lx_val (by rfl) (.int .u64 (c : Int)) (fun X _ _ => by rfl) ?_
      simp only [Act.put, List.setIfInBounds_toArray, List.set_cons_succ, List.set_cons_zero]
      refine lx_val (by rfl) (.int .u64 ((x + y + c : Nat) : Int)) (fun X hX hF => exec_addk _ _ _ _ (by rfl) .u64 ((x + y : Nat) : Int) (c : Int) ((x + y + c : Nat) : Int) (by rfl) (by rfl) (by rw [w64 (by omega) (by omega)]; omega) X) ?_
      simp only [Act.put, List.setIfInBounds_toArray, List.set_cons_succ, List.set_cons_zero]
      refine lx_val (by rfl) (.int .u64 ((x + y + c : Nat) : Int)) (fun X _ _ => by rfl) ?_
      simp only [Act.put, List.setIfInBounds_toArray, List.set_cons_succ, List.set_cons_zero]
      refine lx_nil ?_
      intro X hX _
      have hown := own_below hown hX
      have hb := bel_next hb hX
      clear hX
      have hs3 : x + y + c < 8589934592 := by omega
      generalize x + y + c = s at HST hs3 ⊢
      clear bx by' HX HY
      go_upto_region 7 with (fail)
      refine lx_plain_eq_to 3 ?_
      simp only [its, List.take, List.drop, Nat.zero_add, Nat.reduceAdd]
      refine lx_vale (by rfl) (.slice A1 k c2) (by rfl) ?_
      simp only [Act.put, List.setIfInBounds_toArray, List.set_cons_succ, List.set_cons_zero]
      refine lx_vale (by rfl) (.int .u64 (s : Int)) (by rfl) ?_
      simp only [Act.put, List.setIfInBounds_toArray, List.set_cons_succ, List.set_cons_zero]
      refine lx_vale (by rfl) (.int .u32 ((s % 4294967296 : Nat) : Int)) (exec_cnv _ _ .u64 .u32 Tryd.underlying66 Tryd.underlying63 _ (by rfl) (s : Int) ((s % 4294967296 : Nat) : Int) (by rfl) (by rw [IntKind.wrap_u32]; omega) _) ?_
      simp only [Act.put, List.setIfInBounds_toArray, List.set_cons_succ, List.set_cons_zero]
      refine lx_nil ?_
      rintro _ rfl _
      have HD : Hid (#[Value.int .u32 ((s % 4294967296 : Nat) : Int)] = [W32 (UInt32.ofNat s)].toArray) := by show _ = _; rw [W32_of]
      go_wp2_with (at_builtin; refine app_new rfl rfl Tryd.underlying51 info_u32 rfl (w.heap.size) _ (k) _ [W32 (UInt32.ofNat s)] HD.out rfl hown (m := 1) rfl rfl (fun u hu => by rw [List.mem_singleton.1 hu]; rfl) (by omega) (by omega) hb.size ?_; intro A3 c3 w3 hown3 hc3 hc4 hb3)
      go_roundw
      case rel =>
        refine ⟨o ++ [UInt32.ofNat s], s / 4294967296, ?_, by omega, int_eq ?_, int_eq (by omega), ?_, ?_, hb.trans hb3⟩
        · rw [List.length_append, HK.out, List.length_singleton]; omega
        · rw [List.length_append, HK.out, List.length_singleton]; omega
        · rw [List.length_append, HK.out, List.length_singleton]; exact HST.out
        · rw [List.length_append, HK.out, List.length_singleton, List.map_append]; exact hown3
      case measure => simp [intOf]; omega
    · have hkk : k = N + 1 := by omega
      have h1 : lw (l.take k) = lw l := lw_take_all (by rw [← HLL.out]; omega)
      have h2 : lw (m'.take k) = lw m' := lw_take_all (by rw [← HMM.out]; omega)
      have hz : lw o = x0 + y0 := by
        rw [h1, h2] at hlw
        have b1 := lw_lt l
        have b2 := lw_lt m'
        rw [← HLL.out] at b1
        rw [← HMM.out] at b2
        have b3 : 4294967296 ^ n ≤ 4294967296 ^ N := Nat.pow_le_pow_right (by omega) hNn
        have b4 : 4294967296 ^ m ≤ 4294967296 ^ N := Nat.pow_le_pow_right (by omega) hNm
        have b5 : 4294967296 ^ k = 4294967296 ^ N * 4294967296 := by rw [hkk, Nat.pow_succ]
        have hs := HSUM.out
        rcases Nat.eq_zero_or_pos c with h0 | h0
        · subst h0; omega
        · have : 4294967296 ^ k ≤ 4294967296 ^ k * c := Nat.le_mul_of_pos_right _ h0
          omega
      have HZ := Lib.hid hz
      clear hz hlw hown h1 h2 hkk hk
      go_wp2_with fail
      refine (trimC A1 k c2 o _ hR (by omega)).mono ?_
      rintro e w' ⟨rfl, ht, rfl⟩
      rw [HZ.out] at ht
      rw [HZ.out]
      have hpre := hR.pre1 (k := (ld (x0 + y0)).length) (by have := congrArg List.length ht; rw [List.length_take, HK.out] at this; omega)
      rw [ht] at hpre
      have HT := Lib.hid ht
      clear ht
      go_wp2
      go_ret
      exact ⟨_, rfl, ⟨A1, c2, rfl, hpre⟩, hb⟩

theorem minus_word {x y c : Nat} (hx : x < 4294967296) (hy : y < 4294967296) (hc : c ≤ 1) : ∃ D d c' : Nat, IntKind.u64.wrap (IntKind.u64.wrap ((x : Int) - (y : Int)) - (c : Int)) = (D : Int) ∧ D % 4294967296 = d ∧ D / 9223372036854775808 = c' ∧ c' ≤ 1 ∧ d < 4294967296 ∧ x + 4294967296 * c' = d + y + c := by
  rw [IntKind.wrap_u64, IntKind.wrap_u64]
  by_cases h : y + c ≤ x
  · exact ⟨x - y - c, x - y - c, 0, by omega, by omega, by omega, by omega, by omega, by omega⟩
  · exact ⟨18446744073709551616 + x - y - c, 4294967296 + x - y - c, 1, by omega, by omega, by omega, by omega, by omega, by omega⟩
/-- A slice of new memory, or nil. -/
def Fr (base : Nat) (v : Value) : Prop := ∃ A n c, v = .slice A n c ∧ (A = none ∨ ∃ g, A = some ⟨g, 0, none⟩ ∧ base ≤ g)
theorem Fr.of_own {w : World} {base n c : Nat} {A : Option Addr} {e : TypeId} {xs : List Value} (h : w.ownsRow base e 1 (.slice A n c) n xs) : Fr base (.slice A n c) := by
  obtain ⟨_, hr⟩ := h
  rcases hr with ⟨h1, _⟩ | ⟨g, cap, cur, hv, hb, _⟩
  · injection h1 with h1 h2 h3
    exact ⟨A, n, c, rfl, .inl h1⟩
  · injection hv with h1 h2 h3
    exact ⟨A, n, c, rfl, .inr ⟨g, h1, hb⟩⟩
theorem Fr.len {base n c : Nat} {A : Option Addr} (h : Fr base (.slice A n c)) (m : Nat) : Fr base (.slice A m c) := by
  obtain ⟨A', n', c', hv, h⟩ := h
  injection hv with h1 _ _
  subst h1
  exact ⟨A, m, c, rfl, h⟩
set_option maxRecDepth 100000 in
set_option maxHeartbeats 1600000 in
theorem minusF (v v' : Value) (x0 y0 : Nat) (w : World) (hr : Lm x0 v w) (hr' : Lm y0 v' w) (hx : (ld x0).length ≤ 16777216) (hle : y0 ≤ x0) :
    Calls Tryd.prog 36 #[v, v'] w fun e w' => ∃ u, e = .returned u ∧ Lm (x0 - y0) u w' ∧ Fr w.heap.size u ∧ Below w.heap.size w w' := by
  have hmono := ld_mono hle
  obtain ⟨A, c0, rfl, hr⟩ := hr
  obtain ⟨A', c1, rfl, hr'⟩ := hr'
  have hL := lw_ld x0
  have hM := lw_ld y0
  generalize ld x0 = l at hr hx hL hmono ⊢
  generalize ld y0 = m' at hr' hM hmono ⊢
  obtain ⟨n, hn⟩ : ∃ n, n = l.length := ⟨_, rfl⟩
  obtain ⟨m, hm⟩ : ∃ m, m = m'.length := ⟨_, rfl⟩
  rw [← hn] at hr hx hmono ⊢
  rw [← hm] at hr' hmono ⊢
  have HLL := Lib.hid hn
  have HMM := Lib.hid hm
  have HL := Lib.hid hL
  have HM := Lib.hid hM
  clear hn hm hL hM
  have hrX : ∀ X, Below w.heap.size w X → Rd X 1 (.slice A n c0) n (l.map W32) := fun X h => hr.below h
  have hr'X : ∀ X, Below w.heap.size w X → Rd X 1 (.slice A' m c1) m (m'.map W32) := fun X h => hr'.below h
  have hrX := Lib.hid hrX
  have hr'X := Lib.hid hr'X
  go_enter Tryd.func36, Tryd.ntmps36
  go_wp2
  go_loopw [5, 6, 11] (fun ov cv kv wr => ∃ (o : List UInt32) (c : Nat), o.length ≤ n ∧ c ≤ 1 ∧ kv = .int .i64 (o.length : Int) ∧ cv = .int .u64 (c : Int) ∧ lw (l.take o.length) + 4294967296 ^ o.length * c = lw o + lw (m'.take o.length) ∧ wr.ownsRow w.heap.size 63 1 ov o.length (o.map W32) ∧ Below w.heap.size w wr) (fun _ _ kv _ => n - (intOf kv).toNat)
  case atStart => exact ⟨[], 0, by simp, by omega, rfl, rfl, by simp [lw_nil], own_nil _ _ _, Below.refl _ _⟩
  case round =>
    obtain ⟨o, c, ho, hc, rfl, rfl, hlw, hown, hb⟩ := hrel
    have hR := Rd.of_own hown
    obtain ⟨A1, c2, rfl, hc2, hc3⟩ := hR.form
    obtain ⟨k, hk⟩ : ∃ k, k = o.length := ⟨_, rfl⟩
    rw [← hk] at hlw hown hc2 ho hR ⊢
    have HK : Hid (o.length = k) := hk.symm
    by_cases hlt : k < n
    · obtain ⟨b1, o1, rfl, hb1, hc1⟩ := (hrX.out _ hb).digit hlt
      obtain ⟨x, hx2⟩ : ∃ x, x = (l.getD k 0).toNat := ⟨_, rfl⟩
      obtain ⟨y, hy2⟩ : ∃ y, y = (m'.getD k 0).toNat := ⟨_, rfl⟩
      have bx : x < 4294967296 := hx2 ▸ u32_lt _
      have by' : y < 4294967296 := hy2 ▸ u32_lt _
      obtain ⟨D, d, c', hD, hd, hcc, hc1', hd2, hbal⟩ := minus_word bx by' hc
      have hst := minus_step l m' o hk.symm hc hlw d c' (by rw [← hx2, ← hy2]; exact hbal) hd2
      have HST := Lib.hid hst
      have HDD := Lib.hid hD
      rw [← hx2] at hc1
      have HY : Hid ((m'.getD k 0).toNat = y) := hy2.symm
      clear hx2 hy2 hst hlw hk hR hD hbal
      go_upto_region 6 with (fail)
      refine lx_region [] (by kernel_rfl) (by kernel_rfl) (lasts_nil) ?_
      simp only [its, Nat.zero_add, Nat.reduceAdd]
      refine lx_val (by rfl) (.slice (some ⟨b1, o1, none⟩) n c0) (fun X _ _ => by rfl) ?_
      simp only [Act.put, List.setIfInBounds_toArray, List.set_cons_succ, List.set_cons_zero]
      refine lx_val (by rfl) (.int .i64 (k : Int)) (fun X _ _ => by rfl) ?_
      simp only [Act.put, List.setIfInBounds_toArray, List.set_cons_succ, List.set_cons_zero]
      refine lx_val (by rfl) (.pointer (some ⟨b1, o1 + k, none⟩)) (fun X hX hF => exec_ix1 Tryd.underlying51 size_u32 _ _ (by rfl) b1 (o1) n c0 k (by omega) (by rfl) (by rfl) (by omega) X) ?_
      simp only [Act.put, List.setIfInBounds_toArray, List.set_cons_succ, List.set_cons_zero]
      refine lx_val (by rfl) (.int .u32 (x : Int)) (fun X hX hF => exec_ld 63 _ (by rfl) b1 (o1 + k) (by rfl) _ X ((Below.cell hX (p := ⟨b1, o1 + k, none⟩) hb1).trans hc1) (fun X u h => load_u32 b1 (o1 + k) X u h)) ?_
      simp only [Act.put, List.setIfInBounds_toArray, List.set_cons_succ, List.set_cons_zero]
      refine lx_val (by rfl) (.int .u64 (x : Int)) (fun X hX hF => exec_cnv _ _ .u32 .u64 Tryd.underlying63 Tryd.underlying66 _ (by rfl) (x : Int) (x : Int) (by rfl) (by rw [w64 (by omega) (by omega)]) X) ?_
      simp only [Act.put, List.setIfInBounds_toArray, List.set_cons_succ, List.set_cons_zero]
      refine lx_val (by rfl) (.slice A' m c1) (fun X _ _ => by rfl) ?_
      simp only [Act.put, List.setIfInBounds_toArray, List.set_cons_succ, List.set_cons_zero]
      refine lx_val (by rfl) (.int .i64 (k : Int)) (fun X _ _ => by rfl) ?_
      simp only [Act.put, List.setIfInBounds_toArray, List.set_cons_succ, List.set_cons_zero]
      refine lx_call (by rfl) 46 _ _ (by rfl) (.int .u64 (y : Int)) [.slice A' m c1, .int .i64 (k : Int)] (by rfl) (by kernel_rfl) (fun _ => by go_simp) (fun X hX hF => (atC A' m c1 m' k X (hr'X.out X (bel_next hb hX))).mono fun e X' ⟨h1, h2⟩ => ⟨by rw [h1, HY.out], since_eq h2⟩) ?_
      simp only [Act.put, List.setIfInBounds_toArray, List.set_cons_succ, List.set_cons_zero]
      refine lx_val (by rfl) (.int .u64 (IntKind.u64.wrap ((x : Int) - (y : Int)))) (fun X hX hF => exec_subk _ _ _ _ (by rfl) .u64 (x : Int) (y : Int) (IntKind.u64.wrap ((x : Int) - (y : Int))) (by rfl) (by rfl) rfl X) ?_
      simp only [Act.put, List.setIfInBounds_toArray, List.set_cons_succ, List.set_cons_zero]
      refine lx_val (by rfl) (.int .u64 (c : Int)) (fun X _ _ => by rfl) ?_
      simp only [Act.put, List.setIfInBounds_toArray, List.set_cons_succ, List.set_cons_zero]
      refine lx_val (by rfl) (.int .u64 ((D : Nat) : Int)) (fun X hX hF => exec_subk _ _ _ _ (by rfl) .u64 (IntKind.u64.wrap ((x : Int) - (y : Int))) (c : Int) ((D : Nat) : Int) (by rfl) (by rfl) HDD.out X) ?_
      simp only [Act.put, List.setIfInBounds_toArray, List.set_cons_succ, List.set_cons_zero]
      refine lx_val (by rfl) (.int .u64 ((D : Nat) : Int)) (fun X _ _ => by rfl) ?_
      simp only [Act.put, List.setIfInBounds_toArray, List.set_cons_succ, List.set_cons_zero]
      refine lx_nil ?_
      intro X hX _
      have hown := own_below hown hX
      have hb := bel_next hb hX
      clear hX hc1 HDD
      go_upto_region 7 with (fail)
      refine lx_plain_eq_to 3 ?_
      simp only [its, List.take, List.drop, Nat.zero_add, Nat.reduceAdd]
      refine lx_vale (by rfl) (.slice A1 k c2) (by rfl) ?_
      simp only [Act.put, List.setIfInBounds_toArray, List.set_cons_succ, List.set_cons_zero]
      refine lx_vale (by rfl) (.int .u64 ((D : Nat) : Int)) (by rfl) ?_
      simp only [Act.put, List.setIfInBounds_toArray, List.set_cons_succ, List.set_cons_zero]
      refine lx_vale (by rfl) (.int .u32 ((d : Nat) : Int)) (exec_cnv _ _ .u64 .u32 Tryd.underlying66 Tryd.underlying63 _ (by rfl) ((D : Nat) : Int) ((d : Nat) : Int) (by rfl) (by rw [IntKind.wrap_u32]; omega) _) ?_
      simp only [Act.put, List.setIfInBounds_toArray, List.set_cons_succ, List.set_cons_zero]
      refine lx_nil ?_
      rintro _ rfl _
      have HD : Hid (#[Value.int .u32 ((d : Nat) : Int)] = [W32 (UInt32.ofNat d)].toArray) := by show _ = _; rw [← W32_of, Nat.mod_eq_of_lt hd2]
      have hcc1 : D / 9223372036854775808 ≤ c' := by omega
      have hcc2 : c' ≤ D / 9223372036854775808 := by omega
      clear hd hcc
      go_wp2_with (at_builtin; refine app_new rfl rfl Tryd.underlying51 info_u32 rfl (w.heap.size) _ (k) _ [W32 (UInt32.ofNat d)] HD.out rfl hown (m := 1) rfl rfl (fun u hu => by rw [List.mem_singleton.1 hu]; rfl) (by omega) (by omega) hb.size ?_; intro A3 c3 w3 hown3 hc3 hc4 hb3)
      go_roundw
      case rel =>
        refine ⟨o ++ [UInt32.ofNat d], c', ?_, by omega, int_eq ?_, int_eq (by omega), ?_, ?_, hb.trans hb3⟩
        · rw [List.length_append, HK.out, List.length_singleton]; omega
        · rw [List.length_append, HK.out, List.length_singleton]; omega
        · rw [List.length_append, HK.out, List.length_singleton]; exact HST.out
        · rw [List.length_append, HK.out, List.length_singleton, List.map_append]; exact hown3
      case measure => simp [intOf]; omega
    · have hkk : k = n := by omega
      have h1 : lw (l.take k) = lw l := lw_take_all (by rw [← HLL.out]; omega)
      have h2 : lw (m'.take k) = lw m' := lw_take_all (by rw [← HMM.out]; omega)
      have hz : lw o = x0 - y0 := by
        rw [h1, h2, HL.out, HM.out] at hlw
        have b1 := lw_lt o
        rw [HK.out] at b1
        rcases Nat.eq_zero_or_pos c with h0 | h0
        · subst h0; omega
        · have : 4294967296 ^ k ≤ 4294967296 ^ k * c := Nat.le_mul_of_pos_right _ h0
          omega
      have HZ := Lib.hid hz
      have HFR := Lib.hid (Fr.of_own hown)
      clear hz hlw hown h1 h2 hkk hk
      go_wp2_with fail
      refine (trimC A1 k c2 o _ hR (by omega)).mono ?_
      rintro e w' ⟨rfl, ht, rfl⟩
      rw [HZ.out] at ht
      rw [HZ.out]
      have hpre := hR.pre1 (k := (ld (x0 - y0)).length) (by have := congrArg List.length ht; rw [List.length_take, HK.out] at this; omega)
      rw [ht] at hpre
      have HT := Lib.hid ht
      clear ht
      go_wp2
      go_ret
      exact ⟨_, rfl, ⟨A1, c2, rfl, hpre⟩, HFR.out.len _, hb⟩
theorem minusC (v v' : Value) (x0 y0 : Nat) (w : World) (hr : Lm x0 v w) (hr' : Lm y0 v' w) (hx : (ld x0).length ≤ 16777216) (hle : y0 ≤ x0) :
    Calls Tryd.prog 36 #[v, v'] w fun e w' => ∃ u, e = .returned u ∧ Lm (x0 - y0) u w' ∧ Below w.heap.size w w' :=
  (minusF v v' x0 y0 w hr hr' hx hle).mono fun _ _ ⟨u, h1, h2, _, h4⟩ => ⟨u, h1, h2, h4⟩

end Go.Proofs.YtglnabciomlmmaaDoor
