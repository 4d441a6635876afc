/-
  times.
-/
import Derived.Test.YtglnabciomlmmaaDoorNpm
namespace Go.Proofs.YtglnabciomlmmaaDoor
open Go.RowKit

theorem lw_set {l : List UInt32} {j : Nat} (hj : j < l.length) (d : UInt32) : lw (l.set j d) + 4294967296 ^ j * (l.getD j 0).toNat = lw l + 4294967296 ^ j * d.toNat := by
  have h1 : l = l.take j ++ l[j] :: l.drop (j + 1) := by
    conv => lhs; rw [← List.take_append_drop j l, List.drop_eq_getElem_cons hj]
  have h2 : l.set j d = l.take j ++ d :: l.drop (j + 1) := by
    rw [List.set_eq_take_append_cons_drop, if_pos hj]
  have h3 : l.getD j 0 = l[j] := by simp [List.getD, hj]
  have h4 : (l.take j).length = j := by rw [List.length_take]; omega
  rw [h3, h2, lw_append, lw_cons, h4]
  conv => rhs; rw [h1, lw_append, lw_cons, h4]
  rw [Nat.mul_add, Nat.mul_add]
  omega
theorem times_step {O m' : List UInt32} {T0 a i k c s d' : Nat} (hj : i + k < O.length) (h : lw O + 4294967296 ^ (i + k) * c = T0 + 4294967296 ^ i * a * lw (m'.take k)) (hs : s = a * (m'.getD k 0).toNat + (O.getD (i + k) 0).toNat + c) (hd : d' = s / 4294967296) :
    lw (O.set (i + k) (UInt32.ofNat s)) + 4294967296 ^ (i + (k + 1)) * d' = T0 + 4294967296 ^ i * a * lw (m'.take (k + 1)) := by
  have h1 := lw_set hj (UInt32.ofNat s)
  rw [u32n] at h1
  rw [lw_take_succ, show i + (k + 1) = (i + k) + 1 by omega, Nat.pow_succ]
  have e : s % 4294967296 + 4294967296 * (s / 4294967296) = s := Nat.mod_add_div _ _
  have e2 : 4294967296 ^ (i + k) * (s % 4294967296) + 4294967296 ^ (i + k) * 4294967296 * d' = 4294967296 ^ (i + k) * s := by
    rw [hd, Nat.mul_assoc, ← Nat.mul_add, e]
  have e3 : 4294967296 ^ (i + k) * s = 4294967296 ^ (i + k) * (a * (m'.getD k 0).toNat) + 4294967296 ^ (i + k) * (O.getD (i + k) 0).toNat + 4294967296 ^ (i + k) * c := by
    rw [hs, Nat.mul_add, Nat.mul_add]
  have e4 : 4294967296 ^ i * a * (lw (m'.take k) + 4294967296 ^ k * (m'.getD k 0).toNat) = 4294967296 ^ i * a * lw (m'.take k) + 4294967296 ^ (i + k) * (a * (m'.getD k 0).toNat) := by
    rw [Nat.mul_add, Nat.pow_add, Nat.mul_assoc (4294967296 ^ i) a (4294967296 ^ k * _), Nat.mul_assoc (4294967296 ^ i) (4294967296 ^ k) _, Nat.mul_left_comm a]
  rw [e4]
  omega
/-- Where the carry is not used up the place is inside. -/
theorem times_in {O l m' : List UInt32} {i k c m : Nat} (hm : m = m'.length) (hi : i < l.length) (h : lw O + 4294967296 ^ (i + k) * c = lw (l.take i) * lw m' + 4294967296 ^ i * (l.getD i 0).toNat * lw m') (hc : 0 < c) : k ≤ m := by
  have h1 : lw (l.take i) * lw m' + 4294967296 ^ i * (l.getD i 0).toNat * lw m' = lw (l.take (i + 1)) * lw m' := by
    rw [lw_take_succ, Nat.add_mul]
  have h2 := lw_lt (l.take (i + 1))
  have h3 : (l.take (i + 1)).length = i + 1 := by rw [List.length_take]; omega
  rw [h3] at h2
  have h4 := lw_lt m'
  rw [← hm] at h4
  have h5 : lw (l.take (i + 1)) * lw m' < 4294967296 ^ (i + 1) * 4294967296 ^ m := by
    rcases Nat.eq_zero_or_pos (lw m') with h0 | h0
    · rw [h0, Nat.mul_zero]
      exact Nat.mul_pos (Nat.pow_pos (by omega)) (Nat.pow_pos (by omega))
    · exact Nat.mul_lt_mul_of_lt_of_le h2 (Nat.le_of_lt h4) (Nat.pow_pos (by omega))
  rw [← Nat.pow_add] at h5
  have h6 : 4294967296 ^ (i + k) ≤ 4294967296 ^ (i + k) * c := Nat.le_mul_of_pos_right _ hc
  have h7 : 4294967296 ^ (i + k) < 4294967296 ^ (i + 1 + m) := by omega
  have h8 := (Nat.pow_lt_pow_iff_right (a := 4294967296) (by omega)).1 h7
  omega
theorem set_map (l : List UInt32) (j : Nat) (d : UInt32) : (l.map W32).set j (W32 d) = (l.set j d).map W32 := by rw [List.map_set]
theorem Blk.digit {w : World} {g : Nat} {t : TypeId} {l : List UInt32} (h : Blk w g t (l.map W32)) {j : Nat} (hj : j < l.length) : w.cell? ⟨g, j, none⟩ = some (.int .u32 ((l.getD j 0).toNat : Int)) := by
  have := h.cell (j := j) (u := W32 l[j]) (by simp [hj])
  rw [this]
  simp [W32, List.getD, hj]
theorem Blk.rd {w : World} {g n : Nat} {t : TypeId} {l : List UInt32} (h : Blk w g t (l.map W32)) (hn : l.length = n) (hm : n ≤ maxLen) : Rd w 1 (.slice (some ⟨g, 0, none⟩) n n) n (l.map W32) :=
  Rd.of_cl h.cl h.lt (by rw [List.length_map, hn]) (Nat.le_refl _) hm
theorem zeros_lw (n : Nat) : lw (List.replicate n (0 : UInt32)) = 0 := lw_zeros n

set_option maxRecDepth 100000 in
set_option maxHeartbeats 1600000 in
theorem timesC (v v' : Value) (x0 y0 : Nat) (w : World) (hr : Lm x0 v w) (hr' : Lm y0 v' w) (hx : (ld x0).length ≤ 16777216) (hy : (ld y0).length ≤ 16777216) :
    Calls Tryd.prog 43 #[v, v'] w fun e w' => ∃ u, e = .returned u ∧ Lm (x0 * y0) u w' ∧ Below w.heap.size w w' := by
  obtain ⟨A, c0, rfl, hr⟩ := hr
  obtain ⟨A', c1, rfl, hr'⟩ := hr'
  have hL := lw_ld x0
  have hM := lw_ld y0
  generalize ld x0 = l at hr hx hL ⊢
  generalize ld y0 = m' at hr' hy hM ⊢
  obtain ⟨n, hn⟩ : ∃ n, n = l.length := ⟨_, rfl⟩
  obtain ⟨m, hm⟩ : ∃ m, m = m'.length := ⟨_, rfl⟩
  rw [← hn] at hr hx ⊢
  rw [← hm] at hr' hy ⊢
  have HLL := Lib.hid hn
  have HMM := Lib.hid hm
  have HL := Lib.hid hL
  have HM := Lib.hid hM
  obtain ⟨N, hN⟩ : ∃ N, N = n + m + 1 := ⟨_, rfl⟩
  have hN2 : N ≤ n + m + 1 := by omega
  have hN3 : n + m + 1 ≤ N := by omega
  clear hn hm hL hM hN
  have hrX : ∀ X, Below w.heap.size w X → Rd X 1 (.slice A n c0) n (l.map W32) := fun X h => hr.below h
  have hr'X : ∀ X, Below w.heap.size w X → Rd X 1 (.slice A' m c1) m (m'.map W32) := fun X h => hr'.below h
  have hrX := Lib.hid hrX
  have hr'X := Lib.hid hr'X
  go_enter Tryd.func43, Tryd.ntmps43
  go_upto_region 1 with (fail)
  refine lx_plain [none, none, none, none, none, none, some (MadeB N w.heap.size)] (lasts_none (lasts_none (lasts_none (lasts_none (lasts_none (lasts_none (lasts_some (MadeB.lasts _ _) (lasts_nil)))))))) ?_
  simp only [its, Nat.zero_add, Nat.reduceAdd]
  refine lx_val (by rfl) (.slice A n c0) (fun X _ _ => by rfl) ?_
  simp only [Act.put, List.setIfInBounds_toArray, List.set_cons_succ, List.set_cons_zero]
  refine lx_val (by rfl) (.int .i64 (n : Int)) (fun X hX hF => exec_lenv Tryd.underlying51 _ (by rfl) A n c0 (by rfl) _ rfl X) ?_
  simp only [Act.put, List.setIfInBounds_toArray, List.set_cons_succ, List.set_cons_zero]
  refine lx_val (by rfl) (.slice A' m c1) (fun X _ _ => by rfl) ?_
  simp only [Act.put, List.setIfInBounds_toArray, List.set_cons_succ, List.set_cons_zero]
  refine lx_val (by rfl) (.int .i64 (m : Int)) (fun X hX hF => exec_lenv Tryd.underlying51 _ (by rfl) A' m c1 (by rfl) _ rfl X) ?_
  simp only [Act.put, List.setIfInBounds_toArray, List.set_cons_succ, List.set_cons_zero]
  refine lx_val (by rfl) (.int .i64 ((n : Int) + (m : Int))) (fun X hX hF => exec_add _ _ _ _ (by rfl) (n : Int) (m : Int) ((n : Int) + (m : Int)) (by rfl) (by rfl) (by omega) (by omega) (by omega) X) ?_
  simp only [Act.put, List.setIfInBounds_toArray, List.set_cons_succ, List.set_cons_zero]
  refine lx_val (by rfl) (.int .i64 ((n : Int) + (m : Int) + 1)) (fun X hX hF => exec_add _ _ _ _ (by rfl) ((n : Int) + (m : Int)) 1 ((n : Int) + (m : Int) + 1) (by rfl) (by rfl) (by omega) (by omega) (by omega) X) ?_
  simp only [Act.put, List.setIfInBounds_toArray, List.set_cons_succ, List.set_cons_zero]
  refine lx_new (by rfl) (fun X hX hF => exec_make _ _ (by rfl) N w.heap.size (by rfl) (by rfl) (by omega) (by omega) X hX.size) ?_
  intro v17
  simp only [Act.put, List.setIfInBounds_toArray, List.set_cons_succ, List.set_cons_zero]
  refine lx_val (by rfl) (v17) (fun X _ _ => by rfl) ?_
  simp only [Act.put, List.setIfInBounds_toArray, List.set_cons_succ, List.set_cons_zero]
  refine lx_nil ?_
  intro W0 hW0 hF
  obtain ⟨g, rfl, hg, hB0⟩ := hF _ _ List.mem_cons_self
  clear hF
  have b0 : Below w.heap.size w W0 := hW0
  clear hW0
  go_wp2
  go_loopw [20] (fun iv wr => ∃ (i : Nat) (O : List UInt32), i ≤ n ∧ iv = .int .i64 (i : Int) ∧ O.length = N ∧ lw O = lw (l.take i) * lw m' ∧ Blk wr g 63 (O.map W32) ∧ Below w.heap.size w wr) (fun iv _ => n - (intOf iv).toNat)
  case atStart => exact ⟨0, List.replicate N 0, by omega, rfl, List.length_replicate, by rw [zeros_lw]; simp [lw_nil], hB0, b0⟩
  case round =>
    clear hB0 b0
    obtain ⟨i, O, hi, rfl, hO, hlw, hB, hb⟩ := hrel
    have HO := Lib.hid hO
    have HLW := Lib.hid hlw
    clear hO hlw
    by_cases hlt : i < n
    · obtain ⟨b1, o1, rfl, hb1, hc1⟩ := (hrX.out _ hb).digit hlt
      obtain ⟨a, ha⟩ : ∃ a, a = (l.getD i 0).toNat := ⟨_, rfl⟩
      rw [← ha] at hc1
      have ba : a < 4294967296 := ha ▸ u32_lt _
      have HA := Lib.hid ha
      clear ha
      go_upto_region 4 with (fail)
      refine lx_plain_eq ?_
      simp only [its, Nat.zero_add, Nat.reduceAdd]
      refine lx_vale (by rfl) (.int .i64 (i : Int)) (by rfl) ?_
      simp only [Act.put, List.setIfInBounds_toArray, List.set_cons_succ, List.set_cons_zero]
      refine lx_vale (by rfl) (.pointer (some ⟨b1, o1 + i, none⟩)) (exec_ix1 Tryd.underlying51 size_u32 _ _ (by rfl) b1 (o1) n c0 i (by omega) (by rfl) (by rfl) (by omega) _) ?_
      simp only [Act.put, List.setIfInBounds_toArray, List.set_cons_succ, List.set_cons_zero]
      refine lx_vale (by rfl) (.int .u32 (a : Int)) (exec_ld 63 _ (by rfl) b1 (o1 + i) (by rfl) _ _ (hc1) (fun X u h => load_u32 b1 (o1 + i) X u h)) ?_
      simp only [Act.put, List.setIfInBounds_toArray, List.set_cons_succ, List.set_cons_zero]
      refine lx_vale (by rfl) (.int .i64 (i : Int)) (by rfl) ?_
      simp only [Act.put, List.setIfInBounds_toArray, List.set_cons_succ, List.set_cons_zero]
      refine lx_vale (by rfl) (.int .u32 (a : Int)) (by rfl) ?_
      simp only [Act.put, List.setIfInBounds_toArray, List.set_cons_succ, List.set_cons_zero]
      refine lx_nil ?_
      rintro _ rfl _
      clear hc1
      go_wp2
      go_loopw [8, 9] (fun cv kv wr => ∃ (k c : Nat) (O' : List UInt32), k ≤ m + 1 ∧ c < 4294967296 ∧ kv = .int .i64 (k : Int) ∧ cv = .int .u64 (c : Int) ∧ O'.length = N ∧ lw O' + 4294967296 ^ (i + k) * c = lw (l.take i) * lw m' + 4294967296 ^ i * a * lw (m'.take k) ∧ Blk wr g 63 (O'.map W32) ∧ Below w.heap.size w wr) (fun _ kv _ => m + 2 - (intOf kv).toNat)
      case atStart => exact ⟨0, 0, O, by omega, by omega, rfl, rfl, HO.out, by rw [HLW.out]; simp [lw_nil], hB, hb⟩
      case round =>
        clear hB hb
        obtain ⟨k, c, O', hk, hc, rfl, rfl, hO', hlw', hB, hb⟩ := hrel
        have hin : k < m ∨ (0 < c → k ≤ m) := by
          by_cases h : k < m
          · exact .inl h
          · refine .inr fun h0 => ?_
            rw [lw_take_all (show m'.length ≤ k by rw [← HMM.out]; omega), HA.out] at hlw'
            exact times_in HMM.out (by rw [← HLL.out]; exact hlt) hlw' h0
        have HO' := Lib.hid hO'
        have HLW' := Lib.hid hlw'
        clear hO' hlw'
        by_cases hgo : k < m ∨ 0 < c
        · have hkm : k ≤ m := by rcases hin with h | h <;> rcases hgo with h' | h' <;> first | omega | (have := h h'; omega)
          have hj : i + k < O'.length := by rw [HO'.out]; omega
          obtain ⟨y, hy2⟩ : ∃ y, y = (m'.getD k 0).toNat := ⟨_, rfl⟩
          obtain ⟨x, hx2⟩ : ∃ x, x = (O'.getD (i + k) 0).toNat := ⟨_, rfl⟩
          have by' : y < 4294967296 := hy2 ▸ u32_lt _
          have bx : x < 4294967296 := hx2 ▸ u32_lt _
          have hay : a * y ≤ 4294967295 * 4294967295 := Nat.mul_le_mul (by omega) (by omega)
          have hst := times_step (s := a * y + x + c) (d' := (a * y + x + c) / 4294967296) hj HLW'.out (by rw [hy2, hx2]) rfl
          have HY : Hid ((m'.getD k 0).toNat = y) := hy2.symm
          have HX : Hid ((O'.getD (i + k) 0).toNat = x) := hx2.symm
          have HP0 : Hid ((a : Int) * (y : Int) = ((a * y : Nat) : Int)) := (Int.natCast_mul _ _).symm
          clear hy2 hx2
          generalize a * y = p at hay hst HP0
          have HP : Hid ((a : Int) * (y : Int) = (p : Int)) := HP0.out
          have HST := Lib.hid hst
          clear hst HP0
          have hNk : i + k < N := by have := HO'.out; omega
          rcases Nat.lt_or_ge k m with hkl | hkl
          all_goals (try (have hc0 : 0 < c := by omega))
          all_goals
            go_upto_region 9 with (fail)
            refine lx_region [] (by kernel_rfl) (by kernel_rfl) (lasts_nil) ?_
            simp only [its, Nat.zero_add, Nat.reduceAdd]
            refine lx_val (by rfl) (.int .u32 (a : Int)) (fun X _ _ => by rfl) ?_
            simp only [Act.put, List.setIfInBounds_toArray, List.set_cons_succ, List.set_cons_zero]
            refine lx_val (by rfl) (.int .u64 (a : Int)) (fun X hX hF => exec_cnv _ _ .u32 .u64 Tryd.underlying63 Tryd.underlying66 _ (by rfl) (a : Int) (a : Int) (by rfl) (by rw [w64 (by omega) (by omega)]) X) ?_
            simp only [Act.put, List.setIfInBounds_toArray, List.set_cons_succ, List.set_cons_zero]
            refine lx_val (by rfl) (.slice A' m c1) (fun X _ _ => by rfl) ?_
            simp only [Act.put, List.setIfInBounds_toArray, List.set_cons_succ, List.set_cons_zero]
            refine lx_val (by rfl) (.int .i64 (k : Int)) (fun X _ _ => by rfl) ?_
            simp only [Act.put, List.setIfInBounds_toArray, List.set_cons_succ, List.set_cons_zero]
            refine lx_call (by rfl) 46 _ _ (by rfl) (.int .u64 (y : Int)) [.slice A' m c1, .int .i64 (k : Int)] (by rfl) (by kernel_rfl) (fun _ => by go_simp) (fun X hX hF => (atC A' m c1 m' k X (hr'X.out X (bel_next hb hX))).mono fun e X' ⟨h1, h2⟩ => ⟨by rw [h1, HY.out], since_eq h2⟩) ?_
            simp only [Act.put, List.setIfInBounds_toArray, List.set_cons_succ, List.set_cons_zero]
            refine lx_val (by rfl) (.int .u64 (p : Int)) (fun X hX hF => exec_mulk _ _ _ _ (by rfl) .u64 (a : Int) (y : Int) (p : Int) (by rfl) (by rfl) (by rw [HP.out]; exact w64 (by omega) (by omega)) X) ?_
            simp only [Act.put, List.setIfInBounds_toArray, List.set_cons_succ, List.set_cons_zero]
            refine lx_val (by rfl) (.slice (some ⟨g, 0, none⟩) N N) (fun X _ _ => by rfl) ?_
            simp only [Act.put, List.setIfInBounds_toArray, List.set_cons_succ, List.set_cons_zero]
            refine lx_val (by rfl) (.int .i64 (i : Int)) (fun X _ _ => by rfl) ?_
            simp only [Act.put, List.setIfInBounds_toArray, List.set_cons_succ, List.set_cons_zero]
            refine lx_val (by rfl) (.int .i64 (k : Int)) (fun X _ _ => by rfl) ?_
            simp only [Act.put, List.setIfInBounds_toArray, List.set_cons_succ, List.set_cons_zero]
            refine lx_val (by rfl) (.int .i64 ((i : Int) + (k : Int))) (fun X hX hF => exec_add _ _ _ _ (by rfl) (i : Int) (k : Int) ((i : Int) + (k : Int)) (by rfl) (by rfl) (by omega) (by omega) (by omega) X) ?_
            simp only [Act.put, List.setIfInBounds_toArray, List.set_cons_succ, List.set_cons_zero]
            refine lx_val (by rfl) (.pointer (some ⟨g, (i + k), none⟩)) (fun X hX hF => exec_ix0 Tryd.underlying51 size_u32 _ _ (by rfl) g N N (i + k) (by omega) (by rfl) (by rfl) (by omega) X) ?_
            simp only [Act.put, List.setIfInBounds_toArray, List.set_cons_succ, List.set_cons_zero]
            refine lx_val (by rfl) (.int .u32 (x : Int)) (fun X hX hF => exec_ld 63 _ (by rfl) g ((i + k)) (by rfl) _ X ((hB.bel hX).digit hj |>.trans (by rw [HX.out])) (fun X u h => load_u32 g ((i + k)) X u h)) ?_
            simp only [Act.put, List.setIfInBounds_toArray, List.set_cons_succ, List.set_cons_zero]
            refine lx_val (by rfl) (.int .u64 (x : Int)) (fun X hX hF => exec_cnv _ _ .u32 .u64 Tryd.underlying63 Tryd.underlying66 _ (by rfl) (x : Int) (x : Int) (by rfl) (by rw [w64 (by omega) (by omega)]) X) ?_
            simp only [Act.put, List.setIfInBounds_toArray, List.set_cons_succ, List.set_cons_zero]
            refine lx_val (by rfl) (.int .u64 ((p : Int) + (x : Int))) (fun X hX hF => exec_addk _ _ _ _ (by rfl) .u64 (p : Int) (x : Int) ((p : Int) + (x : Int)) (by rfl) (by rfl) (w64 (by omega) (by omega)) X) ?_
            simp only [Act.put, List.setIfInBounds_toArray, List.set_cons_succ, List.set_cons_zero]
            refine lx_val (by rfl) (.int .u64 (c : Int)) (fun X _ _ => by rfl) ?_
            simp only [Act.put, List.setIfInBounds_toArray, List.set_cons_succ, List.set_cons_zero]
            refine lx_val (by rfl) (.int .u64 ((p : Int) + (x : Int) + (c : Int))) (fun X hX hF => exec_addk _ _ _ _ (by rfl) .u64 ((p : Int) + (x : Int)) (c : Int) ((p : Int) + (x : Int) + (c : Int)) (by rfl) (by rfl) (w64 (by omega) (by omega)) X) ?_
            simp only [Act.put, List.setIfInBounds_toArray, List.set_cons_succ, List.set_cons_zero]
            refine lx_val (by rfl) (.int .u64 ((p : Int) + (x : Int) + (c : Int))) (fun X _ _ => by rfl) ?_
            simp only [Act.put, List.setIfInBounds_toArray, List.set_cons_succ, List.set_cons_zero]
            refine lx_nil ?_
            intro X hX _
            have hB := hB.bel hX
            have hb := bel_next hb hX
            clear hX
            have hs3 : p + x + c < 18446744073709551616 := by omega
            rw [show ((p : Int) + (x : Int) + (c : Int)) = ((p + x + c : Nat) : Int) by omega]
            generalize p + x + c = s at HST hs3 ⊢
            clear HY HX HP bx by' hay
            go_upto_region 10 with (fail)
            refine lx_plain_eq_to 9 ?_
            simp only [its, List.take, List.drop, Nat.zero_add, Nat.reduceAdd]
            refine lx_vale (by rfl) (.slice (some ⟨g, 0, none⟩) N N) (by rfl) ?_
            simp only [Act.put, List.setIfInBounds_toArray, List.set_cons_succ, List.set_cons_zero]
            refine lx_vale (by rfl) (.int .i64 (i : Int)) (by rfl) ?_
            simp only [Act.put, List.setIfInBounds_toArray, List.set_cons_succ, List.set_cons_zero]
            refine lx_vale (by rfl) (.int .i64 (k : Int)) (by rfl) ?_
            simp only [Act.put, List.setIfInBounds_toArray, List.set_cons_succ, List.set_cons_zero]
            refine lx_vale (by rfl) (.int .i64 ((i : Int) + (k : Int))) (exec_add _ _ _ _ (by rfl) (i : Int) (k : Int) ((i : Int) + (k : Int)) (by rfl) (by rfl) (by omega) (by omega) (by omega) _) ?_
            simp only [Act.put, List.setIfInBounds_toArray, List.set_cons_succ, List.set_cons_zero]
            refine lx_vale (by rfl) (.int .u64 (s : Int)) (by rfl) ?_
            simp only [Act.put, List.setIfInBounds_toArray, List.set_cons_succ, List.set_cons_zero]
            refine lx_vale (by rfl) (.int .u32 ((s : Int) % 4294967296)) (exec_cnv _ _ .u64 .u32 Tryd.underlying66 Tryd.underlying63 _ (by rfl) (s : Int) ((s : Int) % 4294967296) (by rfl) (by rw [IntKind.wrap_u32]) _) ?_
            simp only [Act.put, List.setIfInBounds_toArray, List.set_cons_succ, List.set_cons_zero]
            refine lx_vale (by rfl) (.int .u64 (s : Int)) (by rfl) ?_
            simp only [Act.put, List.setIfInBounds_toArray, List.set_cons_succ, List.set_cons_zero]
            refine lx_vale (by rfl) (.int .u64 ((s : Int) / 4294967296)) (exec_shr _ _ _ _ (by rfl) .u64 .u64 (s : Int) ((s : Int) / 4294967296) 32 (by rfl) (by rfl) rfl (by decide) (by rfl) _) ?_
            simp only [Act.put, List.setIfInBounds_toArray, List.set_cons_succ, List.set_cons_zero]
            refine lx_vale (by rfl) (.pointer (some ⟨g, (i + k), none⟩)) (exec_ix0 Tryd.underlying51 size_u32 _ _ (by rfl) g N N (i + k) (by omega) (by rfl) (by rfl) (by omega) _) ?_
            simp only [Act.put, List.setIfInBounds_toArray, List.set_cons_succ, List.set_cons_zero]
            refine lx_nil ?_
            rintro _ rfl _
            have q1 := hB.digit hj
            have q2 := hB.free (i + k)
            go_wp2
            go_roundw
            case rel =>
              have h9 := hB.set (i + k) (W32 (UInt32.ofNat s))
              rw [set_map] at h9
              have e9 : W32 (UInt32.ofNat s) = Value.int .u32 ((s : Int) % 4294967296) := by rw [← W32_of]; exact int_eq (by omega)
              rw [e9] at h9
              refine ⟨k + 1, s / 4294967296, O'.set (i + k) (UInt32.ofNat s), by omega, by omega, by go_num, int_eq (by omega), by rw [List.length_set]; exact HO'.out, HST.out, h9, hb.setCell (by simp; omega) _⟩
            case measure => simp [intOf]; omega
        · have hkm : ¬ k < m := fun h => hgo (.inl h)
          obtain rfl : c = 0 := by omega
          have hfin : lw O' = lw (l.take (i + 1)) * lw m' := by
            have h := HLW'.out
            rw [lw_take_all (show m'.length ≤ k by rw [← HMM.out]; omega), HA.out] at h
            rw [lw_take_succ, Nat.add_mul]
            omega
          have HFIN := Lib.hid hfin
          clear hfin
          go_wp2
          go_roundw
          case rel => exact ⟨i + 1, O', by omega, by go_num, HO'.out, HFIN.out, hB, hb⟩
          case measure => simp [intOf]; omega
    · have hin : i = n := by omega
      have hz : lw O = x0 * y0 := by rw [HLW.out, lw_take_all (by rw [← HLL.out]; omega), HL.out, HM.out]
      have HZ := Lib.hid hz
      have hR := hB.rd HO.out (by unfold maxLen; omega)
      clear hz hin
      go_wp2_with fail
      refine (trimC _ N N O _ hR (by omega)).mono ?_
      rintro e w' ⟨rfl, ht, rfl⟩
      rw [HZ.out] at ht
      rw [HZ.out]
      have hpre := hR.pre1 (k := (ld (x0 * y0)).length) (by have := congrArg List.length ht; rw [List.length_take, HO.out] at this; omega)
      rw [ht] at hpre
      have HT := Lib.hid ht
      clear ht
      go_wp2
      go_ret
      exact ⟨_, rfl, ⟨_, N, rfl, hpre⟩, hb⟩

end Go.Proofs.YtglnabciomlmmaaDoor
