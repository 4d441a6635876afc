/-
  compare, plus, minus.
-/
import Derived.Test.YtglnabciomlmmaaDoorNld
namespace Go.Proofs.YtglnabciomlmmaaDoor
open Go.RowKit

/-- -1, 0, 1. -/
def cmpI (m n : Int) : Int := if m < n then -1 else if n < m then 1 else 0
theorem cmpI_lt {m n : Int} (h : m < n) : cmpI m n = -1 := by unfold cmpI; rw [if_pos h]
theorem cmpI_gt {m n : Int} (h : n < m) : cmpI m n = 1 := by unfold cmpI; rw [if_neg (by omega), if_pos h]
theorem cmpI_eq (m : Int) : cmpI m m = 0 := by unfold cmpI; rw [if_neg (by omega), if_neg (by omega)]
theorem cmpC (m n : Int) (w : World) : Calls Tryd.prog 49 #[.int .i64 m, .int .i64 n] w fun e w' => e = .returned (.int .i64 (cmpI m n)) ∧ w = w' := by
  rcases Int.lt_trichotomy m n with h | h | h
  · have H := Lib.hid (cmpI_lt h)
    go_enter Tryd.func49, Tryd.ntmps49
    go_wp2
    go_ret
    exact ⟨by rw [H.out]; rfl, rfl⟩
  · subst h
    have H := Lib.hid (cmpI_eq m)
    go_enter Tryd.func49, Tryd.ntmps49
    go_wp2
    go_ret
    exact ⟨by rw [H.out]; rfl, rfl⟩
  · have H := Lib.hid (cmpI_gt h)
    have h2 : ¬ m < n := by omega
    go_enter Tryd.func49, Tryd.ntmps49
    go_wp2
    go_ret
    exact ⟨by rw [H.out]; rfl, rfl⟩
theorem cmp32C (m n : Int) (w : World) : Calls Tryd.prog 50 #[.int .u32 m, .int .u32 n] w fun e w' => e = .returned (.int .i64 (cmpI m n)) ∧ w = w' := by
  rcases Int.lt_trichotomy m n with h | h | h
  · have H := Lib.hid (cmpI_lt h)
    go_enter Tryd.func50, Tryd.ntmps50
    go_wp2
    go_ret
    exact ⟨by rw [H.out]; rfl, rfl⟩
  · subst h
    have H := Lib.hid (cmpI_eq m)
    go_enter Tryd.func50, Tryd.ntmps50
    go_wp2
    go_ret
    exact ⟨by rw [H.out]; rfl, rfl⟩
  · have H := Lib.hid (cmpI_gt h)
    have h2 : ¬ m < n := by omega
    go_enter Tryd.func50, Tryd.ntmps50
    go_wp2
    go_ret
    exact ⟨by rw [H.out]; rfl, rfl⟩
theorem since_eq {X Y : World} (h : X = Y) : Since X Y := h ▸ Below.refl _ _
theorem ld_mono {a b : Nat} (h : a ≤ b) : (ld a).length ≤ (ld b).length := by
  refine ld_len ?_
  have := lw_lt (ld b)
  rw [lw_ld] at this
  omega
theorem lw_split (l : List UInt32) (k : Nat) : lw l = lw (l.take k) + 4294967296 ^ (l.take k).length * lw (l.drop k) := by
  rw [← lw_append, List.take_append_drop]
theorem lw_top {l m : List UInt32} {k : Nat} (hl : l.length = m.length) (hk : k < l.length) (hd : l.drop (k + 1) = m.drop (k + 1)) (hlt : (l.getD k 0).toNat < (m.getD k 0).toNat) : lw l < lw m := by
  have h1 := lw_split l (k + 1)
  have h2 := lw_split m (k + 1)
  have e1 : (l.take (k + 1)).length = k + 1 := by rw [List.length_take]; omega
  have e2 : (m.take (k + 1)).length = k + 1 := by rw [List.length_take]; omega
  rw [e1, hd, lw_take_succ] at h1
  rw [e2, lw_take_succ] at h2
  have h3 := lw_lt (l.take k)
  have e3 : (l.take k).length = k := by rw [List.length_take]; omega
  rw [e3] at h3
  have h4 : 4294967296 ^ k * ((l.getD k 0).toNat + 1) ≤ 4294967296 ^ k * (m.getD k 0).toNat := Nat.mul_le_mul_left _ hlt
  rw [Nat.mul_add, Nat.mul_one] at h4
  omega
theorem drop_eq_of {l m : List UInt32} {k : Nat} (hl : l.length = m.length) (hk : k < l.length) (hd : l.drop (k + 1) = m.drop (k + 1)) (he : (l.getD k 0).toNat = (m.getD k 0).toNat) : l.drop k = m.drop k := by
  have hm : k < m.length := by omega
  rw [List.drop_eq_getElem_cons hk, List.drop_eq_getElem_cons hm, hd]
  have : l[k] = m[k] := by
    apply UInt32.toNat_inj.1
    simpa [List.getD, hk, hm] using he
  rw [this]

set_option maxRecDepth 100000 in
set_option maxHeartbeats 1600000 in
theorem compareE (A A' : Option Addr) (n c c' : Nat) (l m : List UInt32) (w : World) (hr : Rd w 1 (.slice A n c) n (l.map W32)) (hr' : Rd w 1 (.slice A' n c') n (m.map W32)) (hn : n ≤ 140737488355328) :
    Calls Tryd.prog 35 #[.slice A n c, .slice A' n c'] w fun e w' => e = .returned (.int .i64 (cmpI (lw l) (lw m))) ∧ Below w.heap.size w w' := by
  have hl := hr.n_dg
  have hm := hr'.n_dg
  have hlm : l.length = m.length := by omega
  have H0 := Lib.hid (cmpI_eq (n : Int))
  have HL := Lib.hid hl
  have HM := Lib.hid hm
  have HLM := Lib.hid hlm
  clear hl hm hlm
  go_enter Tryd.func35, Tryd.ntmps35
  go_wp2_with fail
  refine (cmpC (n : Int) (n : Int) _).mono ?_
  rintro e w1 ⟨rfl, rfl⟩
  rw [H0.out]
  go_wp2
  go_loopw [6] (fun v wr => ∃ j : Nat, j ≤ n ∧ v = .int .i64 ((j : Int) - 1) ∧ l.drop j = m.drop j ∧ Below w.heap.size w wr) (fun v _ => (intOf v + 1).toNat)
  case atStart => exact ⟨n, by omega, rfl, by rw [List.drop_eq_nil_of_le (by rw [HL.out]; omega), List.drop_eq_nil_of_le (by rw [HM.out]; omega)], Below.refl _ _⟩
  case round =>
    obtain ⟨j1, hj, rfl, hd, hb⟩ := hrel
    have HD := Lib.hid hd
    clear hd
    by_cases h0 : j1 = 0
    · subst h0
      have he : lw l = lw m := by
        have := HD.out
        simp at this
        rw [this]
      have HE : Hid (cmpI (lw l) (lw m) = 0) := by show _ = _; rw [he]; exact cmpI_eq _
      clear he
      go_wp2
      go_ret
      exact ⟨by rw [HE.out]; rfl, hb⟩
    · obtain ⟨j, rfl⟩ : ∃ j, j1 = j + 1 := ⟨j1 - 1, by omega⟩
      rw [show (((j + 1 : Nat) : Int) - 1) = (j : Int) by omega]
      obtain ⟨b1, o1, rfl, hb1, hc1⟩ := (hr.below hb).digit (k := j) (by omega)
      obtain ⟨b2, o2, rfl, hb2, hc2⟩ := (hr'.below hb).digit (k := j) (by omega)
      have HX : Hid ((l.getD j 0).toNat < (m.getD j 0).toNat → cmpI (lw l) (lw m) = -1) := fun h => cmpI_lt (by have := lw_top HLM.out (by rw [HL.out]; omega) HD.out h; omega)
      have HY : Hid ((m.getD j 0).toNat < (l.getD j 0).toNat → cmpI (lw l) (lw m) = 1) := fun h => cmpI_gt (by have := lw_top HLM.out.symm (by rw [HM.out]; omega) HD.out.symm h; omega)
      have HZ : Hid ((l.getD j 0).toNat = (m.getD j 0).toNat → l.drop j = m.drop j) := fun h => drop_eq_of HLM.out (by rw [HL.out]; omega) HD.out h
      generalize (l.getD j 0).toNat = x at hc1 HX HY HZ
      generalize (m.getD j 0).toNat = y at hc2 HX HY HZ
      go_upto_region 7 with (fail)
      refine lx_region [] (by kernel_rfl) (by kernel_rfl) (lasts_nil) ?_
      simp only [its, Nat.zero_add, Nat.reduceAdd]
      refine lx_val (by rfl) (.slice (some ⟨b1, o1, none⟩) n c) (fun X _ _ => by rfl) ?_
      simp only [Act.put, List.setIfInBounds_toArray, List.set_cons_succ, List.set_cons_zero]
      refine lx_val (by rfl) (.int .i64 (j : Int)) (fun X _ _ => by rfl) ?_
      simp only [Act.put, List.setIfInBounds_toArray, List.set_cons_succ, List.set_cons_zero]
      refine lx_val (by rfl) (.pointer (some ⟨b1, o1 + j, none⟩)) (fun X hX hF => exec_ix1 Tryd.underlying51 size_u32 _ _ (by rfl) b1 (o1) n c j (by omega) (by rfl) (by rfl) (by omega) X) ?_
      simp only [Act.put, List.setIfInBounds_toArray, List.set_cons_succ, List.set_cons_zero]
      refine lx_val (by rfl) (.int .u32 (x : Int)) (fun X hX hF => exec_ld 63 _ (by rfl) b1 (o1 + j) (by rfl) _ X ((Below.cell hX (p := ⟨b1, o1 + j, none⟩) hb1).trans hc1) (fun X u h => load_u32 b1 (o1 + j) X u h)) ?_
      simp only [Act.put, List.setIfInBounds_toArray, List.set_cons_succ, List.set_cons_zero]
      refine lx_val (by rfl) (.slice (some ⟨b2, o2, none⟩) n c') (fun X _ _ => by rfl) ?_
      simp only [Act.put, List.setIfInBounds_toArray, List.set_cons_succ, List.set_cons_zero]
      refine lx_val (by rfl) (.int .i64 (j : Int)) (fun X _ _ => by rfl) ?_
      simp only [Act.put, List.setIfInBounds_toArray, List.set_cons_succ, List.set_cons_zero]
      refine lx_val (by rfl) (.pointer (some ⟨b2, o2 + j, none⟩)) (fun X hX hF => exec_ix1 Tryd.underlying51 size_u32 _ _ (by rfl) b2 (o2) n c' j (by omega) (by rfl) (by rfl) (by omega) X) ?_
      simp only [Act.put, List.setIfInBounds_toArray, List.set_cons_succ, List.set_cons_zero]
      refine lx_val (by rfl) (.int .u32 (y : Int)) (fun X hX hF => exec_ld 63 _ (by rfl) b2 (o2 + j) (by rfl) _ X ((Below.cell hX (p := ⟨b2, o2 + j, none⟩) hb2).trans hc2) (fun X u h => load_u32 b2 (o2 + j) X u h)) ?_
      simp only [Act.put, List.setIfInBounds_toArray, List.set_cons_succ, List.set_cons_zero]
      refine lx_call (by rfl) 50 _ _ (by rfl) (.int .i64 (cmpI x y)) [.int .u32 (x : Int), .int .u32 (y : Int)] (by rfl) (by kernel_rfl) (fun _ => by go_simp) (fun X hX hF => (cmp32C x y X).mono fun e X' ⟨h1, h2⟩ => ⟨h1, since_eq h2⟩) ?_
      simp only [Act.put, List.setIfInBounds_toArray, List.set_cons_succ, List.set_cons_zero]
      refine lx_val (by rfl) (.int .i64 (cmpI x y)) (fun X _ _ => by rfl) ?_
      simp only [Act.put, List.setIfInBounds_toArray, List.set_cons_succ, List.set_cons_zero]
      refine lx_nil ?_
      intro X hX _
      have hb := bel_next hb hX
      clear hX
      rcases Nat.lt_trichotomy x y with h | h | h
      · have H1 : Hid (cmpI (lw l) (lw m) = -1) := HX.out h
        rw [show cmpI (x : Int) (y : Int) = -1 from cmpI_lt (by omega)]
        go_wp2
        go_ret
        exact ⟨by rw [H1.out]; rfl, hb⟩
      · have H1 := Lib.hid (HZ.out h)
        subst h
        rw [show cmpI (x : Int) (x : Int) = 0 from cmpI_eq _]
        go_wp2
        go_roundw
        case rel => exact ⟨j, by omega, rfl, H1.out, hb⟩
        case measure => simp [intOf]
      · have H1 : Hid (cmpI (lw l) (lw m) = 1) := HY.out h
        rw [show cmpI (x : Int) (y : Int) = 1 from cmpI_gt (by omega)]
        go_wp2
        go_ret
        exact ⟨by rw [H1.out]; rfl, hb⟩

set_option maxRecDepth 100000 in
set_option maxHeartbeats 1600000 in
theorem compareN (v v' : Value) (x y : Nat) (w : World) (hr : Lm x v w) (hr' : Lm y v' w) (hx : (ld x).length ≤ 140737488355328) (hy : (ld y).length ≤ 140737488355328) :
    Calls Tryd.prog 35 #[v, v'] w fun e w' => e = .returned (.int .i64 (cmpI x y)) ∧ Below w.heap.size w w' := by
  obtain ⟨A, c, rfl, hr⟩ := hr
  obtain ⟨A', c', rfl, hr'⟩ := hr'
  have h1 := lw_ld x
  have h2 := lw_ld y
  rcases Nat.lt_trichotomy (ld x).length (ld y).length with h | h | h
  · have hlt : x < y := by
      rcases Nat.lt_or_ge x y with h' | h'
      · exact h'
      · have := ld_mono h'
        omega
    have H := Lib.hid (cmpI_lt (show (x : Int) < y by omega))
    have H2 := Lib.hid (cmpI_lt (show ((ld x).length : Int) < (ld y).length by omega))
    clear h1 h2
    go_enter Tryd.func35, Tryd.ntmps35
    go_wp2_with fail
    refine (cmpC _ _ _).mono ?_
    rintro e w1 ⟨rfl, rfl⟩
    rw [H2.out]
    go_wp2
    go_ret
    exact ⟨by rw [H.out]; rfl, Below.refl _ _⟩
  · rw [← h] at hr' ⊢
    have hc := compareE A A' (ld x).length c c' (ld x) (ld y) w hr hr' hx
    rw [h1, h2] at hc
    exact hc
  · have hlt : y < x := by
      rcases Nat.lt_or_ge y x with h' | h'
      · exact h'
      · have := ld_mono h'
        omega
    have H := Lib.hid (cmpI_gt (show (y : Int) < x by omega))
    have H2 := Lib.hid (cmpI_gt (show ((ld y).length : Int) < (ld x).length by omega))
    clear h1 h2
    go_enter Tryd.func35, Tryd.ntmps35
    go_wp2_with fail
    refine (cmpC _ _ _).mono ?_
    rintro e w1 ⟨rfl, rfl⟩
    rw [H2.out]
    go_wp2
    go_ret
    exact ⟨by rw [H.out]; rfl, Below.refl _ _⟩

end Go.Proofs.YtglnabciomlmmaaDoor
